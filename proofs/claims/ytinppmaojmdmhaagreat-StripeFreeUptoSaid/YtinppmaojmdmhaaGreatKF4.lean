/- What the claim leans on, part 4. Laws. -/
import Derived.Test.YtinppmaojmdmhaaGreatKF3
import Derived.Conc.LeavingOf
import Derived.ProofKit
import Derived.Deep.Slices
import Derived.SizedLaws
import Derived.Conc.SmallLaws
import Derived.Laws.LoneSync
import Derived.FollowTie
import Derived.LaidEqlPtr
set_option linter.unusedVariables false
set_option maxHeartbeats 4000000
section
namespace Go.Vy.Sc
open Go Go.Conc Go.Yc Go.RowKit Go.Proofs Go.Proofs.YtinppmaojmdmhaaGreat Tryz
open Go.Vc Go.Wg
section
attribute [local irreducible] KK
section
variable{Y:Sys}{fb:Nat->FuncId}{q:PR Y}{Γ:Geo}{X:Gh}{R R0:Rn}{Mn:Nat->Option Obj}{w0:World}{ft:Nat->Option (Y.L ⊕ Nat)}{i t at_ cb:Nat}{n0:List (Nat×Nat×Nte)}{H:Hid}{v:World}
theorem cy0.he0(h:cy0 Y fb q w0 Γ X Mn ft i t at_ cb n0 R0 R H v):0<Γ.gi i:=(h.fix.ck i _ (List.getElem?_eq_getElem h.il) h.nil).he0.1
theorem cy0.tz1(h:cy0 Y fb q w0 Γ X Mn ft i t at_ cb n0 R0 R H v){b:Nat}(hb:H b=none):¬R.fp b/\¬Kept Y Γ R Mn b:=⟨fun z=>h.all b (.inl z) hb,fun z=>h.all b (.inr z) hb⟩
theorem cy0.again(hY:LeOk Y)(h:cy0 Y fb q w0 Γ X Mn ft i t at_ cb n0 R0 R H v){w':World}{R':Rn}{τ:Tape}{d:Nat}(hg:Rg R.fp (over H v).heap.size (over H v) w' w0.heap.size R')(V:Nat->Prop)[DecidablePred V](hV:∀b,V b↔(H b=none/\¬R'.fp b))(nv:k8 w')(hR:∃na nc nts,R'={R with na:=na,nc:=nc,nts:=nts})
  (h1:gh (Yc.G2 (X3 V w') τ d) 0=t) (hgm:gm (Yc.G2 (X3 V w') τ d)=gm v) (h3:∃c,R'.cl[i]? =some c/\c.cb=cb/\((gh (Yc.G2 (X3 V w') τ d) 2=0/\c.st=false/\R'.nts=n0++tell i at_ ((Y.k5 q t).nts.take (gh (Yc.G2 (X3 V w') τ d) 1))/\c.X1=Y.X1 q i t)\/(gh (Yc.G2 (X3 V w') τ d) 2=1/\c.st=true/\R'.nts=n0))) :
  cy0 Y fb q w0 Γ X Mn ft i t at_ cb n0 R0 R' (av0 V w') (Yc.G2 (X3 V w') τ d)/\kl0 v (Yc.G2 (X3 V w') τ d):=by
 obtain⟨na,nc,nts,rfl⟩:=hR;have hkb:∀b,b<(over H v).heap.size->¬R.fp b->w'.heap[b]? =(over H v).heap[b]?:=fun b hb hf=>hg.md.block b hb hf;have qo0:=h.fix.n6 hY (R':={R with na:=na,nc:=nc,nts:=nts}) (w':=w') hg.m rfl rfl rfl hg.fp rfl (fun j c hc=>⟨c,hc,rfl,rfl,fun _=>⟨rfl,rfl⟩⟩) hg.md.size (fun b hb hf _=>.inl (hkb b hb hf)) Uz;have heL:=h.he.lt;have heF:¬R.fp (Γ.eb i):=(h.fix.side i h.il h.nil).2.2.2;refine⟨cy0.enter hY V qo0 (fun b hb hv=>?_) nv h1 (hgm.trans h.gmq) h.atq h3 ?_ h.nil ((hkb _ heL heF).trans h.he),⟨?_,?_,?_,fun b hb=>?_⟩⟩
 ·obtain⟨h4,h5⟩:=(hV b).1 hv;rcases hb with hb|hb
  ·exact h5 hb
  ·exact h.all b (.inr hb) h4
 ·obtain⟨a,c,n,e⟩:=h.rel;exact⟨na,nc,nts,by rw[e]⟩
 ·exact hg.md.os
 ·exact hg.md.output
 ·show v.heap.size <=(X3 V w').heap.size;rw[bt0,<- w5 H v];exact hg.md.size
 ·show(X3 V w').heap[b]? =v.heap[b]?;have Z8:b<(over H v).heap.size:=by rw[w5];exact hb
  cases hh:H b with
  |none=>
   have hf:=h.tz1 hh;have hf':¬Rn.fp {R with na:=na,nc:=nc,nts:=nts} b:=fun z=>(hg.fp b z).elim hf.1 (Nat.not_le_of_lt Z8);rw[dt0 _ ((hV b).2 ⟨hh,hf'⟩),hkb b Z8 hf.1,L6 v hh]
  |some o=>
   rw[mc0 (fun z=>by rw[((hV b).1 z).1]at hh;cases hh) (Nat.lt_of_lt_of_le Z8 hg.md.size),h.no b o hh]
theorem mj0{Post:Value->World->Prop}{z0:Value}{me0:Goroutine}{st:Bool}(hY:tn0 Y)(hX0:X.W1 0=some ⟨R0.yb,z0,me0⟩)(hnt:n0.length+(Y.k5 q t).nts.length <=1000000000)
  (ag0:∀Γ' X' R' w',After Y fb q w0 Mn ft i t n0 R0 st Γ' X' R' w'->Fin prog Post X' 0 (Go.Conc.served me0 (.i (i:Int))) w') {g:Goroutine} {v:World} (hp:bc0 (Y.cfg fb q w0 i cb (Γ.top i)) g v) :
  ∀H R,cy0 Y fb q w0 Γ X Mn ft i t at_ cb n0 R0 R H v->(∀c,R.cl[i]? =some c->c.st=st)->nh0 prog Post X (Γ.gi i) H g v:=by
 induction hp with
 |own hr g' u' d' hf hk ih=>
  intro H R h O2;have hg0:(Γ.gi i==0)=false:=by have:=h.he0;simp;omega
  refine sx0 hr fun τ d=>⟨g' τ d,u' τ d,by rw[hg0];exact hf τ d,fun he=>ed0 (ih τ d H R (h.evo hY.toLeOk ⟨he.size,he.obj⟩ rfl) O2)⟩
 |ign h0 ih=>
  intro H R h O2;exact Mj0.2 _ _ fun hv=>ih hv H R h O2
 | @number cs v hN k ih=>
  obtain⟨fn,h1,h2⟩:=hN;have h1:prog.funcs[172]? =some fn:=h1;rw[func172]at h1;cases h1;exact absurd h2 (by rw[show Tryz.f172.body.isSome=false by kernel_rfl];exact fun h=>by cases h)
 |X1 hfn=>cases hfn
 | @again cs v s rf df h2 hs k ih=>
  intro H R h O2 hH;obtain⟨c,hc,hcb,y7⟩:=h.cl;have hB:=h.fix.mem.blk i c hc;have rk0:c.st=true/\R.nts=n0:=by
   rcases y7 with y7|y7
   ·have:=y7.1;omega
   ·exact y7.2
  have hg0:(Γ.gi i==0)=false:=by have:=h.he0;simp;omega
  obtain⟨s0,rfl⟩:=hs;subst hcb;refine Jn0 (Z:=Fin prog Post X (Γ.gi i)) (by have:=@J6 prog Post X (Γ.gi i);rw[hg0]at this;exact this) hB rk0.1 fun w' fr ch hb hf hr hl=>?_;refine de0 _ _ fun nv=>?_;haveI:DecidablePred fun b=>H b=none/\¬R.fp b:=fun _=>Classical.propDecidable _;have hg:Rg R.fp (over H v).heap.size (over H v) w' w0.heap.size R:=h.fix.mem.rg.j0 hb;have htp:w'.tape=v.tape:=hb.tape;obtain⟨h5,h6⟩:=h.again hY.toLeOk (τ:=w'.tape) (d:=w'.drawn) hg (fun b=>H b=none/\¬R.fp b) (fun _=>Iff.rfl) nv ⟨R.na,R.nc,R.nts,rfl⟩ ((J3 htp 0).trans h.tq) (df0 htp) ⟨c,hc,rfl,.inr ⟨(J3 htp 2).trans h2,rk0⟩⟩;exact np0 (fun b=>H b=none/\¬R.fp b) (ih _ fr ch h6 htp hf hr hl _ R h5 O2)
 | @note cs v kind text f hfn h2 hx k ih=>
  intro H R h O2 hH;obtain rfl:=Option.some.inj hfn;obtain⟨c,hc,hcb,y7⟩:=h.cl;have htq:=h.tq;have ln0:c.st=false/\R.nts=n0++tell i at_ ((Y.k5 q t).nts.take (gh v 1))/\c.X1=Y.X1 q i t:=by
   rcases y7 with y7|y7
   ·exact y7.2
   ·have:=y7.1;omega
  have N5:(Y.k5 q t).nts[gh v 1]? =some ⟨kind,text⟩:=by rw[<- htq];exact hx
  have O1:=(List.getElem?_eq_some_iff.1 N5).1;have hle:w0.heap.size <=(over H v).heap.size:=h.fix.size;subst hcb;refine @jx1 (D2 prog (Γ.gi i==0)) R.fp (over H v).heap.size (over H v) w0.heap.size R (over H v) h.fix.mem.rg hle i c hc ln0.1 (by
   rw[ln0.2.1];simp[tell];omega) kind text _ J6 cs fun e w' fr he hf hl=>?_
  cases e with
  |returned x=>
   obtain⟨rfl,a,n,hg⟩:=he;refine de0 _ _ fun nv=>?_;haveI:DecidablePred fun b=>H b=none/\¬Rn.fp {R with na:=a,nc:=n,nts:=R.nts ++ [(R.evs.length,i,⟨kind,text⟩)]} b:=fun _=>Classical.propDecidable _;have htp:w'.tape=v.tape:=hg.md.tape;have hg1:∀U:World,gh (Yc.G2 U (gr0 w' 1 (gh v 1+1)).tape w'.drawn) 1=gh v 1+1:=fun U=>iw1 w' 1 _;have hgn:∀(U:World)(j:Nat),j≠1->gh (Yc.G2 U (gr0 w' 1 (gh v 1+1)).tape w'.drawn) j=gh v j:=fun U j hj=>(Oo0 w' _ hj).trans (J3 htp j);obtain⟨h5,h6⟩:=h.again hY.toLeOk (τ:=(gr0 w' 1 (gh v 1+1)).tape) (d:=w'.drawn) hg (fun b=>H b=none/\¬Rn.fp {R with na:=a,nc:=n,nts:=R.nts ++ [(R.evs.length,i,⟨kind,text⟩)]} b) (fun _=>Iff.rfl) nv ⟨a,n,_,rfl⟩ ((hgn _ 0 Ud).trans h.tq) (funext fun j=>hgn _ (j+3) Uo)
    ⟨c,hc,rfl,.inl ⟨(hgn _ 2 Ud).trans h2,ln0.1,by
     rw[hg1,ln0.2.1,h.atq,List.take_add_one,N5];simp[tell],ln0.2.2⟩⟩
   refine np0 (fun b=>H b=none/\¬Rn.fp {R with na:=a,nc:=n,nts:=R.nts ++ [(R.evs.length,i,⟨kind,text⟩)]} b) (ed0 (ih _ fr h6 (hgn _ 0 Ud) (hg1 _) ((hgn _ 2 Ud).trans h2) (funext fun j=>hgn _ (j+3) Uo) hf (Gf0 (by rw[hf];exact func74) (.inl rfl) (fun _=>rfl) hl nv) _ _ h5 O2))
  |panicked ch=>exact he.elim
  |outgrown=>exact he.elim
 | @step cs v s rf df l m F ht hs hr hdf Rdo hdo go stop ihg ihs=>
  intro H R h O2 hH;obtain⟨c,hc,hcb,y7⟩:=h.cl;have htq:=h.tq;have hn:=h.nil;have h2:gh v 2=0:=ht.on;have ln0:c.st=false/\R.nts=n0++tell i at_ ((Y.k5 q t).nts.take (gh v 1))/\c.X1=Y.X1 q i t:=by
   rcases y7 with y7|y7
   ·exact y7.2
   ·have:=y7.1;omega
  have go1:(Y.k5 q t).X4= .inl l:=by rw[<- htq];exact ht.X4
  have zh1:gh v 1=(Y.k5 q t).nts.length:=by rw[<- htq];exact ht.nts
  have hinv:Y.Inv (Y.k5 q t).s m v F:=by rw[<- htq];exact ht.inv
  have hck:=h.fix.ck i c hc hn;have z8:=h.il;obtain⟨na,nc,nts,wo0⟩:=h.rel;have hyb:R.yb=R0.yb:=by rw[wo0]
  have hR0:R0.cl=R.cl:=by rw[wo0]
  have kj1:R0.evs=R.evs:=by rw[wo0]
  subst hcb hs;refine step_fin (Bs:=w0.heap.size) h.fix.mem.rg hc ln0.1 (Bh0 (Cfg.iy0.fnV hr)) (Bh0 hdf) (by have:=h.he0;omega) (by rw[hyb];exact hX0) h.fix.dn hck.stay ⟨hck.ch,h.chs hn hc⟩ fun w' me hg hme=>?_;have hef:=(h.fix.side i z8 hn).2.2.2;have heb:P1 w' (Γ.eb i) #[.bool false] 4 (0,0):=(hg.md.block _ h.he.lt hef).trans h.he;obtain⟨h7,h8⟩:=h.home hY hn (c':={c with sp:=Y.stp i l,rf:=rf,df:=df,wt:=true}) (ends:=R.ends) hc rfl rfl rfl hg rfl (fun k hk=>.inl hk) ⟨_,heb⟩ (fun _ _=>rfl) F ht.le hinv ⟨ht.os,ht.output⟩ (sh:=some ⟨c.rc,.bool false,me⟩) (fun s e=>by cases e;rfl) (f:=.inl l)
   (N:=fun b=>b<v.heap.size/\v.heap[b]? ≠some nothing/\¬F b) (fun b hb=>⟨hb.2.1,hb.1,hb.2.2⟩) (fun cq0=>.inr ⟨hn,rfl,ln0.1,rfl,heb,me,cs,v,m,F,Rdo,cp0,hme,hr,hdf,fun b=>by simp[Geo.qs0,Geo.put],fun b hb=>by
    have Z8:b<v.heap.size/\v.heap[b]? ≠some nothing/\¬F b:=by simpa [Geo.qs0,Geo.put]using hb
    exact cq0 b Z8.2.1 Z8.1,ht.os,ht.output,by have:=hg.md.size;rw[w5]at this;exact this,hY.refl _ _,hdo,go,stop⟩)
  rw[<- go1]at h7;obtain⟨a,b,e⟩:=h8;refine ag0 _ _ _ _ (.inl ⟨(O2 c hc).symm.trans ln0.1,h7,a,b,c,{c with sp:=Y.stp i l,rf:=rf,df:=df,wt:=true},by rw[hR0];exact hc,rfl,e.trans ?_⟩)
  ·rw[go1,show ov0 R0.ends i (Sum.inl l:Y.L ⊕ Nat)=R.ends from by rw[wo0];rfl,ln0.2.1,zh1,List.take_length,kj1,h.atq]
 | @done fr v e F hf hl hd=>
  intro H R h O2 hH;obtain⟨c,hc,hcb,y7⟩:=h.cl;have htq:=h.tq;have hn:=h.nil;have hck:=h.fix.ck i c hc hn;have z8:=h.il;obtain⟨na,nc,nts,wo0⟩:=h.rel;have hyb:R.yb=R0.yb:=by rw[wo0]
  have hR0:R0.cl=R.cl:=by rw[wo0]
  have kj1:R0.evs=R.evs:=by rw[wo0]
  have hsd:=h.fix.side i z8 hn;have hlen:R.ends.length=R.m:=h.fix.mem.jv0;have him:i<R.ends.length:=by have:=h.fix.mem.lcl;omega
  have key:∀x:Nat,tk1 c (x:Int) e->((st=false/\(Y.k5 q t).X4= .inr x/\gh v 1=(Y.k5 q t).nts.length/\∃m,(∀j,j≠i->Y.le j (gm v) m)/\Y.Inv (Y.k5 q t).s m v F)\/(st=true/\x=0/\∃m,(∀j,j≠i->Y.le j (gm v) m)/\Y.Inv (Y.sAt q t) m v F))->v.os=w0.os->v.output=w0.output->Fin prog Post X (Γ.gi i) (G fr (Γ.top i)) (over H v):=by
   intro x hx hk hos lo0;have hg:Rg (fun b=>R.fp b\/b=Γ.eb i) (over H v).heap.size (over H v) (over H v) w0.heap.size R:=⟨h.fix.mem,mi0.refl _ _ _,fun k hk=>.inl (.inl hk),Nat.le_refl _⟩
   refine hck.top.leave (x:Int) hg rfl hc rfl hck.ha h.he (.inl (.inr rfl)) hx h.he0 (by rw[hyb];exact hX0) h.fix.dn h.fix.T4 (fun w' hg' heb=>?_) (pz0 hH hl);have Vf0:∀j,j≠i->(R.ends.set i (x:Int))[j]? =R.ends[j]?:=fun j hj=>by rw[List.getElem?_set_ne (Ne.symm hj)]
   have hmk:∀s m,(∀j,j≠i->Y.le j (gm v) m)->Y.Inv s m v F->_:=fun s m hm hs=>h.home hY hn (c':={c with wt:=false}) (ends:=R.ends.set i (x:Int)) hc rfl rfl rfl hg' rfl (fun k hk=>hk) heb Vf0 F hm hs ⟨hos,lo0⟩ (sh:=none) (fun s e=>by cases e) (f:=.inr x) (N:=fun _=>False) (fun b hb=>hb.elim) (fun cq0=>.inr ⟨hn,rfl,by simp[him],cp0⟩);rcases hk with⟨h1,h2,h3,m,hm,h4⟩|⟨h1,h2,m,hm,h3⟩
   ·have rk0:c.st=false:=(O2 c hc).trans h1;have ln0:R.nts=n0++tell i at_ ((Y.k5 q t).nts.take (gh v 1)):=by
     rcases y7 with y7|y7
     ·exact y7.2.2.1
     ·rw[rk0]at y7;exact absurd y7.2.1 Ud
    obtain⟨h7,a,b,e'⟩:=hmk _ m hm h4;rw[<- h2]at h7;refine ag0 _ _ _ _ (.inl ⟨h1,h7,a,b,c,{c with wt:=false},by rw[hR0];exact hc,rfl,e'.trans ?_⟩)
    ·rw[h2,show ov0 R0.ends i (Sum.inr x:Y.L ⊕ Nat)=R.ends.set i (x:Int)from by rw[wo0];rfl,ln0,h3,List.take_length,kj1,h.atq]
   ·have rk0:c.st=true:=(O2 c hc).trans h1;have ln0:R.nts=n0:=by
     rcases y7 with y7|y7
     ·rw[rk0]at y7;exact absurd y7.2.1 Ud
     ·exact y7.2.2
    obtain⟨h7,a,b,e'⟩:=hmk _ m hm h3;subst h2;refine ag0 _ _ _ _ (.inr ⟨h1,h7,a,b,c,{c with wt:=false},by rw[hR0];exact hc,rfl,e'.trans ?_⟩)
    ·rw[show R0.ends.set i 0=R.ends.set i ((0:Nat):Int)from by rw[wo0];rfl,ln0]
  have kk1:gh v 2=0->c.st=false:=fun z=>by rcases y7 with y7|y7;exact y7.2.1;have:=y7.1;omega
  have bs1:gh v 2=1->c.st=true:=fun z=>by rcases y7 with y7|y7;have:=y7.1;omega;exact y7.2.1
  have ko0:∀(x:Nat) m,(Y.cfg fb q w0 i cb (Γ.top i)).Told v m F (.inr x)->(st=false/\(Y.k5 q t).X4= .inr x/\gh v 1=(Y.k5 q t).nts.length/\∃m,(∀j,j≠i->Y.le j (gm v) m)/\Y.Inv (Y.k5 q t).s m v F):=fun x m ht=>
   ⟨(O2 c hc).symm.trans (kk1 ht.on),by rw[<- htq];exact ht.X4,by rw[<- htq];exact ht.nts,m,ht.le,by rw[<- htq];exact ht.inv⟩
  cases e with
  |outgrown=>exact hd.elim
  |returned x=>
   rcases hd with⟨m,ht⟩|⟨h2,h3,h4,h5⟩
   ·exact key 1 (.inr ⟨kk1 ht.on,rfl⟩) (.inl (ko0 1 m ht)) ht.os ht.output
   ·exact key 0 (.inl ⟨bs1 h2,rfl⟩) (.inr ⟨(O2 c hc).symm.trans (bs1 h2),rfl,by rw[<- htq];exact h3⟩) h4 h5
  |panicked ch=>
   obtain⟨u7,⟨m,ht⟩|⟨h2,h3,h4,h5⟩⟩:=hd
   ·exact key 2 ⟨u7,.inr ⟨kk1 ht.on,rfl⟩⟩ (.inl (ko0 2 m ht)) ht.os ht.output
   ·exact key 0 ⟨u7,.inl ⟨bs1 h2,rfl⟩⟩ (.inr ⟨(O2 c hc).symm.trans (bs1 h2),rfl,by rw[<- htq];exact h3⟩) h4 h5
end
end
section
attribute [local irreducible] KK
def P3{α:Type}(f:Nat->α)(i:Nat)(x:α):Nat->α:=fun j=>if j=i then x else f j
section
variable{α:Type}{f:Nat->α}{i:Nat}{x:α}
theorem B1{j:Nat}(h:j≠i):P3 f i x j=f j:=by simp[P3,h]
theorem I1:P3 f i x i=x:=by simp[P3]
end
def Geo.add(Γ:Geo)(i g a e:Nat)(top:List Frame):Geo:=⟨Γ.gm,P3 Γ.gi i g,P3 Γ.ab i a,P3 Γ.eb i e,P3 Γ.top i top,P3 Γ.pv i fun _=>False⟩
def Gg0(X:Gh)(cb rc:Nat)(s:e7):Gh:=
 {((Gh.hire {X.lower cb with pend:=1,cap:=X.cap+1,dn:=0} s).lower rc)with chs:=fun c=>X.chs c\/c=rc,stay:=Go.ConcN.upd X.stay X.n [(⟨cb,2,none⟩,.chan (some rc))]}
section
variable{Y:Sys}{fb:Nat->FuncId}{q:PR Y}{Γ:Geo}{X:Gh}{R:Rn}{w w1:World}{Mn:Nat->Option Obj}{w0:World}{ft:Nat->Option (Y.L ⊕ Nat)}{i:Nat}
section
variable{cb rc n:Nat}{a:Option Addr}
theorem eh0{α:Type}{l:List α}{x y:α}{j:Nat}(h:(l ++ [x])[j]? =some y):l[j]? =some y\/(j=l.length/\x=y):=by
 rcases Nat.lt_trichotomy j l.length with z|z|z
 ·rw[List.getElem?_append_left z]at h;exact .inl h
 ·subst z;simp at h;exact .inr ⟨rfl,h⟩
 ·rw[List.getElem?_eq_none (by simp;omega)]at h;cases h
theorem Fix.kl1(hY:LeOk Y)(h:Fix Y fb q w0 Γ X R w Mn none ft)(hn:Y.nil i=true)(hi:R.cl.length=i)(him:i<R.m)(hcb:w.heap.size <=cb)(hg:Rg R.fp w.heap.size w w1 w0.heap.size {R with ca:=a,cc:=n,cl:=R.cl ++ [n5 cb rc],ends:=R.ends.set i 1})(hft:ft i=none):Fix Y fb q w0 Γ (X.lower cb) {R with ca:=a,cc:=n,cl:=R.cl ++ [n5 cb rc],ends:=R.ends.set i 1} w1 Mn none (fun j=>if j=i then some (.inr 1) else ft j):=by
 have O1:∀b,b<w.heap.size->¬R.fp b->w1.heap[b]? =w.heap[b]?:=hg.md.block;have hle:∀j,j<(R.cl ++ [n5 cb rc]).length->Y.nil j=false->j<R.cl.length:=fun j hj P9=>by
  rw[List.length_append,List.length_singleton]at hj;rcases Nat.lt_or_ge j R.cl.length with z|z
  ·exact z
  ·have:j=i:=by omega
   rw[this,hn]at P9;cases P9
 have hold:∀j c,(R.cl ++ [n5 cb rc])[j]? =some c->Y.nil j=false->R.cl[j]? =some c:=fun j c hc P9=>by
  rcases eh0 hc with z|⟨z,_⟩
  ·exact z
  ·rw[z,hi,hn]at P9;cases P9
 have X2:R.ends.length=R.m:=h.mem.jv0;have hfp:∀b,Rn.fp {R with ca:=a,cc:=n,cl:=R.cl ++ [n5 cb rc],ends:=R.ends.set i 1} b->R.fp b\/w.heap.size <=b:=hg.fp;have hnf:∀b,b<w.heap.size->¬R.fp b->¬Rn.fp {R with ca:=a,cc:=n,cl:=R.cl ++ [n5 cb rc],ends:=R.ends.set i 1} b:=fun b hb hf z=>(hfp b z).elim hf (Nat.not_le_of_lt hb);refine⟨hg.m,h.m,fun j c hc _=>?_,fun j c hc P9=>?_,fun b hb=>?_,fun j hj P9=>?_,fun j b hb=>?_,fun b hb=>?_,h.tl0,fun z=>hg.md.os.trans (h.os z),fun z=>hg.md.output.trans (h.output z),Nat.le_trans h.size hg.md.size,h.T4,h.qd0,h.chy,fun g s hg' hs=>?_,fun j k hj hk P9 hnk=>h.Jp0 j k (hle j hj P9) (hle k hk hnk) P9 hnk,fun j k hj hk P9 hnk=>h.Bg0 j k (hle j hj P9) (hle k hk hnk) P9 hnk,fun j k c d hc hd P9 hnk=>h.Pc0 j k c d (hold j c hc P9) (hold k d hd hnk) P9 hnk,fun j c hc P9=>h.ry j c (hold j c hc P9) P9,h.dn,h.pend,?_,?_,fun b hb=>h.D7 b (Nat.le_trans hg.md.size hb),h.tm0,⟨h.base.le,fun b hb=>hb.elim (h.base.low b) fun e=>by have:=h.base.le;have:=h.size;omega,h.base.pl⟩⟩
 ·rcases eh0 hc with z|⟨z,rfl⟩
  ·have hjl:=(List.getElem?_eq_some_iff.1 z).1;obtain⟨f,h1,h2⟩:=h.cl j c z (by simp);have M3:j≠i:=by omega
   refine⟨f,by simp[M3,h1],h2.n6 (Γ':=Γ) (hY.trans _) (hY.refl _ Γ.gm) (fun b hb=>O1 b (h.pv j b hb).1 (h.pv j b hb).2.1) hg.md.size (fun _=>rfl) (fun P9=>?_) rfl rfl rfl rfl (by show(R.ends.set i 1)[j]? =_;rw[List.getElem?_set_ne (Ne.symm M3)])⟩;exact O1 _ (h.ck j c z P9).he.choose_spec.lt (h.side j hjl P9).2.2.2
  ·rw[hi]at z;subst z;refine⟨.inr 1,by simp,.inl ⟨hn,rfl,rfl,?_⟩⟩;show(R.ends.set j 1)[j]? =some 1;simp[X2,him]
 ·have hc':=hold j c hc P9;have hk:=h.ck j c hc' P9;have hjl:=(List.getElem?_eq_some_iff.1 hc').1;have hs:=h.side j hjl P9;refine⟨hk.top,(O1 _ hk.ha.lt hs.2.2.1).trans hk.ha,?_,hk.he0,hk.stay,hk.ch⟩;obtain⟨en,he⟩:=hk.he;exact⟨en,(O1 _ he.lt hs.2.2.2).trans he⟩
 ·rcases hfp b hb with z|z
  ·exact h.fpB b z
  ·exact Nat.le_trans h.size z
 ·have hjl:=hle j hj P9;have hs:=h.side j hjl P9;have hk:=h.ck j _ (List.getElem?_eq_getElem hjl) P9;exact⟨hs.1,hs.2.1,hnf _ hk.ha.lt hs.2.2.1,hnf _ hk.he.choose_spec.lt hs.2.2.2⟩
 ·have hp:=h.pv j b hb;exact⟨Nat.lt_of_lt_of_le hp.1 hg.md.size,hnf b hp.1 hp.2.1,hp.2.2.1,fun k hk hnk=>hp.2.2.2.1 k (hle k hk hnk) hnk,hp.2.2.2.2⟩
 ·have hm:=h.mn b hb;have Z8:b<w.heap.size:=by
   rcases Nat.lt_or_ge b w.heap.size with z|z
   ·exact z
   ·exact absurd (hm.1.symm.trans (Array.getElem?_eq_none z)) hb
  exact⟨(O1 b Z8 hm.2.1).trans hm.1,hnf b Z8 hm.2.1,fun k hk hnk=>hm.2.2 k (hle k hk hnk) hnk⟩
 ·obtain⟨j,c,h1,h2⟩:=h.W4 g s hg' hs;have hjl:=(List.getElem?_eq_some_iff.1 h1).1;exact⟨j,c,by show(R.cl ++ [n5 cb rc])[j]? =some c;rw[List.getElem?_append_left hjl];exact h1,h2⟩
 ·show X.cap <=(R.cl ++ [n5 cb rc]).length;have:=h.cap;simp;omega
 ·have hu:=h.under.mono hg.md.size;have y7:cb<w1.heap.size:=(hg.m.blk i (n5 cb rc) (by show(R.cl ++ [n5 cb rc])[i]? =_;rw[<- hi];simp)).lt;exact⟨hu.stay,hu.D5,hu.chs,hu.T4,fun b hb=>by
   rcases hb with z|rfl
   ·exact hu.low b z
   ·exact y7⟩
theorem Fix.hire(hY:LeOk Y)(h:Fix Y fb q w0 Γ X R w Mn none ft)(hn:Y.nil i=false)(hi:R.cl.length=i){u9 A8:Nat}{top:List Frame}{s:e7}(hs:s.ch=R.yb)(hM:B5 w1 w0.heap.size {R with ca:=a,cc:=n,cl:=R.cl ++ [n5 cb rc]})(H2:w.heap.size <=w1.heap.size)(_hos:w1.os=w.os/\w1.output=w.output)
  (O1:∀b,b<w.heap.size->¬R.fp b->w1.heap[b]? =w.heap[b]?) (hfp:∀b,Rn.fp {R with ca:=a,cc:=n,cl:=R.cl ++ [n5 cb rc]} b->R.fp b\/w.heap.size <=b) (hcb:w.heap.size <=cb) (hrc:w.heap.size <=rc/\rc<w1.heap.size) (hab:w.heap.size <=u9) (heb:w.heap.size <=A8) (hA:P1 w1 u9 #[.p cb] 123 (0,0)) (hE:P1 w1 A8 #[.bool false] 4 (0,0))
  (hnA:¬Rn.fp {R with ca:=a,cc:=n,cl:=R.cl ++ [n5 cb rc]} u9) (hnE:¬Rn.fp {R with ca:=a,cc:=n,cl:=R.cl ++ [n5 cb rc]} A8) (hT:Uo0 top u9 A8 R.rb cb) :
  Fix Y fb q w0 (Γ.add i X.n u9 A8 top) (Gg0 X cb rc s) {R with ca:=a,cc:=n,cl:=R.cl ++ [n5 cb rc]} w1 Mn (some i) ft:=by
 have hle:∀j,j<(R.cl ++ [n5 cb rc]).length->j≠i->j<R.cl.length:=fun j hj M3=>by
  rw[List.length_append,List.length_singleton]at hj;omega
 have hold:∀j c,(R.cl ++ [n5 cb rc])[j]? =some c->j≠i->R.cl[j]? =some c:=fun j c hc M3=>by
  rcases eh0 hc with z|⟨z,_⟩
  ·exact z
  ·exact absurd (z.trans hi) M3
 have G1:∀c,(R.cl ++ [n5 cb rc])[i]? =some c->c=n5 cb rc:=fun c hc=>by
  rw[<- hi]at hc;simp at hc;exact hc.symm
 have hnf:∀b,b<w.heap.size->¬R.fp b->¬Rn.fp {R with ca:=a,cc:=n,cl:=R.cl ++ [n5 cb rc]} b:=fun b hb hf z=>(hfp b z).elim hf (Nat.not_le_of_lt hb);have hgi:∀{j},j≠i->(Γ.add i X.n u9 A8 top).gi j=Γ.gi j:=fun hj=>B1 hj;have Vg0:(Γ.add i X.n u9 A8 top).gi i=X.n:=I1;have bt1:∀{j},j≠i->(Γ.add i X.n u9 A8 top).ab j=Γ.ab j:=fun hj=>B1 hj;have bu1:(Γ.add i X.n u9 A8 top).ab i=u9:=I1;have Dq0:∀{j},j≠i->(Γ.add i X.n u9 A8 top).eb j=Γ.eb j:=fun hj=>B1 hj;have Gh0:(Γ.add i X.n u9 A8 top).eb i=A8:=I1;have htn:∀{j},j≠i->(Γ.add i X.n u9 A8 top).top j=Γ.top j:=fun hj=>B1 hj;have hti:(Γ.add i X.n u9 A8 top).top i=top:=I1;have hpn:∀{j},j≠i->(Γ.add i X.n u9 A8 top).pv j=Γ.pv j:=fun hj=>B1 hj;have hpi:(Γ.add i X.n u9 A8 top).pv i=fun _=>False:=I1;have hgn:∀j,j<R.cl.length->Y.nil j=false->Γ.gi j≠X.n:=fun j hj P9 e=>by
  have:=(h.ck j _ (List.getElem?_eq_getElem hj) P9).he0;omega
 have m8:∀g,g≠0->(Gg0 X cb rc s).W1 g=X.W1 g:=fun g hg=>Go.ConcN.upd_ne _ _ hg;have Vh0:∀g,g≠X.n->(Gg0 X cb rc s).stay g=X.stay g:=fun g hg=>Go.ConcN.upd_ne _ _ hg;have Vi0:∀b,b<w.heap.size->(∀k,k<R.cl.length->Y.nil k=false->b≠Γ.ab k/\b≠Γ.eb k)->∀k,k<(R.cl ++ [n5 cb rc]).length->Y.nil k=false->b≠(Γ.add i X.n u9 A8 top).ab k/\b≠(Γ.add i X.n u9 A8 top).eb k:=fun b hb hk k hkl hnk=>by
  by_cases hki:k=i
  ·rw[hki,bu1,Gh0];constructor <;> omega
  ·rw[bt1 hki,Dq0 hki];exact hk k (hle k hkl hki) hnk
 refine⟨hM,h.m,fun j c hc hj=>?_,fun j c hc P9=>?_,fun b hb=>?_,fun j hj P9=>?_,fun j b hb=>?_,fun b hb=>?_,Nat.succ_pos _,Uz,Uz,Nat.le_trans h.size H2,h.T4,?_,.inl h.chy,fun g s' hg' hs'=>?_,fun j k hj hk P9 hnk=>?_,fun j k hj hk P9 hnk=>?_,fun j k c d hc hd P9 hnk=>?_,fun j c hc P9=>?_,rfl,rfl,?_,?_,fun b hb=>h.D7 b (Nat.le_trans H2 hb),Uz,⟨h.base.le,fun b hb=>?_,h.base.pl⟩⟩
 ·have M3:j≠i:=fun e=>hj (by rw[e]);have z:=hold j c hc M3;have hjl:=(List.getElem?_eq_some_iff.1 z).1;obtain⟨f,h1,h2⟩:=h.cl j c z (by simp);refine⟨f,h1,h2.n6 (Γ':=Γ.add i X.n u9 A8 top) (hY.trans _) (hY.refl _ Γ.gm) (fun b hb=>O1 b (h.pv j b hb).1 (h.pv j b hb).2.1) H2 (fun P9=>?_) (fun P9=>?_) (Dq0 M3) (hgi M3) (htn M3) (hpn M3) rfl⟩
  ·have:=(h.ck j c z P9).he0;exact m8 _ Uo
  ·exact O1 _ (h.ck j c z P9).he.choose_spec.lt (h.side j hjl P9).2.2.2
 ·by_cases M3:j=i
  ·subst M3;obtain rfl:=G1 c hc;refine⟨by rw[hti,bu1,Gh0];exact hT,by rw[bu1];exact hA,⟨false,by rw[Gh0];exact hE⟩,⟨by rw[Vg0];exact h.tl0,by rw[Vg0];exact Nat.lt_succ_self _⟩,by rw[Vg0];exact Go.ConcN.upd_same _ _ _,.inr rfl⟩
  ·have z:=hold j c hc M3;have hk:=h.ck j c z P9;have hjl:=(List.getElem?_eq_some_iff.1 z).1;have hs:=h.side j hjl P9;refine⟨by rw[htn M3,bt1 M3,Dq0 M3];exact hk.top,by rw[bt1 M3];exact(O1 _ hk.ha.lt hs.2.2.1).trans hk.ha,?_,⟨by rw[hgi M3];exact hk.he0.1,by rw[hgi M3];exact Nat.lt_succ_of_lt hk.he0.2⟩,by rw[hgi M3,Vh0 _ (hgn j hjl P9)];exact hk.stay,.inl hk.ch⟩;obtain⟨en,he⟩:=hk.he;exact⟨en,by rw[Dq0 M3];exact(O1 _ he.lt hs.2.2.2).trans he⟩
 ·rcases hfp b hb with z|z
  ·exact h.fpB b z
  ·exact Nat.le_trans h.size z
 ·by_cases M3:j=i
  ·subst M3;rw[bu1,Gh0];exact⟨Nat.le_trans h.size hab,Nat.le_trans h.size heb,hnA,hnE⟩
  ·have hjl:=hle j hj M3;have hs:=h.side j hjl P9;have hk:=h.ck j _ (List.getElem?_eq_getElem hjl) P9;rw[bt1 M3,Dq0 M3];exact⟨hs.1,hs.2.1,hnf _ hk.ha.lt hs.2.2.1,hnf _ hk.he.choose_spec.lt hs.2.2.2⟩
 ·by_cases M3:j=i
  ·subst M3;rw[hpi]at hb;exact hb.elim
  ·rw[hpn M3]at hb;have hp:=h.pv j b hb;refine⟨Nat.lt_of_lt_of_le hp.1 H2,hnf b hp.1 hp.2.1,hp.2.2.1,Vi0 b hp.1 hp.2.2.2.1,fun k hk hkp=>?_⟩;by_cases hki:k=i
   ·subst hki;rw[hpi]at hkp;exact hkp
   ·rw[hpn hki]at hkp;exact hp.2.2.2.2 k hk hkp
 ·have hm:=h.mn b hb;have Z8:b<w.heap.size:=by
   rcases Nat.lt_or_ge b w.heap.size with z|z
   ·exact z
   ·exact absurd (hm.1.symm.trans (Array.getElem?_eq_none z)) hb
  exact⟨(O1 b Z8 hm.2.1).trans hm.1,hnf b Z8 hm.2.1,Vi0 b Z8 hm.2.2⟩
 ·rw[Vh0 0 (by have:=h.tl0;omega)];exact h.qd0
 ·rw[m8 g hg']at hs';obtain⟨j,c,h1,h2,h3,h4,_⟩:=h.W4 g s' hg' hs';have hjl:=(List.getElem?_eq_some_iff.1 h1).1;have M3:j≠i:=by omega
  exact⟨j,c,by show(R.cl ++ [n5 cb rc])[j]? =some c;rw[List.getElem?_append_left hjl];exact h1,h2,by rw[hgi M3];exact h3,h4,fun e=>M3 (Option.some.inj e)⟩
 ·intro e;by_cases M3:j=i <;> by_cases hki:k=i
  ·rw[M3,hki]
  ·rw[M3,Vg0,hgi hki]at e;exact absurd e.symm (hgn k (hle k hk hki) hnk)
  ·rw[hki,Vg0,hgi M3]at e;exact absurd e (hgn j (hle j hj M3) P9)
  ·rw[hgi M3,hgi hki]at e;exact h.Jp0 j k (hle j hj M3) (hle k hk hki) P9 hnk e
 ·have hlo:∀j,j<R.cl.length->Y.nil j=false->Γ.eb j<w.heap.size:=fun j hj P9=>(h.ck j _ (List.getElem?_eq_getElem hj) P9).he.choose_spec.lt;intro e;by_cases M3:j=i <;> by_cases hki:k=i
  ·rw[M3,hki]
  ·rw[M3,Gh0,Dq0 hki]at e;have:=hlo k (hle k hk hki) hnk;omega
  ·rw[hki,Gh0,Dq0 M3]at e;have:=hlo j (hle j hj M3) P9;omega
  ·rw[Dq0 M3,Dq0 hki]at e;exact h.Bg0 j k (hle j hj M3) (hle k hk hki) P9 hnk e
 ·have hlo:∀j c,R.cl[j]? =some c->Y.nil j=false->c.rc<w.heap.size:=fun j c hc P9=>h.under.chs _ (h.ck j c hc P9).ch;intro e;by_cases M3:j=i <;> by_cases hki:k=i
  ·rw[M3,hki]
  ·subst M3;obtain rfl:=G1 c hc;have:=hlo k d (hold k d hd hki) hnk;have e:rc=d.rc:=e;omega
  ·subst hki;obtain rfl:=G1 d hd;have:=hlo j c (hold j c hc M3) P9;have e:c.rc=rc:=e;omega
  ·exact h.Pc0 j k c d (hold j c hc M3) (hold k d hd hki) P9 hnk e
 ·by_cases M3:j=i
  ·subst M3;obtain rfl:=G1 c hc;have:=h.under.chs _ h.chy;show rc≠R.yb;omega
  ·exact h.ry j c (hold j c hc M3) P9
 ·show X.cap+1 <=(R.cl ++ [n5 cb rc]).length;have:=h.cap;simp;omega
 ·have hu:=h.under.mono H2;have y7:cb<w1.heap.size:=(hM.blk i (n5 cb rc) (by show(R.cl ++ [n5 cb rc])[i]? =_;rw[<- hi];simp)).lt;refine⟨fun g p hp=>?_,hu.D5,fun b hb=>?_,hu.T4,fun b hb=>?_⟩
  ·by_cases hg:g=X.n
   ·subst hg;have hp':p∈Go.ConcN.upd X.stay X.n [((⟨cb,2,none⟩:Addr),Value.chan (some rc))] X.n:=hp;rw[Go.ConcN.upd_same]at hp';simp at hp';rw[hp'];exact y7
   ·rw[Vh0 g hg]at hp;exact hu.stay g p hp
  ·rcases hb with z|rfl
   ·exact hu.chs b z
   ·exact hrc.2
  ·rcases hb with(z|rfl)|rfl
   ·exact hu.low b z
   ·exact y7
   ·exact hrc.2
 ·have h1:=h.base.le;have h2:=h.size;rcases hb with(z|rfl)|rfl
  ·exact h.base.low b z
  ·omega
  ·omega
end
end
end
end Go.Vy.Sc
end
section
namespace Go.Vy.Sc
open Go Go.Conc Go.Yc Go.RowKit Go.Proofs Go.Proofs.YtinppmaojmdmhaaGreat Tryz
open Go.Vc Go.Wg
attribute [local irreducible] KK
def tpT(w:World)(t n s:Nat)(m:Gm):Tape:=fun j q=>if 3 <=j then m (j-3) else(gr0 (gr0 (gr0 w 0 t) 1 n) 2 s).tape j q
theorem tpm(U w:World)(t n s d:Nat)(m:Gm):gm (Yc.G2 U (tpT w t n s m) d)=m:=funext fun i=>by
 show(if 3 <=i+3 then m (i+3-3) else(gr0 (gr0 (gr0 w 0 t) 1 n) 2 s).tape (i+3) (.sched 0))=m i;rw[if_pos Uo,Nat.add_sub_cancel]
theorem tp1(U w:World)(t n s d:Nat)(m:Gm):gh (Yc.G2 U (tpT w t n s m) d) 1=n:=rfl
structure Jq0{P:Program}(K:Cfg P)(beg:K.S->I6 K.S K.L)(u:World)(F:Nat->Prop):Prop where
 inv:K.Inv (K.sOf (gh u 0)) (gm u) u F
 nts:gh u 1=0
 on:gh u 2=0
 out:K.out (gh u 0)=beg (K.sOf (gh u 0))
 os:u.os=K.base.os
 output:u.output=K.base.output
 at_:K.BAt (gh u 0)
structure qf0(Y:Sys)(fb:Nat->FuncId)(caps:Nat->Array Value)(fv:Nat->Value)(ba sa:Option Addr)(sn:Nat)(sc:Nat->Int):Prop where
 sys:tn0 Y
 m1:Y.m <=16
 sn1:sn <=262144
 bsl:SL ba Y.m
 ssl:SL sa sn
 fn:∀i,i<Y.m->(Y.nil i=true/\fv i= .nilFunc)\/(Y.nil i=false/\fv i= .func (.func (fb i)) #[] (caps i)/\∃fn,prog.funcs[fb i]? =some fn/\fn.body.isSome=true/\Ue fn)
 nts:(Y.pn sc sn).nts.length <=1000000000
 body:∀(base:World)(i cb:Nat)(top:List Frame)(u:World)(F:Nat->Prop),i<Y.m->Y.nil i=false->Jq0 (Y.cfg fb (Y.pn sc sn) base i cb top) (Y.beg i) u F->bc0 (Y.cfg fb (Y.pn sc sn) base i cb top) (G (Frame.enter prog (fb i) (#[] ++ #[.p cb]++caps i) .normal) top) u
def fp0{L:Type}:Option (L ⊕ Nat)->Int
 |some (.inr x)=>x
 |_=>0
def km1(Y:Sys)(j:Nat):Option (Y.L ⊕ Nat)->Stp
 |some (.inl l)=>Y.stp j l
 |_=>sp0
def cd0{L:Type}:Option (L ⊕ Nat)->Option (L ⊕ Nat)
 |some (.inl _)=>some (.inr 0)
 |x=>x
structure Tie(Y:Sys)(rb0:Nat)(p:PR Y)(R:Rn):Prop where
 rb:R.rb=rb0
 evs:R.evs=p.evs
 nts:R.nts=p.nts
 used:R.used=p.used
 len:R.cl.length=p.ft.length
 X1:∀j c,R.cl[j]? =some c->c.X1=p.who.count (some j)
 ends:∀j,j<Y.m->R.ends[j]? =some (fp0 p.ft[j]?)
namespace Sys
section
variable{Y:Sys}
theorem bv1(p:PR Y):p.nts <+: (Y.bgn p).nts:=by
 unfold bgn;split
 ·exact List.prefix_refl _
 ·exact List.prefix_append _ _
theorem Vj0(p:PR Y)(i:Nat):p.nts <+: (Y.n6 p i).nts:=by
 unfold n6;split
 ·exact List.prefix_append _ _
 ·exact List.prefix_refl _
theorem Vk0(p:PR Y)(e:Int):p.nts <+: (Y.step p e).nts:=by
 unfold step;split
 ·exact Vj0 _ _
 ·exact List.prefix_refl _
theorem Vl0{n k:Nat}:(Y.I5 n).nts <+: (Y.I5 (n+k)).nts:=by
 induction k with
 |zero=>exact List.prefix_refl _
 |succ k ih=>exact ih.trans (bv1 _)
theorem Vm0{sc:Nat->Int}{n k:Nat}:(Y.pn sc n).nts <+: (Y.pn sc (n+k)).nts:=by
 induction k with
 |zero=>exact List.prefix_refl _
 |succ k ih=>exact ih.trans (Vk0 _ _)
theorem kp0:∀(n j:Nat),(Y.I5 n).who.count (some j)=0
 |0,_=>rfl
 |n+1,j=>by
  show(Y.bgn (Y.I5 n)).who.count (some j)=0;unfold bgn;split
  ·exact kp0 n j
  ·simp[kp0 n j]
theorem to0:∀n,(Y.I5 n).evs=[]/\(Y.I5 n).used=0
 |0=>⟨rfl,rfl⟩
 |n+1=>by
  show(Y.bgn (Y.I5 n)).evs=[]/\(Y.bgn (Y.I5 n)).used=0;unfold bgn;split <;> exact to0 n
theorem ow0:∀n,(Y.I5 n).outs.length <=n
 |0=>Nat.le_refl _
 |n+1=>by
  show(Y.bgn (Y.I5 n)).outs.length <=n+1;have:=ow0 n;unfold bgn;split <;> simp <;> omega
theorem Vn0(p:PR Y)(e:Int):(Y.step p e).evs.length <=p.evs.length+1/\(Y.step p e).outs.length <=p.outs.length+1:=by
 unfold step;split
 ·unfold n6;split <;> simp
 ·simp
theorem tp0(sc:Nat->Int):∀n,(Y.pn sc n).evs.length <=n/\(Y.pn sc n).outs.length <=Y.m+n
 |0=>by
  have h1:=(to0 (Y:=Y) Y.m).1;have h2:=ow0 (Y:=Y) Y.m;show(Y.I5 Y.m).evs.length <=0/\_;rw[h1];exact⟨Nat.le_refl _,by simpa [pn]using h2⟩
 |n+1=>by
  have h1:=tp0 sc n;have h2:=Vn0 (Y:=Y) (Y.pn sc n) (sc n);show(Y.step (Y.pn sc n) (sc n)).evs.length <=_/\(Y.step (Y.pn sc n) (sc n)).outs.length <=_;omega
theorem Gi0{sc:Nat->Int}{n:Nat}(h:Y.rds (Y.pn sc n)=[]):∀k,Y.pn sc (n+k)=Y.pn sc n
 |0=>rfl
 |k+1=>by
  show Y.step (Y.pn sc (n+k)) (sc (n+k))=_;rw[Gi0 h k];unfold step;rw[h];rfl
theorem Dr0{p:PR Y}{j i:Nat}(h:(Y.rds p)[j]? =some i):i<Y.m/\Y.kn0 p i=true:=by
 have:=List.mem_of_getElem? h;simpa [rds]using this
end
end Sys
section
variable{Y:Sys}{fb:Nat->FuncId}{caps:Nat->Array Value}{fv:Nat->Value}{ba sa:Option Addr}{sn:Nat}{sc:Nat->Int}{Mn:Nat->Option Obj}{w0:World}{rb0:Nat}
variable(Y fb sn sc Mn w0 rb0) in
def JB(i:Nat)(X:Gh)(R:Rn)(w:World):Prop:=
 i <=Y.m/\(∃Γ,Main Y fb (Y.pn sc sn) w0 Γ X R w Mn (fun j=>(Y.I5 i).ft[j]?) (Y.I5 i).s)/\Tie Y rb0 (Y.I5 i) R/\R.wts=List.replicate Y.m sp0/\R.stuck=false
variable(Y fb sn sc Mn w0 rb0) in
def J2(n:Nat)(X:Gh)(R:Rn)(w:World):Prop:=
 n <=sn/\(∃Γ,Main Y fb (Y.pn sc sn) w0 Γ X R w Mn (fun j=>(Y.pn sc n).ft[j]?) (Y.pn sc n).s)/\Tie Y rb0 (Y.pn sc n) R/\R.wts=List.replicate Y.m sp0/\R.stuck=false
variable(Y fb sn sc Mn w0 rb0) in
def JE(i:Nat)(X:Gh)(R:Rn)(w:World):Prop:=
 i <=Y.m/\(∃Γ,Main Y fb (Y.pn sc sn) w0 Γ X R w Mn (fun j=>if j<i then cd0 ((Y.pn sc sn).ft[j]?) else(Y.pn sc sn).ft[j]?) (Y.pn sc sn).s)/\Tie Y rb0 (Y.pn sc sn) R /\
  (∀j,j<Y.m->R.wts[j]? =some (if j<i then km1 Y j ((Y.pn sc sn).ft[j]?) else sp0))/\R.stuck=((Y.pn sc sn).ft.any (·.isLeft)&&(Y.rds (Y.pn sc sn)).isEmpty)
section
variable{X:Gh}{R:Rn}{w:World}{i n:Nat}{p:PR Y}
theorem Main.get{Γ:Geo}{q:PR Y}{ft:Nat->Option (Y.L ⊕ Nat)}{s:Y.S}(h:Main Y fb q w0 Γ X R w Mn ft s):∀b,Mn b≠none->w.heap[b]? =Mn b:=fun b hb=>(h.fix.mn b hb).1
theorem Bi0(hi:i <=Y.m):Y.Le (Y.I5 i) (Y.pn sc sn):=by
 have h1:Y.Le (Y.I5 i) (Y.I5 Y.m):=by
  have:=Sys.bp1 (Y:=Y) (n:=i) (k:=Y.m-i)
  rwa [Nat.add_sub_cancel' hi]at this
 have h2:Y.Le (Y.pn sc 0) (Y.pn sc (0+sn)):=Sys.gm1;rw[Nat.zero_add]at h2;exact h1.trans h2
theorem Ds0(hi:n <=sn):Y.Le (Y.pn sc n) (Y.pn sc sn):=by
 have:=Sys.gm1 (Y:=Y) (sc:=sc) (n:=n) (k:=sn-n)
 rwa [Nat.add_sub_cancel' hi]at this
theorem Jr0(hi:i <=Y.m):(Y.I5 i).nts <+: (Y.pn sc sn).nts:=by
 have h1:(Y.I5 i).nts <+: (Y.I5 Y.m).nts:=by
  have:=Sys.Vl0 (Y:=Y) (n:=i) (k:=Y.m-i)
  rwa [Nat.add_sub_cancel' hi]at this
 have h2:(Y.pn sc 0).nts <+: (Y.pn sc (0+sn)).nts:=Sys.Vm0;rw[Nat.zero_add]at h2;exact h1.trans h2
theorem Vo0(hi:n <=sn):(Y.pn sc n).nts <+: (Y.pn sc sn).nts:=by
 have:=Sys.Vm0 (Y:=Y) (sc:=sc) (n:=n) (k:=sn-n)
 rwa [Nat.add_sub_cancel' hi]at this
theorem ra0(hi:p.ft.length=i)(x:Y.L ⊕ Nat):(fun j=>if j=i then some x else p.ft[j]?)=fun j=>(p.ft ++ [x])[j]?:=by
 funext j;subst hi;rcases Nat.lt_trichotomy j p.ft.length with h|h|h
 ·rw[if_neg Uo,List.getElem?_append_left h]
 ·subst h;simp
 ·rw[if_neg Uo,List.getElem?_eq_none Uo,List.getElem?_eq_none (by simp;omega)]
theorem Mr0(hi:i<p.ft.length)(x:Y.L ⊕ Nat):(fun j=>if j=i then some x else p.ft[j]?)=fun j=>(p.ft.set i x)[j]?:=by
 funext j;by_cases h:j=i
 ·subst h;simp[hi]
 ·rw[if_neg h,List.getElem?_set_ne (Ne.symm h)]
theorem ox0{e:List Int}{f:Y.L ⊕ Nat}{g:Nat->Option (Y.L ⊕ Nat)}{m:Nat}(h:∀j,j<m->e[j]? =some (fp0 (g j)))(hl:e.length=m)(h0:fp0 (g i)=0)(j:Nat)(hj:j<m):(ov0 e i f)[j]? =some (fp0 (if j=i then some f else g j)):=by
 cases f with
 |inl l=>
  show e[j]? =_;by_cases M3:j=i
  ·subst M3;rw[h j hj,h0,if_pos rfl];rfl
  ·rw[h j hj,if_neg M3]
 |inr x=>
  show(e.set i (x:Int))[j]? =_;by_cases M3:j=i
  ·subst M3;rw[if_pos rfl];simp[hl,hj];rfl
  ·rw[List.getElem?_set_ne (Ne.symm M3),h j hj,if_neg M3]
set_option maxRecDepth 20000 in
theorem kn1(hO:qf0 Y fb caps fv ba sa sn sc){Post:Value->World->Prop}{w':World}{a:Option Addr}{cb rc:Nat}(hi:i<Y.m)(hJ:JB Y fb sn sc Mn w0 rb0 i X R w)(hf:fv i≠.nilFunc)(hcb:w.heap.size <=cb)(hrc:w.heap.size <=rc)(X2:cb≠rc)(hch:ChanAt w' rc)
  (hg:Rg R.fp w.heap.size w w' w0.heap.size {R with ca:=a,cc:=n,cl:=R.cl ++ [n5 cb rc]}) {me0:Goroutine} (hk:∀X' R' u v,JB Y fb sn sc Mn w0 rb0 (i+1) X' R' u->Fin prog Post X' 0 (Go.Conc.served me0 v) u) :
  Fin prog Post (Gh.hire {X.lower cb with pend:=1,cap:=X.cap+1,dn:=0} ⟨R.yb,.i 0,me0⟩) X.n (born prog (dcall 128 #[.p cb,fv i])) w':=by
 obtain⟨_,⟨Γ,hM⟩,hT,ei0,er0⟩:=hJ;obtain⟨hn,hfv,fn,hfn,hbd,hnm⟩:Y.nil i=false/\fv i= .func (.func (fb i)) #[] (caps i)/\∃fn,prog.funcs[fb i]? =some fn/\fn.body.isSome=true/\Ue fn:=by
  rcases hO.fn i hi with h|h
  ·exact absurd h.2 hf
  ·exact h
 have hF:=hM.fix;have hlen:R.cl.length=i:=hT.len.trans (Sys.v7 i);have hok:=Sys.Do0 (Y:=Y) i;have hle:Y.Le (Y.I5 (i+1)) (Y.pn sc sn):=Bi0 Uo;have hbg:Y.I5 (i+1)={Y.I5 i with s:=(Y.beg i (Y.I5 i).s).s,ft:=(Y.I5 i).ft ++ [(Y.beg i (Y.I5 i).s).X4],nts:=(Y.I5 i).nts++tell i (Y.I5 i).evs.length (Y.beg i (Y.I5 i).s).nts,outs:=(Y.I5 i).outs ++ [Y.beg i (Y.I5 i).s],who:=(Y.I5 i).who ++ [none]}:=by
  show Y.bgn (Y.I5 i)=_;unfold Sys.bgn;rw[Sys.v7 i,hn];rfl
 generalize hp:Y.I5 i=p at *;have hs:Y.sAt (Y.pn sc sn) p.outs.length=p.s:=Sys.bq1 hok (by rw[<- hp];exact Bi0 Uo);have ho:Y.k5 (Y.pn sc sn) p.outs.length=Y.beg i p.s:=Sys.Vd0 (p':=Y.I5 (i+1)) (by rw[hbg]) hle;obtain⟨F,hinv,hFf⟩:=hM.inv;have cq0:=hO.sys.vis _ _ _ _ hinv;refine Fin.chan (b:=rc) (k:=0) ⟨fun j x hx=>?_,(hF.under.lu0 hrc).D5,(hF.under.lu0 hrc).chs,(hF.under.lu0 hrc).T4⟩ (fun z=>?_) (hF.D7 rc hrc) hch ?_
 ·exact(hF.under.lu0 hrc).stay j x hx
 ·rcases z with z|z
  ·have:=hF.under.low rc z;omega
  ·exact X2 z.symm
 have hrl:=hch.lt;have zi1:P1 w' cb ((n5 cb rc).cells R.rb i) 248 (0,3):=hg.m.blk i (n5 cb rc) (by show(R.cl ++ [n5 cb rc])[i]? =_;rw[<- hlen];simp);have Uk0:∀b,b≠rc->(V2 w' rc nothing).heap[b]? =w'.heap[b]?:=fun b hb=>G7 _ _ (Ne.symm hb);have ua1:P1 (V2 w' rc nothing) cb ((n5 cb rc).cells R.rb i) 248 (0,3):=(Uk0 cb X2).trans zi1;have tn1:(V2 w' rc nothing).heap.size=w'.heap.size:=by simp[V2]
 have zj1:¬Rn.fp {R with ca:=a,cc:=n,cl:=R.cl ++ [n5 cb rc]} rc:=fun z=>by
  have hx:=hch;have own:∀{E:TypeId}{s n c:Nat}{a:Option Addr}{xs:List Value},Own w' w0.heap.size E s a n c xs->a≠none->rc=ab a->False:=fun h ha e=>by
   obtain⟨cur,hB,_⟩:=h.row ha;unfold ChanAt at hx;rw[e]at hx;unfold I0 at hB;rw[hx]at hB;cases hB
  have blk:∀{b:Nat}{cs:Array Value}{T:TypeId}{f:Nat×Nat},P1 w' b cs T f->rc=b->False:=fun h e=>by
   unfold ChanAt at hx;rw[e]at hx;unfold P1 at h;rw[hx]at h;cases h
  rcases z with e|e|e|⟨ha,e⟩|⟨ha,e⟩|⟨ha,e⟩|⟨j,c,hc,e⟩
  ·exact blk hg.m.run e
  ·exact blk hg.m.ends e
  ·exact blk hg.m.wts e
  ·exact own hg.m.cls ha e
  ·exact own hg.m.evs ha e
  ·exact own hg.m.nts ha e
  ·exact blk (hg.m.blk j c hc) e
 have hM2:B5 (V2 w' rc nothing) w0.heap.size {R with ca:=a,cc:=n,cl:=R.cl ++ [n5 cb rc]}:=hg.m.congr fun b hb=>Uk0 b fun e=>zj1 (e▸hb);refine Fin.stay (l:=[(⟨cb,2,none⟩,.chan (some rc))]) (fun x hx=>?_) ?_
 ·simp at hx;subst hx;exact⟨ua1.E0 2 rfl,by rw[ua1.frozen];rfl⟩
 show Fin prog Post (Gg0 X cb rc ⟨R.yb,.i 0,me0⟩) X.n _ _;rw[hfv];refine Uq0 (i:=i) (c:=n5 cb rc) hfn hbd hnm hM2 (by show(R.cl ++ [n5 cb rc])[i]? =_;rw[<- hlen];simp) fun w1 top u9 A8 l7 lA lE hA hE zk1=>?_;have kd1:w.heap.size <=w1.heap.size:=Nat.le_trans hg.md.size (by have:=l7.size;omega);have O1:∀b,b<w.heap.size->¬R.fp b->w1.heap[b]? =w.heap[b]?:=fun b hb hf=>by
  rw[l7.block b (by have:=hg.md.size;omega),Uk0 b Uo];exact hg.md.block b hb hf
 have hM1:=hM2.j0 l7;have ub1:∀b,Rn.fp {R with ca:=a,cc:=n,cl:=R.cl ++ [n5 cb rc]} b->b<(V2 w' rc nothing).heap.size:=fun b hb=>hM2.lt hb;have hsA:w.heap.size <=(V2 w' rc nothing).heap.size:=by rw[tn1];exact hg.md.size
 have qo0:=hF.hire hO.sys.toLeOk (s:=⟨R.yb,.i 0,me0⟩) (top:=top) hn hlen rfl hM1 kd1 ⟨l7.os.trans hg.md.os,l7.output.trans hg.md.output⟩ O1 hg.fp hcb ⟨hrc,by have:=l7.size;omega⟩ Uo Uo hA hE (fun z=>by have:=ub1 _ z;omega) (fun z=>by have:=ub1 _ z;omega) zk1;refine de0 _ _ fun nv=>?_;haveI:DecidablePred F:=fun _=>Classical.propDecidable _;refine np0 F (ed0 (τ:=tpT w1 p.outs.length 0 0 Γ.gm) (d:=w1.drawn) ?_);have uc1:∀b,(Rn.fp {R with ca:=a,cc:=n,cl:=R.cl ++ [n5 cb rc]} b\/Kept Y (Γ.add i X.n u9 A8 top) {R with ca:=a,cc:=n,cl:=R.cl ++ [n5 cb rc]} Mn b)->¬F b:=fun b hb hFb=>by
  have hv:=cq0 b hFb;have hff:=hFf b hFb;rcases hb with hb|hb|⟨k,hk,hnk,hb⟩|⟨j,hb⟩
  ·rcases hg.fp b hb with z|z
   ·exact hff.1 z
   ·omega
  ·exact hff.2 (.inl hb)
  ·by_cases hki:k=i
   ·subst hki;have h1:(Γ.add k X.n u9 A8 top).ab k=u9:=I1;have h2:(Γ.add k X.n u9 A8 top).eb k=A8:=I1;rw[h1,h2]at hb;omega
   ·have h1:(Γ.add i X.n u9 A8 top).ab k=Γ.ab k:=B1 hki;have h2:(Γ.add i X.n u9 A8 top).eb k=Γ.eb k:=B1 hki;rw[h1,h2]at hb;refine hff.2 (.inr (.inl ⟨k,?_,hnk,hb⟩));have hk':k<(R.cl ++ [n5 cb rc]).length:=hk;rw[List.length_append,List.length_singleton]at hk';omega
  ·by_cases M3:j=i
   ·subst M3;have h1:(Γ.add j X.n u9 A8 top).pv j=fun _=>False:=I1;rw[h1]at hb;exact hb
   ·have h1:(Γ.add i X.n u9 A8 top).pv j=Γ.pv j:=B1 M3;rw[h1]at hb;exact hff.2 (.inr (.inr ⟨j,hb⟩))
 have hgi:(Γ.add i X.n u9 A8 top).gi i=X.n:=I1;have hti:(Γ.add i X.n u9 A8 top).top i=top:=I1;have Gh0:(Γ.add i X.n u9 A8 top).eb i=A8:=I1;have hpk:Y.X1 (Y.pn sc sn) i p.outs.length=0:=by
  unfold Sys.X1;obtain⟨l,hl⟩:=hle.who;have hw:=hok.who;rw[<- hl,hbg];rw[List.take_append_of_le_length (by simp[hw]),List.take_of_length_le (by simp[hw])];have:=Sys.kp0 (Y:=Y) i i;rw[hp]at this;simp[this]
 have L3:=cy0.enter (q:=Y.pn sc sn) (i:=i) (t:=p.outs.length) (at_:=p.evs.length) (cb:=cb) (n0:=p.nts) (R0:={R with ca:=a,cc:=n,cl:=R.cl ++ [n5 cb rc]}) (τ:=tpT w1 p.outs.length 0 0 Γ.gm) (d:=w1.drawn) hO.sys.toLeOk F qo0 uc1 nv rfl (tpm _ _ _ _ _ _ _) (congrArg List.length hT.evs) ⟨n5 cb rc,by show(R.cl ++ [n5 cb rc])[i]? =_;rw[<- hlen];simp,rfl,.inl ⟨rfl,rfl,by
  show R.nts=_;rw[tp1,hT.nts];simp[tell],hpk.symm⟩⟩ ⟨R.na,R.nc,R.nts,rfl⟩ hn (by rw[Gh0];exact hE)
 have O2:Jq0 (Y.cfg fb (Y.pn sc sn) w0 i cb top) (Y.beg i) (Yc.G2 (X3 F w1) (tpT w1 p.outs.length 0 0 Γ.gm) w1.drawn) F:=by
  refine⟨?_,rfl,rfl,?_,?_,?_,⟨show p.outs.length <=300000 by have h1:=Sys.ow0 (Y:=Y) i;rw[hp]at h1;have h2:=hO.m1;omega,p,.inl ⟨i,by omega,hp.symm⟩,rfl,hs.symm,by rw[<- hp];exact Sys.v7 i⟩⟩
  ·show Y.Inv (Y.sAt (Y.pn sc sn) p.outs.length) (gm (Yc.G2 (X3 F w1) (tpT w1 p.outs.length 0 0 Γ.gm) w1.drawn)) _ _;rw[hs,tpm];refine hO.sys.loc _ _ w _ F hinv fun b hb=>?_;show(X3 F w1).heap[b]? =_;rw[dt0 _ hb,O1 b (cq0 b hb).1 (hFf b hb).1]
  ·show Y.k5 (Y.pn sc sn) p.outs.length=Y.beg i (Y.sAt (Y.pn sc sn) p.outs.length);rw[hs,ho]
  ·exact(l7.os.trans hg.md.os).trans (hF.os rfl)
  ·exact(l7.output.trans hg.md.output).trans (hF.output rfl)
 have hpr:=hO.body w0 i cb top _ F hi hn O2;have key:=mj0 (Post:=Post) (z0:=.i 0) (me0:=me0) (st:=false) (X:=Gg0 X cb rc ⟨R.yb,.i 0,me0⟩) (Γ:=Γ.add i X.n u9 A8 top) (Mn:=Mn) (ft:=fun j=>p.ft[j]?) (t:=p.outs.length) (at_:=p.evs.length) (n0:=p.nts) (R0:={R with ca:=a,cc:=n,cl:=R.cl ++ [n5 cb rc]}) hO.sys (show Go.ConcN.upd X.W1 0 _ 0=_ from Go.ConcN.upd_same _ _ _) (by
   have h1:=(Jr0 (Y:=Y) (sc:=sc) (sn:=sn) (i:=i+1) Uo).length_le;have h2:=hO.nts;rw[hbg]at h1;rw[ho];simp[tell]at h1;omega) (fun Γ' X' R' w2 hA=>?_) (by rw[hti];exact hpr) _ _ L3 (fun c hc=>by
    have hc':(R.cl ++ [n5 cb rc])[i]? =some c:=hc;rw[<- hlen]at hc';simp at hc';rw[<- hc'])
 ·rw[hgi]at key;exact key
 ·rcases hA with⟨_,hM',na,nc,c,c',hc,hcp,hR⟩|⟨z,_⟩
  ·have hc:(R.cl ++ [n5 cb rc])[i]? =some c:=hc;have hc0:c=n5 cb rc:=by rw[<- hlen]at hc;simp at hc;exact hc.symm
   rw[ho,ra0 (by rw[<- hp];exact Sys.v7 i)]at hM';refine hk X' R' w2 _ ?_;subst hR;refine⟨by omega,⟨Γ',by rw[hbg];exact hM'⟩,?_,ei0,er0⟩;rw[hbg];refine⟨hT.rb,hT.evs,?_,hT.used,?_,fun j d hd=>?_,fun j hj=>?_⟩
   ·show p.nts++tell i R.evs.length (Y.k5 (Y.pn sc sn) p.outs.length).nts=_;rw[hT.evs,ho]
   ·show((R.cl ++ [n5 cb rc]).set i c').length=_;simp[hT.len]
   ·have R6:((R.cl ++ [n5 cb rc]).set i c')[j]? =some d:=hd;show d.X1=(p.who ++ [none]).count (some j);have hz:p.who.count (some j)=0:=by rw[<- hp];exact Sys.kp0 i j
    rw[List.getElem?_set]at R6;by_cases M3:i=j
    ·subst M3;rw[if_pos rfl,if_pos (by simp[hlen])]at R6;obtain rfl:=Option.some.inj R6;rw[hcp,hc0];simp[hz]
    ·rw[if_neg M3]at R6;rcases eh0 R6 with z|⟨z,_⟩
     ·rw[hT.X1 j d z];simp
     ·omega
   ·show(ov0 R.ends i (Y.k5 (Y.pn sc sn) p.outs.length).X4)[j]? =some (fp0 ((p.ft ++ [(Y.beg i p.s).X4])[j]?));have hpl:p.ft.length=i:=by rw[<- hp];exact Sys.v7 i
    have h0:=ox0 (Y:=Y) (f:=(Y.beg i p.s).X4) (g:=fun j=>p.ft[j]?) (i:=i) hT.ends (by rw[hF.mem.jv0,hF.m]) (by show fp0 p.ft[i]? =0;rw[List.getElem?_eq_none Uo];rfl) j hj;rw[ho,h0];exact congrArg (fun f:Nat->Option (Y.L ⊕ Nat)=>some (fp0 (f j))) (ra0 hpl (Y.beg i p.s).X4)
  ·cases z
end
end
end Go.Vy.Sc
end
section
namespace Go.Vy.Sc
open Go Go.Conc Go.Yc Go.RowKit Go.Proofs Go.Proofs.YtinppmaojmdmhaaGreat Tryz
open Go.Vc Go.Wg
section
attribute [local irreducible] KK
theorem bw1{Post:Value->World->Prop}{X:Gh}{h:Nat}{H:Hid}{cs:List Frame}{cb:Nat}{df:Value}{me:Goroutine}{u:World}{K:World->Prop}(h0:(h==0)=false){num:Nat}(hme:ti0 cs cb df me)(hd:Op0 prog (S5 prog 172 cb num) df u K)
  (zl1:Sx0 prog 172->∀cs2 u2,Evo u u2->u2.tape=u.tape->(∀fr,fr.fn=172->Leaves prog fr u2 (.returned (.i num))->nh0 prog Post X h H (G fr cs2) u2)->nh0 prog Post X h H (G (Frame.enter prog 172 #[.p cb] .normal) cs2) u2)
  (hk:∀u2 fr,Evo u u2->u2.tape=u.tape->K u2->fr.fn=126->Leaves prog fr u2 (.returned (.tuple #[]))->nh0 prog Post X h H (G fr cs) u2):nh0 prog Post X h H (Go.Conc.served me (.bool true)) u:=by
 have y7:Cl prog false (fun g x=>Evo u x->x.tape=u.tape->nh0 prog Post X h H g x):=⟨fun g x hr hs he ht=>sx0 hr fun τ d=>by
  obtain⟨g',u',d',hF,hz⟩:=hs τ d;exact⟨g',u',by rw[h0];exact hF,fun j8=>ed0 (hz (he.trans ⟨j8.size,j8.obj⟩) ht)⟩⟩
 exact hme.yes (S5 prog 172 cb num) (fun g x=>Evo u x->x.tape=u.tape->nh0 prog Post X h H g x) ⟨⟨y7,fun g x hz he ht=>Mj0.2 _ _ fun hv=>hz hv he ht⟩,fun hN cs2 u2 hz he ht=>zl1 hN cs2 u2 he ht fun fr h3 h4=>hz fr h3 h4 he ht⟩ u K hd (fun u2 fr h1 h2 h3 he ht=>hk u2 fr he ht h1 h2 h3) (Evo.refl u) rfl
section
variable{Y:Sys}{fb:Nat->FuncId}{caps:Nat->Array Value}{fv:Nat->Value}{ba sa:Option Addr}{sn:Nat}{sc:Nat->Int}{Mn:Nat->Option Obj}{w0:World}{rb0:Nat}
section
variable{Γ:Geo}{i:Nat}{q:PR Y}{X:Gh}{R:Rn}{w:World}{ft:Nat->Option (Y.L ⊕ Nat)}{F:Nat->Prop}{c:CB}{Post:Value->World->Prop}
theorem bx1{N:Nat->Prop}:(Γ.put i N).pv i=N:=by funext b;simp[Geo.put]
theorem Bj0{R1:Rn}(hF:Fix Y fb q w0 Γ X R w Mn none ft)(hfp:∀b,R1.fp b->R.fp b\/w.heap.size <=b)(hlen:R1.cl.length=R.cl.length)(hFf:∀b,F b->¬R.fp b/\¬Kept Y Γ R Mn b)(hFs:∀b,F b->b<w.heap.size)(b:Nat)
  (hb:R1.fp b\/Kept Y (Γ.put i fun _=>False) R1 Mn b):¬(Γ.pv i b\/F b):=by
 intro hV;have hl:b<w.heap.size/\¬R.fp b:=by
  rcases hV with h|h
  ·exact⟨(hF.pv i b h).1,(hF.pv i b h).2.1⟩
  ·exact⟨hFs b h,(hFf b h).1⟩
 rcases hb with hb|hb|⟨k,hk,hnk,hb⟩|⟨j,hb⟩
 ·rcases hfp b hb with z|z
  ·exact hl.2 z
  ·omega
 ·rcases hV with h|h
  ·exact(hF.pv i b h).2.2.1 hb
  ·exact(hFf b h).2 (.inl hb)
 ·rw[hlen]at hk;rcases hV with h|h
  ·have:=(hF.pv i b h).2.2.2.1 k hk hnk;rcases hb with hb|hb
   ·exact this.1 hb
   ·exact this.2 hb
  ·exact(hFf b h).2 (.inr (.inl ⟨k,hk,hnk,hb⟩))
 ·by_cases M3:j=i
  ·subst M3;rw[bx1]at hb;exact hb
  ·rw[Dp0 M3]at hb;rcases hV with h|h
   ·exact(hF.pv i b h).2.2.2.2 j M3 hb
   ·exact(hFf b h).2 (.inr (.inr ⟨j,hb⟩))
theorem Fix.waits(hF:Fix Y fb q w0 Γ X R w Mn none ft)(hc:R.cl[i]? =some c):(c.wt=true/\Y.nil i=false/\∃l,ft i=some (.inl l)/\Wt Y fb q w0 Γ X w i c l)\/(c.wt=false/\∃x,ft i=some (.inr x)/\(Y.nil i=true\/X.W1 (Γ.gi i)=none)):=by
 obtain⟨f,h1,h2⟩:=hF.cl i c hc (by simp);rcases h2 with⟨h3,h4,h5,h6⟩|⟨h3,h4⟩
 ·exact .inr ⟨h5,1,by rw[h1,h4],.inl h3⟩
 ·cases f with
  |inl l=>exact .inl ⟨h4.wt,h3,l,h1,h4⟩
  |inr x=>exact .inr ⟨h4.1,x,h1,.inr h4.2.2⟩
theorem Wt.B4(hY:tn0 Y){X:Gh}{R:Rn}{c:CB}{l:Y.L}{s:Y.S}{wn:World}{mn:Gm}{Fn:Nat->Prop}(hpv:∀b,Γ.pv i b↔b<wn.heap.size/\wn.heap[b]? ≠some nothing/\¬Fn b)(eg0:∀b,Γ.pv i b->w.heap[b]? =wn.heap[b]?)(hos:wn.os=w0.os)(lo0:wn.output=w0.output)(H2:wn.heap.size <=w.heap.size)(Js0:Y.le i mn Γ.gm)
  (hinv:Y.Inv s Γ.gm w F) (hFf:∀b,F b->¬Γ.pv i b) {u:World} (hu:∀b,Γ.pv i b\/F b->u.heap[b]? =w.heap[b]?) (zm1:w.heap.size <=u.heap.size) (zn1:u.os=w0.os) (ud1:u.output=w0.output) (hs:Y.sAt q (gh u 0)=s) (hgm:gm u=Γ.gm) {cb:Nat} {top:List Frame}:(Y.cfg fb q w0 i cb top).G6 wn mn Fn u F:=by
 refine⟨Nat.le_trans H2 zm1,fun b hb h1 h2=>?_,?_,by rw[hgm];exact Js0,zn1.trans hos.symm,ud1.trans lo0.symm⟩
 ·have hp:=(hpv b).2 ⟨hb,h1,h2⟩;exact⟨(hu b (.inl hp)).trans (eg0 b hp),fun z=>hFf b z hp⟩
 ·show Y.Inv (Y.sAt q (gh u 0)) (gm u) u F;rw[hs,hgm];exact hY.loc _ _ w u F hinv fun b hb=>hu b (.inr hb)
set_option maxRecDepth 20000 in
theorem by1(hO:qf0 Y fb caps fv ba sa sn sc){n:Nat}(hJ:J2 Y fb sn sc Mn w0 rb0 n X R w)(hn:n<sn)(gp1:(Y.rds (Y.pn sc n))[ax0 (sc n) (Y.rds (Y.pn sc n)).length]? =some i)(hc:R.cl[i]? =some c) :
  ∃g z1 me1,g≠0/\X.W1 g=some ⟨c.rc,z1,me1⟩/\X.dn=0/\X.stay 0=[(⟨R.rb,7,none⟩,.chan (some R.yb))]/\(X.chs R.yb/\∀i s2,i≠g->X.W1 i=some s2->s2.ch≠R.yb) /\
  ∀w' a nn me0,Rg R.fp w.heap.size w w' w0.heap.size {R with ea:=a,ec:=nn,evs:=R.evs ++ [(i,c.sp)],used:=R.used+1,cl:=R.cl.set i {c with X1:=c.X1+1,wt:=false}}->(∀X' R' u v,J2 Y fb sn sc Mn w0 rb0 (n+1) X' R' u->Fin prog Post X' 0 (Go.Conc.served me0 v) u)->Fin prog Post (X.pass 0 g (some ⟨R.yb,.i 0,me0⟩)) g (Go.Conc.served me1 (.bool true)) w':=by
 obtain⟨_,⟨Γ,hM⟩,hT,ei0,er0⟩:=hJ;have hF:=hM.fix;obtain⟨him,hri⟩:=Sys.Dr0 gp1;have hle:Y.Le (Y.pn sc (n+1)) (Y.pn sc sn):=Ds0 Uo;have ko1:Y.Le (Y.pn sc n) (Y.pn sc sn):=Ds0 Uo;have hok:=Sys.Gc0 (Y:=Y) sc n;have hlp:(Y.pn sc n).ft.length=Y.m:=Sys.ef0 sc n;have cl0:Y.pn sc (n+1)=Y.n6 (Y.pn sc n) i:=by
  show Y.step (Y.pn sc n) (sc n)=_;unfold Sys.step;rw[gp1]
 have gq1:=(Vo0 (Y:=Y) (sc:=sc) (sn:=sn) (n:=n+1) Uo).length_le;generalize hp:Y.pn sc n=p at *;obtain⟨l,hl,hrl⟩:∃l,p.ft[i]? =some (.inl l)/\Y.rdy i l p.s=true:=by
  unfold Sys.kn0 at hri;cases hx:p.ft[i]? with
  |none=>rw[hx]at hri;cases hri
  |some f=>
   cases f with
   |inl l=>rw[hx]at hri;exact⟨l,rfl,hri⟩
   |inr x=>rw[hx]at hri;cases hri
 obtain⟨hwt,hnl,l',x8,hW⟩:c.wt=true/\Y.nil i=false/\∃l,p.ft[i]? =some (.inl l)/\Wt Y fb (Y.pn sc sn) w0 Γ X w i c l:=by
  rcases hF.waits hc with h|⟨_,x,h,_⟩
  ·exact h
  ·have h:p.ft[i]? =some (.inr x):=h;rw[hl]at h;cases h
 obtain rfl:l=l':=by rw[hl]at x8;exact Sum.inl.inj (Option.some.inj x8)
 have htn:Y.n6 p i={p with s:=(Y.go i l p.s).s,ft:=p.ft.set i (Y.go i l p.s).X4,evs:=p.evs ++ [(i,Y.stp i l)],nts:=p.nts++tell i (p.evs.length+1) (Y.go i l p.s).nts,outs:=p.outs ++ [Y.go i l p.s],who:=p.who ++ [some i],used:=p.used+1}:=by
  unfold Sys.n6;rw[hl]
 have hs:Y.sAt (Y.pn sc sn) p.outs.length=p.s:=Sys.bq1 hok ko1;have ho:Y.k5 (Y.pn sc sn) p.outs.length=Y.go i l p.s:=Sys.Vd0 (p':=Y.pn sc (n+1)) (by rw[cl0,htn]) hle;obtain⟨h1,O2,hsp,heb,me,cs,wn,mn,Fn,Rdo,m8,hme,hrf,hdf,hpv,eg0,hos,lo0,H2,Js0,hdo,hgo,rl0⟩:=hW;have hgp:=(hF.ck i c hc hnl).he0;have hg0:(Γ.gi i==0)=false:=by simp;omega
 refine⟨Γ.gi i,.bool false,me,by omega,m8,hF.dn,hF.qd0,⟨hF.chy,fun j s2 hj hs2=>?_⟩,fun w' a nn me0 hg hk=>?_⟩
 ·by_cases hj0:j=0
  ·subst hj0;rw[hF.tm0 rfl]at hs2;cases hs2
  ·obtain⟨k,d,h2,h3,_,h4,_⟩:=hF.W4 j s2 hj0 hs2;rw[h4];exact hF.ry k d h2 h3
 have z8:=(List.getElem?_eq_some_iff.1 hc).1;obtain⟨F,hinv,hFf⟩:=hM.inv;have cq0:=hO.sys.vis _ _ _ _ hinv;have O1:∀b,b<w.heap.size->¬R.fp b->w'.heap[b]? =w.heap[b]?:=hg.md.block;have qo0:=(hF.tu1 hO.sys.toLeOk hnl hc (s0:=⟨R.yb,.i 0,me0⟩)).n6 hO.sys.toLeOk (w':=w') (R':={R with ea:=a,ec:=nn,evs:=R.evs ++ [(i,c.sp)],used:=R.used+1,cl:=R.cl.set i {c with X1:=c.X1+1,wt:=false}}) hg.m rfl rfl rfl hg.fp (by simp) (fun j d hd=>by
  have R6:(R.cl.set i {c with X1:=c.X1+1,wt:=false})[j]? =some d:=hd;rw[List.getElem?_set]at R6;by_cases hj:i=j
  ·subst hj;rw[if_pos rfl,if_pos z8]at R6;obtain rfl:=Option.some.inj R6;exact⟨c,hc,rfl,rfl,fun z=>absurd rfl z⟩
  ·rw[if_neg hj]at R6;exact⟨d,R6,rfl,rfl,fun _=>⟨rfl,rfl⟩⟩) hg.md.size (fun b hb hf _=>.inl (O1 b hb hf)) Uz
 refine de0 _ _ fun nv=>?_;haveI:DecidablePred fun b=>Γ.pv i b\/F b:=fun _=>Classical.propDecidable _;refine np0 (fun b=>Γ.pv i b\/F b) (ed0 (τ:=tpT w' p.outs.length 0 0 Γ.gm) (d:=w'.drawn) ?_);have Rd0:=Bj0 (i:=i) (R1:={R with ea:=a,ec:=nn,evs:=R.evs ++ [(i,c.sp)],used:=R.used+1,cl:=R.cl.set i {c with X1:=c.X1+1,wt:=false}}) hF hg.fp (by simp) hFf (fun b hb=>(cq0 b hb).1);have hpk:Y.X1 (Y.pn sc sn) i p.outs.length=c.X1+1:=by
  unfold Sys.X1;obtain⟨l',x8⟩:=hle.who;have hw:=hok.who;rw[<- x8,cl0,htn];rw[List.take_append_of_le_length (by simp[hw]),List.take_of_length_le (by simp[hw])];rw[hT.X1 i c hc];simp
 have L3:=cy0.enter (q:=Y.pn sc sn) (i:=i) (t:=p.outs.length) (at_:=p.evs.length+1) (cb:=c.cb) (n0:=p.nts) (R0:={R with ea:=a,ec:=nn,evs:=R.evs ++ [(i,c.sp)],used:=R.used+1,cl:=R.cl.set i {c with X1:=c.X1+1,wt:=false}}) (τ:=tpT w' p.outs.length 0 0 Γ.gm) (d:=w'.drawn) hO.sys.toLeOk (fun b=>Γ.pv i b\/F b) qo0 Rd0 nv rfl (tpm _ _ _ _ _ _ _) (by show(R.evs ++ [(i,c.sp)]).length=_;rw[hT.evs];simp)
  ⟨{c with X1:=c.X1+1,wt:=false},by show(R.cl.set i _)[i]? =_;simp[z8],rfl,.inl ⟨rfl,O2,by
   show R.nts=_;rw[tp1,hT.nts];simp[tell],hpk.symm⟩⟩ ⟨R.na,R.nc,R.nts,rfl⟩ hnl ((O1 _ heb.lt (hF.side i z8 hnl).2.2.2).trans heb)
 have tq0:∀b,Γ.pv i b\/F b->b<w.heap.size/\¬R.fp b:=fun b hb=>by
  rcases hb with h|h
  ·exact⟨(hF.pv i b h).1,(hF.pv i b h).2.1⟩
  ·exact⟨(cq0 b h).1,(hFf b h).1⟩
 have gr1:(Y.cfg fb (Y.pn sc sn) w0 i c.cb (Γ.top i)).Goes wn mn Fn l (Yc.G2 (X3 (fun b=>Γ.pv i b\/F b) w') (tpT w' p.outs.length 0 0 Γ.gm) w'.drawn) F:=by
  refine⟨Wt.B4 (u:=Yc.G2 (X3 (fun b=>Γ.pv i b\/F b) w') (tpT w' p.outs.length 0 0 Γ.gm) w'.drawn) (q:=Y.pn sc sn) (X:=X) (R:=R) (c:=c) (l:=l) hO.sys hpv eg0 hos lo0 H2 Js0 hinv (fun b hb z=>(hFf b hb).2 (.inr (.inr ⟨i,z⟩))) (fun b hb=>?_) ?_ (hg.md.os.trans (hF.os rfl)) (hg.md.output.trans (hF.output rfl)) hs (tpm _ _ _ _ _ _ _),rfl,rfl,?_,?_,⟨show p.outs.length <=300000 by have h1:=(Sys.tp0 (Y:=Y) sc n).2;rw[hp]at h1;have h2:=hO.m1;have h3:=hO.sn1;omega,p,.inr ⟨sc,n,hp.symm⟩,rfl,hs.symm,hl⟩⟩
  ·show(X3 (fun b=>Γ.pv i b\/F b) w').heap[b]? =_;rw[dt0 (V:=fun b=>Γ.pv i b\/F b) w' hb,O1 b (tq0 b hb).1 (tq0 b hb).2]
  ·show w.heap.size <=(X3 (fun b=>Γ.pv i b\/F b) w').heap.size;rw[bt0];exact hg.md.size
  ·show Y.k5 (Y.pn sc sn) p.outs.length=Y.go i l (Y.sAt (Y.pn sc sn) p.outs.length);rw[hs,ho]
  ·show Y.rdy i l (Y.sAt (Y.pn sc sn) p.outs.length)=true;rw[hs];exact hrl
 refine bw1 hg0 hme (hdo _ F gr1) (fun hN=>by
  obtain⟨fn,h1,h2⟩:=hN;have h1:prog.funcs[172]? =some fn:=h1;rw[func172]at h1;cases h1;exact absurd h2 (by rw[show Tryz.f172.body.isSome=false by kernel_rfl];exact fun h=>by cases h)) fun u2 fr he ht hr hfn hlv=>?_
 refine mj0 (z0:=.i 0) (me0:=me0) (st:=false) (cb:=c.cb) (Γ:=Γ.put i fun _=>False) (Mn:=Mn) (ft:=fun j=>p.ft[j]?) (t:=p.outs.length) (at_:=p.evs.length+1) (n0:=p.nts) (R0:={R with ea:=a,ec:=nn,evs:=R.evs ++ [(i,c.sp)],used:=R.used+1,cl:=R.cl.set i {c with X1:=c.X1+1,wt:=false}}) hO.sys cp0 ?_ (fun Γ' X' R' w2 hA=>?_) (hgo _ F u2 gr1 hr ht fr hfn hlv) _ _ (L3.evo hO.sys.toLeOk he ht) (fun d hd=>?_)
 ·rw[cl0,htn]at gq1;have:=hO.nts;rw[ho];simp[tell]at gq1;omega
 ·rcases hA with⟨_,hM',na,nc,c0,c',hc0,hcp,hR⟩|⟨z,_⟩
  ·have hc0:(R.cl.set i {c with X1:=c.X1+1,wt:=false})[i]? =some c0:=hc0;have kp1:c0.X1=c.X1+1:=by simp[z8]at hc0;rw[<- hc0]
   rw[ho,Mr0 Uo]at hM';refine hk X' R' w2 _ ?_;subst hR;refine⟨by omega,⟨Γ',by rw[cl0,htn];exact hM'⟩,?_,ei0,er0⟩;rw[cl0,htn];refine⟨hT.rb,?_,?_,?_,?_,fun j d hd=>?_,fun j hj=>?_⟩
   ·show R.evs ++ [(i,c.sp)]=p.evs ++ [(i,Y.stp i l)];rw[hT.evs,hsp]
   ·show p.nts++tell i (R.evs ++ [(i,c.sp)]).length (Y.k5 (Y.pn sc sn) p.outs.length).nts=p.nts++tell i (p.evs.length+1) (Y.go i l p.s).nts;rw[hT.evs,ho];simp
   ·show R.used+1=p.used+1;rw[hT.used]
   ·show((R.cl.set i {c with X1:=c.X1+1,wt:=false}).set i c').length=(p.ft.set i _).length;simp[hT.len]
   ·have R6:((R.cl.set i {c with X1:=c.X1+1,wt:=false}).set i c')[j]? =some d:=hd;show d.X1=(p.who ++ [some i]).count (some j);rw[List.getElem?_set]at R6;by_cases M3:i=j
    ·subst M3;rw[if_pos rfl,if_pos (by simp[z8])]at R6;obtain rfl:=Option.some.inj R6;rw[hcp,kp1,hT.X1 i c hc];simp
    ·rw[if_neg M3,List.getElem?_set_ne M3]at R6;rw[hT.X1 j d R6];simp[M3]
   ·show(ov0 R.ends i (Y.k5 (Y.pn sc sn) p.outs.length).X4)[j]? =some (fp0 ((p.ft.set i (Y.go i l p.s).X4)[j]?));have h0:=ox0 (Y:=Y) (f:=(Y.go i l p.s).X4) (g:=fun j=>p.ft[j]?) (i:=i) hT.ends (by rw[hF.mem.jv0,hF.m]) (by show fp0 p.ft[i]? =0;rw[hl];rfl) j hj;rw[ho,h0];exact congrArg (fun f:Nat->Option (Y.L ⊕ Nat)=>some (fp0 (f j))) (Mr0 Uo (Y.go i l p.s).X4)
  ·cases z
 ·have R6:(R.cl.set i {c with X1:=c.X1+1,wt:=false})[i]? =some d:=hd;simp[z8]at R6;rw[<- R6];exact O2
set_option maxRecDepth 20000 in
theorem bz1(hO:qf0 Y fb caps fv ba sa sn sc)(hJ:JE Y fb sn sc Mn w0 rb0 i X R w)(hc:R.cl[i]? =some c)(hwt:c.wt=true) :
  ∃g z1 me1,g≠0/\X.W1 g=some ⟨c.rc,z1,me1⟩/\X.dn=0/\X.stay 0=[(⟨R.rb,7,none⟩,.chan (some R.yb))]/\(X.chs R.yb/\∀i s2,i≠g->X.W1 i=some s2->s2.ch≠R.yb) /\
  ∀w' me0,Rg R.fp w.heap.size w w' w0.heap.size {R with wts:=R.wts.set i c.sp}->(∀X' R' u v,JE Y fb sn sc Mn w0 rb0 (i+1) X' R' u/\R'.ca=R.ca/\R'.cc=R.cc->Fin prog Post X' 0 (Go.Conc.served me0 v) u)->Fin prog Post (X.pass 0 g (some ⟨R.yb,.i 0,me0⟩)) g (Go.Conc.served me1 (.bool false)) w':=by
 obtain⟨_,⟨Γ,hM⟩,hT,ei0,er0⟩:=hJ;have hF:=hM.fix;have z8:=(List.getElem?_eq_some_iff.1 hc).1;have hlp:(Y.pn sc sn).ft.length=Y.m:=Sys.ef0 sc sn;have him:i<Y.m:=by have:=hT.len;omega
 have hok:=Sys.Gc0 (Y:=Y) sc sn;have hs:Y.sAt (Y.pn sc sn) (Y.pn sc sn).outs.length=(Y.pn sc sn).s:=Sys.bq1 hok (Sys.Le.refl Y _);obtain⟨hnl,l,hl,hW⟩:Y.nil i=false/\∃l,(Y.pn sc sn).ft[i]? =some (.inl l)/\Wt Y fb (Y.pn sc sn) w0 Γ X w i c l:=by
  rcases hF.waits hc with⟨_,h1,l,h2,h3⟩|⟨h,_⟩
  ·exact⟨h1,l,by simpa using h2,h3⟩
  ·rw[hwt]at h;cases h
 generalize hq:Y.pn sc sn=q at *;obtain⟨h1,O2,hsp,heb,me,cs,wn,mn,Fn,Rdo,m8,hme,hrf,hdf,hpv,eg0,hos,lo0,H2,Js0,hdo,hgo,rl0⟩:=hW;have hgp:=(hF.ck i c hc hnl).he0;have hg0:(Γ.gi i==0)=false:=by simp;omega
 refine⟨Γ.gi i,.bool false,me,by omega,m8,hF.dn,hF.qd0,⟨hF.chy,fun j s2 hj hs2=>?_⟩,fun w' me0 hg hk=>?_⟩
 ·by_cases hj0:j=0
  ·subst hj0;rw[hF.tm0 rfl]at hs2;cases hs2
  ·obtain⟨k,d,h2,h3,_,h4,_⟩:=hF.W4 j s2 hj0 hs2;rw[h4];exact hF.ry k d h2 h3
 obtain⟨F,hinv,hFf⟩:=hM.inv;have cq0:=hO.sys.vis _ _ _ _ hinv;refine hme.no _ (by have:=@J6 prog Post (X.pass 0 (Γ.gi i) (some ⟨R.yb,.i 0,me0⟩)) (Γ.gi i);rw[hg0]at this;exact this) w' R.fp w.heap.size w w0.heap.size {R with wts:=R.wts.set i c.sp} i c hg hc rfl fun u2 fr ch hg2 hfn u7 hlv=>?_;have O1:∀b,b<w.heap.size->¬R.fp b->u2.heap[b]? =w.heap[b]?:=hg2.md.block;have qo0:=(hF.tu1 hO.sys.toLeOk hnl hc (s0:=⟨R.yb,.i 0,me0⟩)).n6 hO.sys.toLeOk (w':=u2) (R':={R with wts:=R.wts.set i c.sp,cl:=R.cl.set i {c with st:=true}}) hg2.m rfl rfl rfl hg2.fp (by simp) (fun j d hd=>by
  have R6:(R.cl.set i {c with st:=true})[j]? =some d:=hd;rw[List.getElem?_set]at R6;by_cases hj:i=j
  ·subst hj;rw[if_pos rfl,if_pos z8]at R6;obtain rfl:=Option.some.inj R6;exact⟨c,hc,rfl,rfl,fun z=>absurd rfl z⟩
  ·rw[if_neg hj]at R6;exact⟨d,R6,rfl,rfl,fun _=>⟨rfl,rfl⟩⟩) hg2.md.size (fun b hb hf _=>.inl (O1 b hb hf)) Uz
 refine de0 _ _ fun nv=>?_;haveI:DecidablePred fun b=>Γ.pv i b\/F b:=fun _=>Classical.propDecidable _;refine np0 (fun b=>Γ.pv i b\/F b) (ed0 (τ:=tpT u2 q.outs.length 0 1 Γ.gm) (d:=u2.drawn) ?_);have Rd0:=Bj0 (i:=i) (R1:={R with wts:=R.wts.set i c.sp,cl:=R.cl.set i {c with st:=true}}) hF hg2.fp (by simp) hFf (fun b hb=>(cq0 b hb).1);have L3:=cy0.enter (q:=q) (i:=i) (t:=q.outs.length) (at_:=R.evs.length) (cb:=c.cb) (n0:=q.nts) (R0:={R with wts:=R.wts.set i c.sp,cl:=R.cl.set i {c with st:=true}}) (τ:=tpT u2 q.outs.length 0 1 Γ.gm) (d:=u2.drawn) hO.sys.toLeOk (fun b=>Γ.pv i b\/F b) qo0 Rd0 nv rfl (tpm _ _ _ _ _ _ _) rfl
  ⟨{c with st:=true},by show(R.cl.set i _)[i]? =_;simp[z8],rfl,.inr ⟨rfl,rfl,hT.nts⟩⟩ ⟨R.na,R.nc,R.nts,rfl⟩ hnl ((O1 _ heb.lt (hF.side i z8 hnl).2.2.2).trans heb)
 have tq0:∀b,Γ.pv i b\/F b->b<w.heap.size/\¬R.fp b:=fun b hb=>by
  rcases hb with h|h
  ·exact⟨(hF.pv i b h).1,(hF.pv i b h).2.1⟩
  ·exact⟨(cq0 b h).1,(hFf b h).1⟩
 have kq1:(Y.cfg fb q w0 i c.cb (Γ.top i)).G6 wn mn Fn (Yc.G2 (X3 (fun b=>Γ.pv i b\/F b) u2) (tpT u2 q.outs.length 0 1 Γ.gm) u2.drawn) F:=by
  refine Wt.B4 (u:=Yc.G2 (X3 (fun b=>Γ.pv i b\/F b) u2) (tpT u2 q.outs.length 0 1 Γ.gm) u2.drawn) (q:=q) (X:=X) (R:=R) (c:=c) (l:=l) hO.sys hpv eg0 hos lo0 H2 Js0 hinv (fun b hb z=>(hFf b hb).2 (.inr (.inr ⟨i,z⟩))) (fun b hb=>?_) ?_ (hg2.md.os.trans (hF.os rfl)) (hg2.md.output.trans (hF.output rfl)) hs (tpm _ _ _ _ _ _ _)
  ·show(X3 (fun b=>Γ.pv i b\/F b) u2).heap[b]? =_;rw[dt0 (V:=fun b=>Γ.pv i b\/F b) u2 hb,O1 b (tq0 b hb).1 (tq0 b hb).2]
  ·show w.heap.size <=(X3 (fun b=>Γ.pv i b\/F b) u2).heap.size;rw[bt0];exact hg2.md.size
 refine mj0 (z0:=.i 0) (me0:=me0) (st:=true) (cb:=c.cb) (Γ:=Γ.put i fun _=>False) (Mn:=Mn) (ft:=fun j=>if j<i then cd0 (q.ft[j]?) else q.ft[j]?) (t:=q.outs.length) (at_:=R.evs.length) (n0:=q.nts) (R0:={R with wts:=R.wts.set i c.sp,cl:=R.cl.set i {c with st:=true}}) hO.sys cp0 ?_ (fun Γ' X' R' w2 hA=>?_) (rl0 _ F kq1 rfl fr ch hfn u7 hlv) _ _ L3 (fun d hd=>?_)
 ·have h2:=hO.nts;rw[hq]at h2;have h3:Y.k5 q q.outs.length=Y.o0:=by unfold Sys.k5;rw[List.getElem?_eq_none (Nat.le_refl _)];rfl
  rw[h3];show q.nts.length+0 <=_;omega
 ·rcases hA with⟨z,_⟩|⟨_,hM',na,nc,c0,c',hc0,hcp,hR⟩
  ·cases z
  ·have hc0:(R.cl.set i {c with st:=true})[i]? =some c0:=hc0;have kp1:c0.X1=c.X1:=by simp[z8]at hc0;rw[<- hc0]
   have kr1:(fun j=>if j=i then some (.inr 0) else if j<i then cd0 (q.ft[j]?) else q.ft[j]?)=fun j=>if j<i+1 then cd0 (q.ft[j]?) else q.ft[j]?:=by
    funext j;by_cases M3:j=i
    ·subst M3;rw[if_pos rfl,if_pos Uo,hl];rfl
    ·rw[if_neg M3];by_cases h3:j<i
     ·rw[if_pos h3,if_pos Uo]
     ·rw[if_neg h3,if_neg Uo]
   have hM2:Main Y fb q w0 Γ' X' R' w2 Mn (fun j=>if j=i then some (.inr 0) else if j<i then cd0 (q.ft[j]?) else q.ft[j]?) (Y.sAt q q.outs.length):=hM';rw[kr1,hs]at hM2;refine hk X' R' w2 _ ?_;subst hR;refine⟨⟨by omega,⟨Γ',by rw[hq];exact hM2⟩,?_,fun j hj=>?_,by rw[hq];exact er0⟩,rfl,rfl⟩
   ·rw[hq];refine⟨hT.rb,hT.evs,rfl,hT.used,?_,fun j d hd=>?_,fun j hj=>?_⟩
    ·show((R.cl.set i {c with st:=true}).set i c').length=_;simp[hT.len]
    ·have R6:((R.cl.set i {c with st:=true}).set i c')[j]? =some d:=hd;rw[List.getElem?_set]at R6;by_cases M3:i=j
     ·subst M3;rw[if_pos rfl,if_pos (by simp[z8])]at R6;obtain rfl:=Option.some.inj R6;rw[hcp,kp1];exact hT.X1 i c hc
     ·rw[if_neg M3,List.getElem?_set_ne M3]at R6;exact hT.X1 j d R6
    ·show(R.ends.set i 0)[j]? =_;have hel:R.ends.length=Y.m:=by rw[hF.mem.jv0,hF.m]
     by_cases M3:i=j
     ·subst M3;rw[hl];simp[hel,him];rfl
     ·rw[List.getElem?_set_ne M3];exact hT.ends j hj
   ·rw[hq];show(R.wts.set i c.sp)[j]? =_;have hwl:R.wts.length=Y.m:=by rw[hF.mem.oq0,hF.m]
    by_cases M3:i=j
    ·subst M3;rw[if_pos Uo,hl];simp[hwl,him];exact hsp
    ·rw[List.getElem?_set_ne M3,ei0 j hj];by_cases h3:j<i
     ·rw[if_pos h3,if_pos Uo]
     ·rw[if_neg h3,if_neg Uo]
 ·have R6:(R.cl.set i {c with st:=true})[i]? =some d:=hd;simp[z8]at R6;rw[<- R6]
end
end
end
end Go.Vy.Sc
end
section
namespace Go.Vy
open Go Go.Conc Go.Yc Go.RowKit
section
variable{P:Program}{main:Bool}{f:FuncId}{args:Array Value}{R:Ending->World->Prop}
theorem tr0{fr:Frame}{w:World}{e:Ending}{τ:Tape}{d:Nat}(h:Leaves P fr w e):Leaves P fr (Yc.G2 w τ d) e:=by
 cases e with
 |returned v=>exact h
 |panicked ch=>exact h
 |outgrown=>exact h
theorem Calls.G2{u:World}{τ:Tape}{d:Nat}(h:@Calls P (D2 P main) f args (Yc.G2 u τ d) R):@Calls P (D2 P main) f args u (fun e w'=>∃w2 d2,w'=Yc.G2 w2 u.tape d2/\R e w2):=by
 intro Z hZ cs hk;obtain⟨hc,hi⟩:=hZ;have y7:Cl P main (fun g x=>∀d0,Z g (Yc.G2 x u.tape d0)):=⟨fun g x hr hs d0=>by
  refine hc.own g _ hr fun τ' d'=>?_;obtain⟨g',u',d2,hF,hz⟩:=hs τ' d';exact⟨g',u',0,hF,hz 0⟩⟩
 have:=h (fun g x=>∀d0,Z g (Yc.G2 x u.tape d0)) ⟨y7,fun g x hz d0=>hi g _ fun hv=>hz hv d0⟩ cs (fun e w' fr he hf hl d0=>hk e _ fr ⟨w',d0,rfl,he⟩ hf (tr0 hl)) u.drawn;exact this
end
end Go.Vy
namespace Go.Vy.Sc
open Go Go.Conc Go.Yc Go.RowKit Go.Proofs Go.Proofs.YtinppmaojmdmhaaGreat Tryz
open Go.Vc Go.Wg
attribute [local irreducible] KK
structure Lone(X:Gh)(w:World):Prop where
 W1:∀i,X.W1 i=none
 cap:X.cap=0
 pend:X.pend=0
 dn:X.dn=0
 under:X.gh0 w.heap.size
 D7:∀b,w.heap.size <=b->X.D7 b= .all
 tl0:0<X.n
theorem Lone.mono{X:Gh}{w w':World}(h:Lone X w)(hs:w.heap.size <=w'.heap.size):Lone X w':=⟨h.W1,h.cap,h.pend,h.dn,h.under.mono hs,fun b hb=>h.D7 b (Nat.le_trans hs hb),h.tl0⟩
section
variable{Y:Sys}{fb:Nat->FuncId}{caps:Nat->Array Value}{fv:Nat->Value}{ba sa:Option Addr}{sn:Nat}{sc:Nat->Int}{Mn:Nat->Option Obj}{w0:World}{rb0:Nat}
section
variable{q p:PR Y}{Γ:Geo}{X:Gh}{R:Rn}{w:World}
theorem Ms0(hF:Fix Y fb q w0 Γ X R w Mn none (fun j=>p.ft[j]?))(hlen:R.cl.length=Y.m):rdl R.cl (Y.kn0 p) Y.m=Y.rds p:=by
 unfold rdl Sys.rds;apply List.filter_congr;intro i hi;have hi:i<Y.m:=by simpa using hi
 obtain⟨c,hc⟩:∃c,R.cl[i]? =some c:=⟨_,List.getElem?_eq_getElem Uo⟩
 rw[hc];rcases hF.waits hc with⟨h1,_⟩|⟨h1,x,h2,_⟩
 ·simp[h1]
 ·have h2:p.ft[i]? =some (.inr x):=h2;simp[h1,Sys.kn0,h2]
theorem Vp0(hF:Fix Y fb q w0 Γ X R w Mn none (fun j=>p.ft[j]?))(hlen:R.cl.length=p.ft.length):R.cl.any (·.wt)=p.ft.any (·.isLeft):=by
 rw[Bool.eq_iff_iff,List.any_eq_true,List.any_eq_true];constructor
 ·rintro⟨c,hc,hw⟩;obtain⟨i,hi⟩:=List.mem_iff_getElem?.1 hc;rcases hF.waits hi with⟨h1,_,l,h2,_⟩|⟨h1,_⟩
  ·exact⟨.inl l,List.mem_iff_getElem?.2 ⟨i,h2⟩,rfl⟩
  ·rw[hw]at h1;cases h1
 ·rintro⟨f,hf,hw⟩;obtain⟨i,hi⟩:=List.mem_iff_getElem?.1 hf;have z8:=(List.getElem?_eq_some_iff.1 hi).1;obtain⟨c,hc⟩:∃c,R.cl[i]? =some c:=⟨_,List.getElem?_eq_getElem Uo⟩
  rcases hF.waits hc with⟨h1,_⟩|⟨h1,x,h2,_⟩
  ·exact⟨c,List.mem_iff_getElem?.2 ⟨i,hc⟩,h1⟩
  ·have h2:p.ft[i]? =some (.inr x):=h2;rw[hi]at h2;cases h2;cases hw
theorem Main.n6{q:PR Y}{Γ:Geo}{X:Gh}{R R':Rn}{w w':World}{ft:Nat->Option (Y.L ⊕ Nat)}{s:Y.S}(hY:tn0 Y)(h:Main Y fb q w0 Γ X R w Mn ft s)(hg:Rg R.fp w.heap.size w w' w0.heap.size R')(hrb:R'.rb=R.rb)(hyb:R'.yb=R.yb)(hm:R'.m=R.m)(y7:R'.cl=R.cl)(he:R'.ends=R.ends):Main Y fb q w0 Γ X R' w' Mn ft s:=by
 obtain⟨F,hinv,hFf⟩:=h.inv;have cq0:=hY.vis _ _ _ _ hinv;refine⟨h.fix.n6 hY.toLeOk hg.m hrb hyb hm hg.fp (by rw[y7]) (fun j c hc=>⟨c,by rw[<- y7];exact hc,rfl,rfl,fun _=>⟨rfl,by rw[he]⟩⟩) hg.md.size (fun b hb hf _=>.inl (hg.md.block b hb hf)) (fun _=>⟨hg.md.os,hg.md.output⟩),F,hY.loc _ _ w w' F hinv fun b hb=>hg.md.block b (cq0 b hb).1 (hFf b hb).1,fun b hb=>⟨fun z=>(hg.fp b z).elim (hFf b hb).1 (Nat.not_le_of_lt (cq0 b hb).1),fun z=>(hFf b hb).2 ?_⟩⟩;rcases z with z|⟨k,hk,z⟩|z
 ·exact .inl z
 ·exact .inr (.inl ⟨k,by rw[<- y7];exact hk,z⟩)
 ·exact .inr (.inr z)
theorem ks1(hO:qf0 Y fb caps fv ba sa sn sc){n:Nat}(hJ:J2 Y fb sn sc Mn w0 rb0 n X R w){i:Nat}{c:CB}(hc:R.cl[i]? =some c)(hwt:c.wt=true):@Di0 (D2 prog true) w c.rf (Y.kn0 (Y.pn sc n) i):=by
 obtain⟨hn,⟨Γ,hM⟩,hT,ei0,er0⟩:=hJ;have hF:=hM.fix;have ko1:Y.Le (Y.pn sc n) (Y.pn sc sn):=Ds0 hn;have hok:=Sys.Gc0 (Y:=Y) sc n;generalize hp:Y.pn sc n=p at *;obtain⟨hnl,l,hl,hW⟩:Y.nil i=false/\∃l,p.ft[i]? =some (.inl l)/\Wt Y fb (Y.pn sc sn) w0 Γ X w i c l:=by
  rcases hF.waits hc with⟨_,h1,l,h2,h3⟩|⟨h,_⟩
  ·exact⟨h1,l,h2,h3⟩
  ·rw[hwt]at h;cases h
 have hs:Y.sAt (Y.pn sc sn) p.outs.length=p.s:=Sys.bq1 hok ko1;have hr:Y.kn0 p i=Y.rdy i l p.s:=by unfold Sys.kn0;rw[hl]
 obtain⟨h1,O2,hsp,heb,me,cs,wn,mn,Fn,Rdo,m8,hme,hrf,hdf,hpv,eg0,hos,lo0,H2,Js0,hdo,hgo,rl0⟩:=hW;obtain⟨F,hinv,hFf⟩:=hM.inv;have cq0:=hO.sys.vis _ _ _ _ hinv;have tq0:∀b,Γ.pv i b\/F b->b<w.heap.size:=fun b hb=>by
  rcases hb with h|h
  ·exact(hF.pv i b h).1
  ·exact(cq0 b h).1
 rcases hrf with⟨hrf,ep0⟩|⟨f,cps,⟨hrf,fn,h2,h3,h4⟩,sv0⟩
 ·exact .inl ⟨hrf,by rw[hr];exact ep0 _⟩
 ·refine .inr ⟨f,fn,cps,hrf,h2,h3,h4,fun u hb=>?_⟩;haveI:DecidablePred fun b=>Γ.pv i b\/F b:=fun _=>Classical.propDecidable _;have kq1:(Y.cfg fb (Y.pn sc sn) w0 i c.cb (Γ.top i)).G6 wn mn Fn (Yc.G2 (X3 (fun b=>Γ.pv i b\/F b) u) (tpT u p.outs.length 0 0 Γ.gm) u.drawn) F:=by
   refine Wt.B4 (u:=Yc.G2 (X3 (fun b=>Γ.pv i b\/F b) u) (tpT u p.outs.length 0 0 Γ.gm) u.drawn) (q:=Y.pn sc sn) (X:=X) (R:=R) (c:=c) (l:=l) hO.sys hpv eg0 hos lo0 H2 Js0 hinv (fun b hb z=>(hFf b hb).2 (.inr (.inr ⟨i,z⟩))) (fun b Z8=>?_) ?_ (hb.os.trans (hF.os rfl)) (hb.output.trans (hF.output rfl)) hs (tpm _ _ _ _ _ _ _)
   ·show(X3 (fun b=>Γ.pv i b\/F b) u).heap[b]? =_;rw[dt0 (V:=fun b=>Γ.pv i b\/F b) u Z8,hb.block b (tq0 b Z8)]
   ·show w.heap.size <=(X3 (fun b=>Γ.pv i b\/F b) u).heap.size;rw[bt0];exact hb.size
  have h5:=Calls.seen (fun b=>Γ.pv i b\/F b) (Calls.G2 (sv0 _ F kq1));refine @Calls.mono _ (D2 prog true) f cps u _ _ h5 fun e w' he=>?_;obtain⟨u',rfl,hH,w2,d2,rfl,he⟩:=he;cases e with
  |panicked ch=>exact he.elim
  |outgrown=>exact he.elim
  |returned v=>
   obtain⟨hv,A1⟩:=he;refine⟨?_,⟨A1.os,rfl,A1.output,?_,fun b Z8=>?_⟩⟩
   ·rw[hv,hr];show Value.bool (Y.rdy i l (Y.sAt (Y.pn sc sn) p.outs.length))=_;rw[hs]
   ·rw[w5];have:=A1.size;have h6:(X3 (fun b=>Γ.pv i b\/F b) u).heap.size <=w2.heap.size:=this;rw[bt0]at h6;exact h6
   ·have h6:b<(X3 (fun b=>Γ.pv i b\/F b) u).heap.size:=by rw[bt0];exact Z8
    have h7:=A1.block b h6;by_cases hV:Γ.pv i b\/F b
    ·rw[L6 (Yc.G2 w2 _ d2) (by simp[av0,hV])];show w2.heap[b]? =_;refine h7.trans ?_;show(X3 (fun b=>Γ.pv i b\/F b) u).heap[b]? =_;rw[dt0 (V:=fun b=>Γ.pv i b\/F b) u hV]
    ·have h8:av0 (fun b=>Γ.pv i b\/F b) u b=some u.heap[b]:=by
      simp only[av0,hV,if_false];exact Array.getElem?_eq_getElem Z8
     rw[cm0 h8 (by
      show b<w2.heap.size;have:=A1.size;have h9:(X3 (fun b=>Γ.pv i b\/F b) u).heap.size <=w2.heap.size:=this;omega),Array.getElem?_eq_getElem Z8]
theorem ring(hO:qf0 Y fb caps fv ba sa sn sc){tb:Nat}{Post:Value->World->Prop}(htb:Mn tb=some (.cells #[.slice none 0 0,.slice none 0 0,.slice none 0 0,.slice none 0 0,.bool false,.i 0] 45 (0,0)))
  (hbc:∀w:World,(∀b,Mn b≠none->w.heap[b]? =Mn b)->∀j,j<Y.m->w.cell? ⟨ab ba,ao ba+j*1,none⟩=some (fv j)) (hsc:∀w:World,(∃s m F,Y.Inv s m w F)->(∀b,Mn b≠none->w.heap[b]? =Mn b)->∀j,j<sn->w.cell? ⟨ab sa,ao sa+j*1,none⟩=some (.i (sc j))) :
  Uv0 rb0 Y.m sn tb ba sa fv sc w0.heap.size Post (JB Y fb sn sc Mn w0 rb0) (J2 Y fb sn sc Mn w0 rb0) (JE Y fb sn sc Mn w0 rb0) (fun n=>Y.kn0 (Y.pn sc n)):=by
 have hm1:=hO.m1;have hsn:=hO.sn1;refine⟨fun cs eo0=>⟨hO.bsl,fun i hi=>?_,fun i X R w hJ=>?_,fun i X R w w' a n cb rc hi hJ hf hcb hrc hg=>?_,fun i X R w w' a n cb rc hi hJ hf hcb hrc X2 hch hg=>?_,eo0⟩,fun X R w hJ=>?_,hO.ssl,fun n X R w hJ=>?_,fun n X R w w' hJ hb=>?_,fun n X R w hJ i c hc hwt=>ks1 hO hJ hc hwt,fun n X R w i c hJ hn hp hc=>?_,fun n X R w w' b hJ hn hb hg=>?_,fun ca cc cs eo0=>⟨fun i X R w hJ=>?_,fun i X R w c hJ hc hwt=>?_,fun i X R w c hJ hc hwt=>?_,fun X R w hJ=>?_⟩,fun X R w hJ=>?_⟩
 ·rcases hO.fn i hi with h|⟨_,h,fn,h1,h2,h3⟩
  ·exact .inl h.2
  ·exact .inr ⟨fb i,fn,caps i,h,h1,h2,h3⟩
 ·obtain⟨_,⟨Γ,hM⟩,hT,ei0,er0⟩:=hJ;exact⟨hM.fix.mem,hT.rb,hT.len.trans (Sys.v7 i),hM.fix.m,hM.fix.size,hM.fix.under,hbc w hM.get⟩
 ·obtain⟨_,⟨Γ,hM⟩,hT,ei0,er0⟩:=hJ;have hnl:Y.nil i=true:=by
   rcases hO.fn i hi with h|h
   ·exact h.1
   ·rw[hf]at h;exact absurd h.2.1 (by simp)
  have hlen:R.cl.length=i:=hT.len.trans (Sys.v7 i);have hbg:Y.I5 (i+1)={Y.I5 i with ft:=(Y.I5 i).ft ++ [.inr 1]}:=by
   show Y.bgn (Y.I5 i)=_;unfold Sys.bgn;rw[Sys.v7 i,hnl];rfl
  have hpl:=Sys.v7 (Y:=Y) i;generalize hp:Y.I5 i=p at *;have qo0:=hM.fix.kl1 hO.sys.toLeOk hnl hlen (by rw[hM.fix.m];exact hi) hcb hg (by show p.ft[i]? =none;rw[List.getElem?_eq_none Uo]);rw[ra0 hpl]at qo0;obtain⟨F,hinv,hFf⟩:=hM.inv;have cq0:=hO.sys.vis _ _ _ _ hinv;have hM':Main Y fb (Y.pn sc sn) w0 Γ (X.lower cb) {R with ca:=a,cc:=n,cl:=R.cl ++ [n5 cb rc],ends:=R.ends.set i 1} w' Mn (fun j=>(p.ft ++ [.inr 1])[j]?) p.s:=by
   refine⟨qo0,F,hO.sys.loc _ _ w w' F hinv fun b hb=>hg.md.block b (cq0 b hb).1 (hFf b hb).1,fun b hb=>⟨fun z=>(hg.fp b z).elim (hFf b hb).1 (Nat.not_le_of_lt (cq0 b hb).1),fun z=>(hFf b hb).2 ?_⟩⟩;rcases z with z|⟨k,hk,hnk,z⟩|z
   ·exact .inl z
   ·refine .inr (.inl ⟨k,?_,hnk,z⟩);have hk:k<(R.cl ++ [n5 cb rc]).length:=hk;rw[List.length_append,List.length_singleton]at hk;rcases Nat.lt_or_ge k R.cl.length with y|y
    ·exact y
    ·have:k=i:=by omega
     rw[this,hnl]at hnk;cases hnk
   ·exact .inr (.inr z)
  refine⟨by omega,⟨Γ,by rw[hbg];exact hM'⟩,?_,ei0,er0⟩
  ·rw[hbg];refine⟨hT.rb,hT.evs,hT.nts,hT.used,by simp[hT.len],fun j d hd=>?_,fun j hj=>?_⟩
   ·rcases eh0 hd with z|⟨z,rfl⟩
    ·exact hT.X1 j d z
    ·show 0=p.who.count (some j);rw[<- hp];exact(Sys.kp0 i j).symm
   ·have h0:=ox0 (Y:=Y) (f:=.inr 1) (g:=fun j=>p.ft[j]?) (i:=i) hT.ends (by rw[hM.fix.mem.jv0,hM.fix.m]) (by show fp0 p.ft[i]? =0;rw[List.getElem?_eq_none Uo];rfl) j hj;exact h0.trans (congrArg (fun f:Nat->Option (Y.L ⊕ Nat)=>some (fp0 (f j))) (ra0 hpl (.inr 1)))
 ·have hF:∃Γ,Fix Y fb (Y.pn sc sn) w0 Γ X R w Mn none (fun j=>(Y.I5 i).ft[j]?):=by obtain⟨_,⟨Γ,hM⟩,_⟩:=hJ;exact⟨Γ,hM.fix⟩
  obtain⟨Γ,hF⟩:=hF;have hT:Tie Y rb0 (Y.I5 i) R:=hJ.2.2.1;have hlen:R.cl.length=i:=hT.len.trans (Sys.v7 i);refine⟨by rw[<- hT.rb];exact hF.T4,hF.pend,by have:=hF.cap;omega,hF.dn,hF.qd0,⟨hF.chy,fun j s2 hs2=>?_⟩,fun me0 hk=>kn1 hO hi hJ hf hcb hrc X2 hch hg hk⟩;by_cases hj0:j=0
  ·subst hj0;rw[hF.tm0 rfl]at hs2;cases hs2
  ·obtain⟨k,d,h2,h3,_,h4,_⟩:=hF.W4 j s2 hj0 hs2;rw[h4];exact hF.ry k d h2 h3
 ·obtain⟨_,hM,hT,ei0,er0⟩:=hJ;exact⟨Nat.zero_le _,hM,hT,ei0,er0⟩
 ·obtain⟨hn,⟨Γ,hM⟩,hT,ei0,er0⟩:=hJ;have h1:=Sys.tp0 (Y:=Y) sc n;have h2:=Sys.Gc0 (Y:=Y) sc n;refine⟨hM.fix.mem,hT.rb,hT.len.trans (Sys.ef0 sc n),hM.fix.size,by rw[hT.evs];omega,by rw[hT.used,<- h2.used];omega,fun i c hc=>?_,hsc w ⟨_,_,_,hM.inv.choose_spec.1⟩ hM.get⟩;rw[hT.X1 i c hc];have h3:=List.count_le_length (a:=some i) (l:=(Y.pn sc n).who);rw[h2.who]at h3;omega
 ·obtain⟨hn,⟨Γ,hM⟩,hT,ei0,er0⟩:=hJ;exact⟨hn,⟨Γ,hM.n6 hO.sys (hM.fix.mem.rg.j0 hb) rfl rfl rfl rfl rfl⟩,hT,ei0,er0⟩
 ·have hlen:R.cl.length=Y.m:=hJ.2.2.1.len.trans (Sys.ef0 sc n);obtain⟨Γ,hM⟩:=hJ.2.1;rw[Ms0 hM.fix hlen]at hp;exact by1 hO hJ hn hp hc
 ·obtain⟨hn',⟨Γ,hM⟩,hT,ei0,er0⟩:=hJ;have hlen:R.cl.length=Y.m:=hT.len.trans (Sys.ef0 sc n);rw[Ms0 hM.fix hlen]at hn hb;have hq:Y.pn sc sn=Y.pn sc n:=by
   rcases hn with rfl|h
   ·rfl
   ·have:=Sys.Gi0 h (sn-n)
    rwa [Nat.add_sub_cancel' hn']at this
  rw[Vp0 hM.fix hT.len]at hb;have hM':=hM.n6 hO.sys hg rfl rfl rfl rfl rfl;rw[<- hq]at hM' hT hb;refine⟨Nat.zero_le _,⟨Γ,?_⟩,⟨hT.rb,hT.evs,hT.nts,hT.used,hT.len,hT.X1,hT.ends⟩,fun j hj=>?_,hb⟩
  ·have:(fun j=>if j<0 then cd0 ((Y.pn sc sn).ft[j]?) else(Y.pn sc sn).ft[j]?)=fun j=>(Y.pn sc sn).ft[j]?:=by funext j;rw[if_neg (Nat.not_lt_zero j)]
   rw[this];exact hM'
  ·show R.wts[j]? =_;rw[ei0,if_neg (Nat.not_lt_zero j)];simp[hj]
 ·obtain⟨⟨hi,⟨Γ,hM⟩,hT,ei0,er0⟩,h1,h2⟩:=hJ;exact⟨hM.fix.mem,hT.rb,hT.len.trans (Sys.ef0 sc sn),h1,h2⟩
 ·obtain⟨⟨hi,⟨Γ,hM⟩,hT,ei0,er0⟩,h1,h2⟩:=hJ;have z8:=(List.getElem?_eq_some_iff.1 hc).1;have hlen:R.cl.length=Y.m:=hT.len.trans (Sys.ef0 sc sn);obtain⟨x,hx⟩:∃x,(Y.pn sc sn).ft[i]? =some (.inr x):=by
   rcases hM.fix.waits hc with⟨h,_⟩|⟨_,x,h,_⟩
   ·rw[hwt]at h;cases h
   ·exact⟨x,by simpa using h⟩
  have kr1:(fun j=>if j<i then cd0 ((Y.pn sc sn).ft[j]?) else(Y.pn sc sn).ft[j]?)=fun j=>if j<i+1 then cd0 ((Y.pn sc sn).ft[j]?) else(Y.pn sc sn).ft[j]?:=by
   funext j;by_cases M3:j=i
   ·subst M3;rw[if_neg Uo,if_pos Uo,hx];rfl
   ·by_cases h3:j<i
    ·rw[if_pos h3,if_pos Uo]
    ·rw[if_neg h3,if_neg Uo]
  rw[kr1]at hM;refine⟨⟨by omega,⟨Γ,hM⟩,hT,fun j hj=>?_,er0⟩,h1,h2⟩;rw[ei0 j hj];by_cases M3:j=i
  ·subst M3;rw[if_neg Uo,if_pos Uo,hx];rfl
  ·by_cases h3:j<i
   ·rw[if_pos h3,if_pos Uo]
   ·rw[if_neg h3,if_neg Uo]
 ·obtain⟨hJ,h1,h2⟩:=hJ;obtain⟨g,z1,me1,h3,h4,h5,h6,h7,h8⟩:=bz1 (Post:=Post) hO hJ hc hwt;exact⟨g,z1,me1,h3,h4,h5,h6,h7,fun w' me0 hg hk=>h8 w' me0 hg fun X' R' u v hJ'=>hk X' R' u v ⟨hJ'.1,hJ'.2.1.trans h1,hJ'.2.2.trans h2⟩⟩
 ·have hJ0:=hJ;obtain⟨⟨hi,⟨Γ,hM⟩,hT,ei0,er0⟩,h1,h2⟩:=hJ;have hF:=hM.fix;have hlen:R.cl.length=Y.m:=hT.len.trans (Sys.ef0 sc sn);refine⟨fun i=>?_,by rw[<- hT.rb];exact hF.T4,hF.pend,hF.dn,by have:=hF.cap;omega,fun fr h3 h4=>eo0 X R w hJ0.1 h1 h2 fr h3 h4⟩;by_cases h0:i=0
  ·subst h0;exact hF.tm0 rfl
  ·cases hs:X.W1 i with
   |none=>rfl
   |some s=>
    obtain⟨j,c,h5,h6,h7,_⟩:=hF.W4 i s h0 hs;have hjl:=(List.getElem?_eq_some_iff.1 h5).1;rcases hF.waits h5 with⟨_,_,l,h8,_⟩|⟨_,x,_,h8⟩
    ·have h8:(if j<Y.m then cd0 ((Y.pn sc sn).ft[j]?) else(Y.pn sc sn).ft[j]?)=some (.inl l):=h8;rw[if_pos Uo]at h8;cases hx:(Y.pn sc sn).ft[j]? with
     |none=>rw[hx]at h8;cases h8
     |some f=>cases f <;> (rw[hx]at h8;cases h8)
    ·rcases h8 with h8|h8
     ·rw[h6]at h8;cases h8
     ·rw[<- h7,hs]at h8;cases h8
 ·obtain⟨hi,⟨Γ,hM⟩,hT,ei0,er0⟩:=hJ;exact⟨hM.fix.mem,hT.rb,(hM.get tb (by rw[htb];simp)).trans htb⟩
end
end
end Go.Vy.Sc
end
section
namespace Go.Vy.Sc
open Go Go.Conc Go.Yc Go.RowKit Go.Proofs Go.Proofs.YtinppmaojmdmhaaGreat Tryz
open Go.Vc Go.Wg
section
attribute [local irreducible] KK
def Vq0(lb:Nat)(pl:Nat->O7)(Post:Value->World->Prop)(g:Goroutine)(u:World):Prop:=∀X,Lone X u->lb <=u.heap.size->(∀b,X.low b->lb <=b)->X.D7=pl->Fin prog Post X 0 g u
theorem Vr0(lb:Nat)(pl:Nat->O7)(Post:Value->World->Prop):Cl prog true (Vq0 lb pl Post):=⟨fun g u hr hs X hX h1 h2 h3=>Fin.pt1 hr fun τ d=>by
 obtain⟨g',u',d',hF,hz⟩:=hs τ d;refine⟨g',u',hF,fun⟨ρ,w,oj0⟩=>?_⟩;have he:=(hF.2 ρ w oj0).1;have hX':Lone X (Yc.G2 u' u.tape d'):=(hX.mono he.size:Lone X u')|> fun h=>⟨h.W1,h.cap,h.pend,h.dn,h.under,h.D7,h.tl0⟩
 exact qv0 (hz X hX' (Nat.le_trans h1 he.size) h2 h3)⟩
theorem Pd0(lb:Nat)(pl:Nat->O7)(Post:Value->World->Prop):Ign (Vq0 lb pl Post):=fun _g _u hz X hX h1 h2 h3=>de0 _ _ fun hv=>hz hv X hX h1 h2 h3
@[reducible] def L9(lb:Nat)(pl:Nat->O7):Ctx prog:=⟨true,fun Z=>∃Post,Z=Vq0 lb pl Post,fun Z h=>by obtain⟨Post,rfl⟩:=h;exact Vr0 lb pl Post⟩
structure ca1(Y:Sys)(q:PR Y)(Mn:Nat->Option Obj)(w0 w:World)(R:Rn):Prop where
 mem:B5 w w0.heap.size R
 m:R.m=Y.m
 evs:R.evs=q.evs
 nts:R.nts=q.nts
 used:R.used=q.used
 ends:∀j,j<Y.m->R.ends[j]? =some (fp0 q.ft[j]?)
 wts:∀j,j<Y.m->R.wts[j]? =some (km1 Y j (q.ft[j]?))
 stuck:R.stuck=(q.ft.any (·.isLeft)&&(Y.rds q).isEmpty)
 inv:∃m F,Y.Inv q.s m w F/\∀b,F b->¬R.fp b
 fp:∀b,R.fp b->w0.heap.size <=b
 j0:∀b,Mn b≠none->w.heap[b]? =Mn b
 size:w0.heap.size <=w.heap.size
 os:w.os=w0.os
 output:w.output=w0.output
 tape:w.tape=w0.tape
section
variable{Y:Sys}{fb:Nat->FuncId}{caps:Nat->Array Value}{fv:Nat->Value}{ba sa:Option Addr}{sn:Nat}{sc:Nat->Int}{Mn:Nat->Option Obj}{w0:World}
theorem ue1(hO:qf0 Y fb caps fv ba sa sn sc)(hmn:∀b o,Mn b=some o->w0.heap[b]? =some o){F:Nat->Prop}{m0:Gm}(hinv:Y.Inv Y.s0 m0 w0 F)(hFm:∀b,F b->Mn b=none)
  (hbc:∀w:World,(∀b,Mn b≠none->w.heap[b]? =Mn b)->∀j,j<Y.m->w.cell? ⟨ab ba,ao ba+j*1,none⟩=some (fv j)) (hsc:∀w:World,(∃s m F,Y.Inv s m w F)->(∀b,Mn b≠none->w.heap[b]? =Mn b)->∀j,j<sn->w.cell? ⟨ab sa,ao sa+j*1,none⟩=some (.i (sc j))) {bc scp:Nat} :
  @C prog (L9 Y.lb Y.pl) 41 #[.slice ba Y.m bc,.slice sa sn scp] w0 fun v w=>∃R,v= .tuple #[Uw0 R,.i 0]/\ca1 Y (Y.pn sc sn) Mn w0 w R:=by
 intro Z hZ cs hk;obtain⟨Post,rfl⟩:=hZ;intro X hX l7 hb2 hb3;refine bn1 (fv:=fv) (sc:=sc) hO.m1 hO.sn1 hX.under hX.D7 hX.cap fun w4 rb yb eb wb tb hB=>?_;have cq0:=hO.sys.vis _ _ _ _ hinv;have Dt0:=hB.low;have uf1:Mn tb=none:=by
  cases h:Mn tb with
  |none=>rfl
  |some o=>
   have:=(Array.getElem?_eq_some_iff.1 (hmn tb o h)).1;have:=hB.le.2.2.2.2;omega
 have O1:∀b o,Mn b=some o->b<w0.heap.size:=fun b o h=>(Array.getElem?_eq_some_iff.1 (hmn b o h)).1
 let Mn':Nat->Option Obj:=fun b=>if b=tb then some (.cells #[.slice none 0 0,.slice none 0 0,.slice none 0 0,.slice none 0 0,.bool false,.i 0] 45 (0,0)) else Mn b
 have hMn:∀w:World,(∀b,Mn' b≠none->w.heap[b]? =Mn' b)->∀b,Mn b≠none->w.heap[b]? =Mn b:=fun w h b hb=>by
  have X2:b≠tb:=fun e=>hb (e▸uf1);have:=h b (by show(if b=tb then _ else Mn b)≠none;rw[if_neg X2];exact hb);rw[this];show(if b=tb then _ else Mn b)=_;rw[if_neg X2]
 refine⟨_,_,_,_,ring (Mn:=Mn') (w0:=w0) (rb0:=rb) hO (if_pos rfl) (fun w h=>hbc w (hMn w h)) (fun w hI h=>hsc w hI (hMn w h)),⟨fun X' R w w' fr hJ j3 hfn hl=>?_⟩,?_⟩
 ·obtain⟨_,⟨Γ,hM⟩,hT,ei0,er0⟩:=hJ;have hF:=hM.fix;have hlen:R.cl.length=Y.m:=hT.len.trans (Sys.ef0 sc sn);have zo1:=hMn w hM.get;obtain⟨Fq,gs1,ug1⟩:=hM.inv;have htb:w.heap[tb]? =Mn' tb:=hM.get tb (by show(if tb=tb then _ else _)≠none;rw[if_pos rfl];simp);have htl:tb<w.heap.size:=by
   have:Mn' tb=some (.cells #[.slice none 0 0,.slice none 0 0,.slice none 0 0,.slice none 0 0,.bool false,.i 0] 45 (0,0)):=if_pos rfl;rw[this]at htb;exact(Array.getElem?_eq_some_iff.1 htb).1
  have Of0:∀b,b<w.heap.size->b≠tb->w'.heap[b]? =w.heap[b]?:=fun b hb X2=>j3.block b hb fun e=>X2 (Option.some.inj e);have htk:Kept Y Γ R Mn' tb:=.inl (by show(if tb=tb then _ else _)≠none;rw[if_pos rfl];simp);have hfp:∀b,R.fp b->b≠tb:=fun b hb e=>(hF.mn tb (by show(if tb=tb then _ else _)≠none;rw[if_pos rfl];simp)).2.1 (e▸hb);refine qv0 (τ:=w0.tape) (d:=w0.drawn) (hk (.returned _) (Yc.G2 w' w0.tape w0.drawn) fr ⟨R,rfl,?_⟩ hfn (tr0 hl) {X' with pend:=0,cap:=0,dn:=0} ?_ (Nat.le_trans l7 (Nat.le_trans hF.size j3.size)) hF.base.low hF.base.pl)
  ·refine⟨hF.mem.congr fun b hb=>Of0 b (hF.mem.lt hb) (hfp b hb),hF.m,hT.evs,hT.nts,hT.used,hT.ends,fun j hj=>?_,er0,⟨_,Fq,hO.sys.loc _ _ w _ Fq gs1 fun b hb=>Of0 b (hO.sys.vis _ _ _ _ gs1 b hb).1 fun e=>(ug1 b hb).2 (e▸htk),fun b hb=>(ug1 b hb).1⟩,hF.fpB,fun b hb=>?_,Nat.le_trans hF.size j3.size,j3.os.trans (hF.os rfl),j3.output.trans (hF.output rfl),rfl⟩
   ·rw[ei0 j hj,if_pos hj]
   ·have h1:=zo1 b hb;have hbl:b<w.heap.size:=by
     rcases Nat.lt_or_ge b w.heap.size with z|z
     ·exact z
     ·exact absurd (h1.symm.trans (Array.getElem?_eq_none z)) hb
    exact(Of0 b hbl fun e=>hb (e▸uf1)).trans h1
  ·refine⟨fun i=>?_,rfl,rfl,rfl,?_,fun b hb=>hF.D7 b (Nat.le_trans j3.size hb),hF.tl0⟩
   ·show X'.W1 i=none;by_cases h0:i=0
    ·subst h0;exact hF.tm0 rfl
    ·cases hs:X'.W1 i with
     |none=>rfl
     |some s=>
      obtain⟨j,c,h5,h6,h7,_⟩:=hF.W4 i s h0 hs;have hjl:=(List.getElem?_eq_some_iff.1 h5).1;rcases hF.waits h5 with⟨_,_,l,h8,_⟩|⟨_,x,_,h8⟩
      ·have h8:(if j<Y.m then cd0 ((Y.pn sc sn).ft[j]?) else(Y.pn sc sn).ft[j]?)=some (.inl l):=h8;rw[if_pos Uo]at h8;cases hx:(Y.pn sc sn).ft[j]? with
       |none=>rw[hx]at h8;cases h8
       |some f=>cases f <;> (rw[hx]at h8;cases h8)
      ·rcases h8 with h8|h8
       ·rw[h6]at h8;cases h8
       ·rw[<- h7,hs]at h8;cases h8
   ·have hu:=hF.under.mono j3.size;exact⟨hu.stay,hu.D5,hu.chs,hu.T4,hu.low⟩
 ·have hle:=hB.le;have kt1:∀b,(rn0 rb yb eb wb Y.m).fp b->w0.heap.size <=b:=fun b hb=>by
   rcases hb with rfl|rfl|rfl|⟨h,_⟩|⟨h,_⟩|⟨h,_⟩|⟨j,c,h,_⟩
   ·exact hle.1
   ·exact hle.2.2.1
   ·exact hle.2.2.2.1
   ·exact absurd rfl h
   ·exact absurd rfl h
   ·exact absurd rfl h
   ·simp[rn0]at h
  have uh1:yb<w4.heap.size:=(Array.getElem?_eq_some_iff.1 hB.yb).1;have zp1:¬(rn0 rb yb eb wb Y.m).fp tb:=hB.mem.gk1 hB.tb Ud;have hu:=hX.under.mono Dt0.size;have hnl:∀{j:Nat},¬j<(rn0 rb yb eb wb Y.m).cl.length:=fun h=>Nat.not_lt_zero _ h;have hnc:∀{j:Nat}{c:CB},(rn0 rb yb eb wb Y.m).cl[j]? =some c->False:=fun h=>by simp[rn0]at h
  refine⟨Nat.zero_le _,⟨⟨m0,fun _=>0,fun _=>0,fun _=>0,fun _=>[],fun _ _=>False⟩,⟨⟨hB.mem,rfl,fun j c hc=>(hnc hc).elim,fun j c hc=>(hnc hc).elim,kt1,fun j hj=>(hnl hj).elim,fun j b hb=>hb.elim,fun b hb=>?_,hX.tl0,fun _=>Dt0.os,fun _=>Dt0.output,Dt0.size,rfl,show Go.ConcN.upd X.stay 0 _ 0=_ from Go.ConcN.upd_same _ _ _,.inr rfl,fun g s hg hs=>?_,fun j k hj=>(hnl hj).elim,fun j k hj=>(hnl hj).elim,fun j k c d hc=>(hnc hc).elim,fun j c hc=>(hnc hc).elim,hX.dn,hX.pend,?_,?_,fun b hb=>hX.D7 b (Nat.le_trans Dt0.size hb),fun _=>hX.W1 0,⟨l7,fun b hb=>?_,hb3⟩⟩,F,?_,fun b hb=>⟨fun z=>?_,fun z=>?_⟩⟩⟩,⟨rfl,rfl,rfl,rfl,rfl,fun j c hc=>(hnc hc).elim,fun j hj=>?_⟩,rfl,rfl⟩
  ·by_cases hbt:b=tb
   ·subst hbt;refine⟨?_,zp1,fun k hk=>(hnl hk).elim⟩;show _=(if b=b then _ else _);rw[if_pos rfl];exact hB.tb
   ·have hMb:Mn' b=Mn b:=if_neg hbt;rw[hMb]at hb⊢;cases ho:Mn b with
    |none=>exact absurd ho hb
    |some o=>
     have hl:=O1 b o ho;exact⟨(Dt0.block b hl).trans (hmn b o ho),fun z=>by have:=kt1 b z;omega,fun k hk=>(hnl hk).elim⟩
  ·have:=hX.W1 g;have hs:X.W1 g=some s:=hs;rw[this]at hs;cases hs
  ·show X.cap <=0;rw[hX.cap];exact Nat.le_refl _
  ·refine⟨fun g p hp=>?_,hu.D5,fun b hb=>?_,fun G hG=>?_,fun b hb=>?_⟩
   ·by_cases hg:g=0
    ·subst hg;have hp':p∈Go.ConcN.upd X.stay 0 [((⟨rb,8-1,none⟩:Addr),Value.chan (some yb))] 0:=hp;rw[Go.ConcN.upd_same]at hp';simp at hp';rw[hp'];exact hB.mem.run.lt
    ·have hp':p∈Go.ConcN.upd X.stay 0 [((⟨rb,8-1,none⟩:Addr),Value.chan (some yb))] g:=hp;rw[Go.ConcN.upd_ne _ _ hg]at hp';exact hu.stay g p hp'
   ·rcases hb with z|rfl
    ·exact hu.chs b z
    ·exact uh1
   ·rcases hG with z|z
    ·have z:some (⟨rb,8⟩:W7)=some G:=z;cases z;exact hB.mem.run.lt
    ·have z:G∈X.T4.toList++X.old:=z;rw[List.mem_append]at z;rcases z with z|z
     ·exact hu.T4 G (.inl (by simpa using z))
     ·exact hu.T4 G (.inr z)
   ·rcases hb with(z|rfl)|rfl
    ·exact hu.low b z
    ·exact uh1
    ·exact hB.mem.run.lt
  ·rcases hb with(z|rfl)|rfl
   ·exact hb2 b z
   ·have:=hle.2.1;omega
   ·have:=hle.1;omega
  ·exact hO.sys.loc _ _ w0 w4 F hinv fun b hb=>Dt0.block b (cq0 b hb).1
  ·have:=kt1 b z;have:=(cq0 b hb).1;omega
  ·rcases z with z|⟨k,hk,_⟩|⟨j,z⟩
   ·by_cases hbt:b=tb
    ·have:=(cq0 b hb).1;have:=hle.2.2.2.2;omega
    ·exact z ((if_neg hbt).trans (hFm b hb))
   ·exact(hnl hk).elim
   ·exact z
  ·show(List.replicate Y.m (0:Int))[j]? =_;simp[hj];rfl
end
end
end Go.Vy.Sc
end
section
namespace Go.Vy
open Go Go.Conc Go.Yc Go.RowKit
open Go.Vc
section
variable{P:Program}[Ctx P]
end
section
variable{P:Program}{ρ:Operand->Value}{w:World}{d:Option Nat}{ty:TypeId}{ps:String}{af:Array Edge}{g:Option (Nat×Bool)}{x y:Operand}{T T' S:TypeId}
theorem hh0{a b:ByteArray}(hx:ρ x= .string a)(hy:ρ y= .string b)(h:a.size+b.size <=9223372036854775807):Does P (execOp ρ ⟨d,.binOp .add T x y T',ty,ps,af,g⟩) w (.val (.string (a++b))) w:=by
 have hm:IntKind.i64.max=9223372036854775807:=by decide
 have hn:¬((a.size+b.size:Nat):Int)>IntKind.i64.max:=by omega
 refine .N0 (Sj0 hx hy) rfl rfl fun τ d=>?_;have h1:binOp .add T (.string a) (.string b)=(pure (.string (a++b)):Sem Value):=by
  show Op.stringOp .add a b=_;unfold Op.stringOp;exact if_neg hn
 have h2:eqGuard .add T x y (.string a) (.string b)=(pure ():Sem Unit):=rfl;show(do pure (.value (<- (do eqGuard .add T x y (ρ x) (ρ y);binOp .add T (ρ x) (ρ y)))):Sem Next).run P _=_;rw[hx,hy,h2,h1];rfl
theorem dg0{κ κ':IntKind}{m:Int}{u:TypeDesc}(hx:ρ x= .int κ m)(hS:P.underlying S=some u)(hT:P.underlying T=some (.int κ')):Does P (execOp ρ ⟨d,.convert S T x,ty,ps,af,g⟩) w (.val (.int κ' (κ'.wrap m))) w:=by
 have hc:∀w':World,(convert S T (.int κ m)).run P w'= .ok (.int κ' (κ'.wrap m)) w':=fun w'=>by
  simp only[convert,Sem.run_bind,run_underlying hS,run_underlying hT,Result.andThen_ok];rfl
 have ht:S0 P (convert S T (.int κ m)):=by
  unfold convert;exact W6 hS<|W6 hT<|M0 _
 refine .N0 (fd1 (t:=(do pure (.value (<- convert S T (ρ x))):Sem Next)) rfl (by rw[hx];exact t_v ht)) rfl rfl fun τ d=>?_;show(do pure (.value (<- convert S T (ρ x))):Sem Next).run P _=_;rw[hx];simp only[Sem.run_bind,hc,Result.andThen_ok];rfl
theorem gn0{α β:Type}{f:α->β->Sem (ForInStep β)}(hf:∀a b,S0 P (f a b)):∀(l:List α)(b:β),S0 P (forIn l b f)
 | [],b=>by rw[List.forIn_nil];exact M0 _
 |a::l,b=>by
  rw[List.forIn_cons];refine O0 (hf a b) fun r=>?_;cases r with
  |done b=>exact M0 _
  |yield b=>exact gn0 hf l b
theorem sq0{α β:Type}{f:α->β->Sem (ForInStep β)}(hf:∀a b,S0 P (f a b))(l:Array α)(b:β):S0 P (forIn l b f):=by
 rw[<- Array.forIn_toList];exact gn0 hf _ _
theorem Bk0{E:TypeId}{ad:Addr}{c:Nat}{m:Int}(hx:ρ x= .slice (some ad) 1 c)(hS:P.underlying S=some (.slice E))(hE:P.underlying E=some (.int .u8))(hT:P.underlying T=some .string)(hc:w.cell? ad=some (.int .u8 m)):Does P (execOp ρ ⟨d,.convert S T x,ty,ps,af,g⟩) w (.val (.string (ByteArray.empty.push (UInt8.ofNat m.toNat)))) w:=by
 have ht:S0 P (convert S T (.slice (some ad) 1 c)):=by
  unfold convert;refine W6 hS<|W6 hT<|W6 hE ?_;show S0 P (Conv.bytesToString _);unfold Conv.bytesToString;refine O0 (O5 _ _) fun l=>?_;refine O0 (sq0 (fun a b=>?_) _ _) fun r=>M0 _;split
  ·exact M0 _
  ·exact O0 (C4 _) fun _=>M0 _
 have hl:∀w':World,w'.heap=w.heap->(loadCells ad 1).run P w'= .ok #[.int .u8 m] w':=fun w' hw=>by
  have h1:w'.cell? ad=some (.int .u8 m):=by rw[<- hc];unfold World.cell?;rw[hw]
  have:=run_loadCells_list (P:=P) (w:=w') ad [.int .u8 m] (fun j v hj=>by
   match j,hj with
   |0,hj=>cases hj;simpa [Addr.add]using h1)
  simpa using this
 have hr:∀w':World,w'.heap=w.heap->(convert S T (.slice (some ad) 1 c)).run P w'= .ok (.string (ByteArray.empty.push (UInt8.ofNat m.toNat))) w':=fun w' hw=>by
  simp only[convert,Sem.run_bind,run_underlying hS,run_underlying hT,run_underlying hE,Result.andThen_ok,Conv.bytesToString,hl w' hw];rfl
 refine .N0 (fd1 (t:=(do pure (.value (<- convert S T (ρ x))):Sem Next)) rfl (by rw[hx];exact t_v ht)) rfl rfl fun τ d=>?_;show(do pure (.value (<- convert S T (ρ x))):Sem Next).run P _=_;rw[hx];simp only[Sem.run_bind,hr _ (show(Yc.G2 w τ d).heap=w.heap from rfl),Result.andThen_ok];rfl
end
section
variable{P:Program}[Ctx P]
end
section
variable{P:Program}[Ctx P]{n:Nat}{Q:Exit->Env->World->Prop}{e:Env}{w:World}{ops:Array Oper}{rest:List Oper}{d:Nat}{ty:TypeId}{ps:String}{af:Array Edge}{T E:TypeId}
theorem L.ku1[Go.Vc.K3]{s m:Nat}{parts:List (Nat×Operand)}{vs:List (Nat×Value)}{zv:Value}{cs:Array Value}(hv:parts.map (fun(i,y)=>(i,ev e y))=vs)(hT:P.underlying T=some (.slice E))(hs:(P.info? E).map (·.size)=some s)(hz:(P.info? E).bind (·.zero)=some zv)(O1:0<m*s/\m*s <=16777216)
  (hf:Instr.fill (fun i=>some (i*s,s)) ((Array.range (m*s)).map (fun i=>zv.cells[i%zv.cells.size]!)) vs=some cs)
  (k:∀w1 b,jp0 w w1 b cs E->L P n ops Q rest (upd e d (.slice (some ⟨b,0,none⟩) m m)) w1) :
  L P n ops Q (⟨some d,.buildSlice T m parts.toArray,ty,ps,af,none⟩::rest) e w:=by
 refine L.va (w':=w.alloc (.cells cs E)) (.N0 (N1 rfl _) rfl rfl fun τ d'=>?_) (k _ _ (B7 w _ E));show(execOp (ev e) ⟨some d,.buildSlice T m parts.toArray,ty,ps,af,none⟩).run P (Yc.G2 w τ d')= .ok (.value (.slice (some ⟨(Yc.G2 w τ d').heap.size,0,none⟩) m m)) ((Yc.G2 w τ d').alloc (.cells cs E));generalize Yc.G2 w τ d'=w;have h1:¬(m*s>2 ^ 24):=by omega
 have h2:¬(m*s=0):=by omega
 simp only[execOp,Instr.buildSlice,List.map_toArray,hv,Go.Vc.run_underlying hT,Go.Vc.run_sizeOf hs,Sem.run_bind,Result.andThen_ok,h1,h2,if_false,Sem.run_pure,Go.Vc.Z7 hz];rw[hf];simp[newRow]
end
def gt1(P:Program)(fn:Func)(R:Ending->World->Prop):Exit->Env->World->Prop:=fun x e w=>match x with
 | .panic ch=>R (.panicked ch) w
 |x=>ends P fn (fun v w=>R (.returned v) w) x e w
theorem Calls.B6{P:Program}[Ctx P]{f:FuncId}{fn:Func}{c:Code}{args:Array Value}{w:World}{R:Ending->World->Prop}{n:Nat}(hf:P.funcs[f]? =some fn)(hb:fn.body=some c)(hn:args.size+(fn.ntmps-args.size)=n)
  (h:W P n c (gt1 P fn R) (Vc.cw0 args) w):Calls P f args w R:=by
 refine calls_of_wp hf hb (wp_mono (h _ ⟨?_,rfl,?_⟩) ?_)
 ·simp[hn]
 ·intro t;simp only[Vc.cw0,Array.getD_eq_getD_getElem?,Array.getElem?_append];split
  ·rfl
  ·rename_i ht;rw[Array.getElem?_eq_none (by omega:args.size <=t)];simp only[Array.getElem?_replicate];split <;> rfl
 ·rintro x a w' ⟨e',r,hx⟩;cases x with
  |panic ch=>exact⟨r.defers,hx⟩
  |normal=>obtain⟨_,v,hv,hR⟩:=hx;exact⟨r.defers,v,hv a.tmps r.get,hR⟩
  |ret=>obtain⟨_,v,hv,hR⟩:=hx;exact⟨r.defers,v,hv a.tmps r.get,hR⟩
  |exit id=>obtain⟨hx,_⟩:=hx;rcases hx with hx|hx <;> cases hx
  |goto l=>obtain⟨hx,_⟩:=hx;rcases hx with hx|hx <;> cases hx
  |outgrown=>obtain⟨hx,_⟩:=hx;rcases hx with hx|hx <;> cases hx
end Go.Vy
end
section
namespace Go.Vy.Sc
open Go Go.Conc Go.Yc Go.RowKit Go.Proofs Go.Proofs.YtinppmaojmdmhaaGreat Tryz
open Go.Vc Go.Wg
section
variable{w:World}{a:Addr}{v:Value}
theorem ns0(h:w.cell? a=some v):a.block<w.heap.size:=by
 unfold World.cell? at h;rcases Nat.lt_or_ge a.block w.heap.size with z|z
 ·exact z
 ·rw[Array.getElem?_eq_none z]at h;simp at h
theorem lf0{w0:World}(h:w0.cell? a=some v)(hb:Below w0.heap.size w0 w):w.cell? a=some v:=by
 rw[(R8 (u:=w0) (u':=w) (a:=a) (hb.block _ (ns0 h))).1];exact h
theorem B5.down{B B':Nat}{w:World}{R:Rn}(h:B5 w B' R)(hB:B <=B'):B5 w B R:=⟨h.run,h.cls.down hB,h.evs.down hB,h.nts.down hB,h.ends,h.wts,h.jv0,h.oq0,h.lcl,h.blk⟩
theorem O8{P:Program}{S:Sem Next}{b r:Bool}(h:b=r)(hd:Does P S w (.val (.bool b)) w):Does P S w (.val (.bool r)) w:=h▸hd
end
structure wv0(w:World)(sa:Option Addr)(sn scp:Nat)(sc:Nat->Int):Prop where
 sl:SL sa sn
 nil:sa=none->sn=0/\scp=0
 cap:sn <=scp
 cell:∀j,j<sn->w.cell? ⟨ab sa,ao sa+j*1,none⟩=some (.i (sc j))
theorem wv0.j0{w w':World}{sa:Option Addr}{sn scp:Nat}{sc:Nat->Int}(h:wv0 w sa sn scp sc)(hb:Below w.heap.size w w'):wv0 w' sa sn scp sc:=⟨h.sl,h.nil,h.cap,fun j hj=>lf0 (h.cell j hj) hb⟩
theorem Sys.ind{Y:Sys}(I:PR Y->Prop)(h0:I Y.p0)(hb:∀p,I p->p.ft.length<Y.m->I (Y.bgn p))(ht:∀p i l,I p->p.ft.length=Y.m->p.ft[i]? =some (.inl l)->Y.rdy i l p.s=true->I (Y.n6 p i)):∀p,Y.Reach p->I p:=by
 have hB:∀n,n <=Y.m->I (Y.I5 n):=by
  intro n
  induction n with
  |zero=>exact fun _=>h0
  |succ n ih=>exact fun hn=>hb _ (ih Uo) (by rw[Sys.v7];omega)
 have hP:∀(sc:Nat->Int) n,I (Y.pn sc n):=by
  intro sc n
  induction n with
  |zero=>exact hB Y.m (Nat.le_refl _)
  |succ n ih=>
   show I (Y.step (Y.pn sc n) (sc n));unfold Sys.step;split
   ·rename_i i hi;obtain⟨_,hr⟩:=Sys.Dr0 hi;unfold Sys.kn0 at hr;cases hx:(Y.pn sc n).ft[i]? with
    |none=>rw[hx]at hr;cases hr
    |some f=>
     cases f with
     |inl l=>rw[hx]at hr;exact ht _ i l ih (Sys.ef0 sc n) hx hr
     |inr x=>rw[hx]at hr;cases hr
   ·exact ih
 rintro p (⟨n,hn,rfl⟩|⟨sc,n,rfl⟩)
 ·exact hB n hn
 ·exact hP sc n
end Go.Vy.Sc
end
section
namespace Go.Vy
open Go Go.Conc Go.Yc Go.RowKit
open Go.Vc
section
variable{P:Program}{fr:Frame}{fn:Func}{v:Value}{t:Tmp}
theorem ui1(hm:fr.mode= .returning)(hd:fr.defers=[])(hk:fr.kind= .normal)(hf:P.funcs[fr.fn]? =some fn)(hr:fn.results=#[.tmp t])(hv:fr.tmps.getD t undef=v)(hi:P.inits.idxOf? fr.fn=none)(w:World):stepG P true (G fr []) w= .ended (.done v) w #[]:=by
 have h1:=results_tmp hr fr.tmps P w;have h2:=events_results_tmp (P:=P) (w:=w) hr fr.tmps;simp[G,stepG,unwind,doReturn,hm,hd,hk,hf,hi,h1,h2,hv,seen,GStep.after]
theorem Jt0{w:World}(hl:Leaves P fr w (.returned v))(hf:P.funcs[fr.fn]? =some fn)(hr:fn.results=#[.tmp t])(hnv:k8 w):fr.tmps.getD t undef=v:=by
 obtain⟨h1,h2,h3,fn',h4,h5⟩:=hl;rw[hf]at h4;obtain rfl:=Option.some.inj h4;obtain⟨x',es,h6,_⟩:=h5 w.tape w.drawn _ w hnv.sim;have h7:=results_tmp hr fr.tmps P w;rw[Sem.runT_eq]at h6;have h8:=(Prod.mk.inj h6).1;rw[h7]at h8;injection h8
end
end Go.Vy
namespace Go.Vy.Sc
open Go Go.Conc Go.Yc Go.RowKit Go.Proofs Go.Proofs.YtinppmaojmdmhaaGreat Tryz
open Go.Vc Go.Wg
def ts0(W w':World):Prop:=Below W.heap.size W {w' with tape:=W.tape}
theorem ts0.frame{W w':World}(h:ts0 W w')(may:MemPlace->Prop):W.keptBut w' may:=Below.frame h may
theorem ts0.trod{H:Type}{enc:TypeId×Value->H}{P:Program}{t:TypeId}(hl:laidOutB P=true)(hr:P.readableRec t=true)(zq1:t<P.types.size){W W':World}{v:Value}{d:DataW H}{ps:List MemPlace}
  (h:DataW.Trod enc P W 0 (fun _=>true) true t v d ps) (hb:ts0 W W') (O1:∀x∈ps,x.block<W.heap.size) :
  DataW.Trod enc P W' 0 (fun b=>decide (b<W.heap.size)) true t v d ps:=
 WideElems.Trod_stays hl hr zq1 h (fun x hx=>(Below.same hb (O1 x hx):W.sameAt {W' with tape:=W.tape} x)) (fun x hx=>by simpa using O1 x hx)
theorem Vs0{x y:Obj}(h:ij0 .all x y):y=x:=by cases h;rfl
theorem Pf0{o x y:Obj}(h:ij0 (.gone o) x y):y=o:=by cases h;rfl
theorem oi1{f:FuncId}{fn:Func}{t:Tmp}{args:Array Value}{W:World}(hf:prog.funcs[f]? =some fn)(hr:fn.results=#[.tmp t])(hi:prog.inits.idxOf? f=none)(h:@C prog (L9 W.heap.size (X0 W).D7) f args (il0 W) fun v w=>v= .bool true/\Below (il0 W).heap.size (il0 W) w):Yc.Ends prog (fun v w'=>v= .bool true/\ts0 W w') (solo (G (Frame.enter prog f args .normal) []) W) #[]:=by
 have H2:(il0 W).heap.size=W.heap.size:=by simp[il0]
 refine Fin.start (h _ ⟨_,rfl⟩ [] (fun e w' fr he hfr hl=>?_) (X0 W) ⟨fun _=>rfl,rfl,rfl,rfl,Rn0 W _,fun b hb=>Lq0 (by rw[<- H2];exact hb),Nat.one_pos⟩ (by rw[H2];exact Nat.le_refl _) (fun _ hb=>hb.elim) rfl);cases e with
 |panicked ch=>exact he.elim
 |outgrown=>exact he.elim
 |returned v=>
  obtain⟨rfl,hb⟩:=he;rw[H2]at hb;refine Pd0 _ _ _ _ _ fun hnv X hX h1 h2 h3=>?_;have uj1:prog.funcs[fr.fn]? =some fn:=by rw[hfr];exact hf
  have hv:=Jt0 hl uj1 hr hnv;obtain⟨hm,hd,hk,_⟩:=hl;refine Fin.ends rfl hX.W1 hX.cap (ui1 hm hd hk uj1 hr hv (by rw[hfr];exact hi)) fun ρ w hs hρ=>⟨rfl,?_⟩
  refine⟨hs.os.trans hb.os,rfl,hs.output.trans hb.output,?_,fun k hk=>?_⟩
  ·show W.heap.size <=w.heap.size;rw[hs.size];show W.heap.size <=w'.heap.size;rw[<- H2];exact hb.size
  ·show w.heap[k]? =W.heap[k]?;have hk':k<w'.heap.size:=by have:=hb.size;rw[H2]at this;omega
   obtain⟨y,hy,hlk⟩:=hs.obj k _ (Array.getElem?_eq_getElem hk');have e1:some w'.heap[k]=(il0 W).heap[k]?:=by rw[<- hb.block k hk];exact(Array.getElem?_eq_getElem hk').symm
   have e2:(il0 W).heap[k]? =(W.heap[k]?).map fun o=>if S4 o then nothing else o:=by
    show(W.heap.map _)[k]? =_;rw[Array.getElem?_map]
   rw[Array.getElem?_eq_getElem hk]at e2;rw[e2]at e1;have e1:=Option.some.inj e1;have hp:ρ k=(X0 W).D7 k:=by
    rw[hρ k fun z=>by have:=h2 k z;omega,h3]
   have hp2:(X0 W).D7 k=if S4 W.heap[k] then .gone W.heap[k] else .all:=by
    show(match W.heap[k]? with|some o=>if S4 o then O7.gone o else .all|none=>.all)=_;rw[Array.getElem?_eq_getElem hk]
   rw[hy,Array.getElem?_eq_getElem hk];have hlk:ij0 (ρ k) w'.heap[k] y:=hlk;rw[hp,hp2,e1]at hlk;cases hv:S4 W.heap[k]
   ·simp only[hv,Bool.false_eq_true,if_false]at hlk;rw[Vs0 hlk]
   ·simp only[hv,if_true]at hlk;rw[Pf0 hlk]
end Go.Vy.Sc
end
section
namespace Go.Vy.Sc
open Go Go.Conc Go.Yc Go.RowKit Go.Proofs Go.Proofs.YtinppmaojmdmhaaGreat Tryz
open Go.Vc Go.Wg Go.ChangeShapes Go.WideShapes Go.ChangeAt Go.Deep
theorem oy0{W:World}{a:Addr}{v:Value}(h:W.cell? a=some v):(il0 W).cell? a=some v:=by
 unfold World.cell? at h⊢;cases ho:W.heap[a.block]? with
 |none=>rw[ho]at h;cases h
 |some o=>
  cases o with
  |cells c e f=>
   rw[Ro0 ho rfl];rw[ho]at h;exact h
  |_=>rw[ho]at h;cases h
theorem tt0{α:Type}[Inhabited α]{n:Nat}{p:Nat->α->Prop}(h:∀i,i<n->∃x,p i x):∃f:Nat->α,∀i,i<n->p i (f i):=by
 classical
 exact⟨fun i=>if hi:i<n then(h i hi).choose else default,fun i hi=>by
  show p i (if hi:i<n then(h i hi).choose else default);rw[dif_pos hi];exact(h i hi).choose_spec⟩
section
end
section
theorem tu0:prog.cellsOf 3=1:=by kernel_rfl
theorem zr1{α:Type}:∀{cs:List α},cs.length=3->∃a b c,cs=[a,b,c]
 | [a,b,c],_=>⟨a,b,c,rfl⟩
end
end Go.Vy.Sc
end
section
namespace Go.Vy
open Go Go.Conc Go.Yc
open Go.Vc (Env upd V3 ev)
theorem Does.quiet{P:Program}{S:Sem Next}{u:World}{r:Out}(h:∀τ d ρ x,j7 ρ (G2 u τ d) x->S.run P x=r.res x/\S.events P x #[]=#[]):Does P S u r u:=
 ⟨rfl,rfl,fun τ d ρ x hs=>by
  obtain⟨h1,h2⟩:=h τ d ρ x hs;exact⟨Evo.refl _,x,#[],by rw[Sem.runT_eq,h1,h2],hs,fun e he=>by simp at he⟩⟩
section
variable{P:Program}
theorem Vt0{f:FuncId}{fn:Func}{args:Array Value}{e:Array Value->Sem Value}(hf:P.funcs[f]? =some fn)(J4:Ue fn)(hb:fn.body.isNone=true)(hn:Extern.findNext fn=none)(he:Extern.find fn=some e)(ht:S0 P (e args)):S0 P (callFunc f args):=by
 unfold callFunc;refine nf0 ?_;rw[hf];simp only[J4,Bool.false_eq_true,if_false,hb,if_true,hn,he];exact O0 (s:=mark (Mark.extern f)) (show(if Im0 (Mark.extern f)=true then S0 P (.pure ()) else dead P (.pure ()))by rw[if_pos (show Im0 (Mark.extern f)=true from rfl)];trivial) fun _=>O0 ht fun _=>M0 _
end
section
open Go.Vc Go.RowKit
variable{P:Program}[Ctx P]
end
end Go.Vy
end
section
namespace Go.Vy.Sc
open Go Go.Conc Go.Yc Go.RowKit Go.Proofs Go.Proofs.YtinppmaojmdmhaaGreat Tryz
open Go.Vc Go.Wg
section
end
structure mk0(Y:Sys)(sc:Nat->Int)(sn B:Nat)(R:Rn)(w:World):Prop where
 mem:B5 w B R
 hm:R.m=Y.m
 evs:R.evs=(Y.pn sc sn).evs
 nts:R.nts=(Y.pn sc sn).nts
 used:R.used=(Y.pn sc sn).used
 ends:∀j,j<Y.m->R.ends[j]? =some (fp0 (Y.pn sc sn).ft[j]?)
 wts:∀j,j<Y.m->R.wts[j]? =some (km1 Y j ((Y.pn sc sn).ft[j]?))
 stuck:R.stuck=((Y.pn sc sn).ft.any (·.isLeft)&&(Y.rds (Y.pn sc sn)).isEmpty)
 fp:∀b,R.fp b->B <=b
section
variable{Y:Sys}{sc:Nat->Int}{sn B B':Nat}{R:Rn}{w w':World}
theorem mk0.congr(h:mk0 Y sc sn B R w)(he:∀k,R.fp k->w'.heap[k]? =w.heap[k]?):mk0 Y sc sn B R w':=
 ⟨h.mem.congr he,h.hm,h.evs,h.nts,h.used,h.ends,h.wts,h.stuck,h.fp⟩
theorem mk0.j0(h:mk0 Y sc sn B R w)(hb:Below w.heap.size w w'):mk0 Y sc sn B R w':=h.congr fun k hk=>hb.block k (h.mem.lt hk)
theorem mk0.H6{b:Nat}(h:mk0 Y sc sn B R w)(hg:w.grownBy w' (some b))(hn:¬R.fp b):mk0 Y sc sn B R w':=h.congr fun k hk=>hg.block k (h.mem.lt hk) fun e=>hn (by cases e;exact hk)
theorem mk0.down(h:mk0 Y sc sn B' R w)(hB:B <=B'):mk0 Y sc sn B R w:=
 ⟨h.mem.down hB,h.hm,h.evs,h.nts,h.used,h.ends,h.wts,h.stuck,fun b hb=>Nat.le_trans hB (h.fp b hb)⟩
theorem cb1{fb:Nat->FuncId}{caps:Nat->Array Value}{fv:Nat->Value}{l sa:Option Addr}{lc scp:Nat}{F:Nat->Prop}(hO:qf0 Y fb caps fv l sa sn sc){m0:Gm}(hinv:Y.Inv Y.s0 m0 w F)(hl:∀j,j<Y.m->w.cell? ⟨ab l,ao l+j*1,none⟩=some (fv j))(hlF:0<Y.m->¬F (ab l))(hSc:wv0 w sa sn scp sc)(hsF:0<sn->¬F (ab sa)\/∀s m w' F',Y.Inv s m w' F'->w'.heap[ab sa]? =w.heap[ab sa]?):@C prog (L9 Y.lb Y.pl) 41 #[.slice l Y.m lc,.slice sa sn scp] w fun v w'=>∃R,v= .tuple #[Uw0 R,.i 0]/\mk0 Y sc sn w.heap.size R w'/\(∃m' F',Y.Inv (Y.pn sc sn).s m' w' F'/\∀b,F' b->¬R.fp b)/\w'.os=w.os/\w'.output=w.output/\w'.tape=w.tape/\w.heap.size <=w'.heap.size/\∀b,b<w.heap.size->¬F b->w'.heap[b]? =w.heap[b]?:=by
 classical
 let Mn:Nat->Option Obj:=fun b=>if F b then none else w.heap[b]?
 have jr0:∀(w':World)(a:Addr)(v:Value),(∀b,Mn b≠none->w'.heap[b]? =Mn b)->¬F a.block->w.cell? a=some v->w'.cell? a=some v:=fun w' a v hw hF ha=>by
  have h1:Mn a.block=w.heap[a.block]?:=if_neg hF;have h2:w'.heap[a.block]? =w.heap[a.block]?:=by
   rw[<- h1];refine hw _ ?_;rw[h1,Array.getElem?_eq_getElem (ns0 ha)];simp
  rw[(R8 (u:=w) (u':=w') (a:=a) h2).1];exact ha
 have key:=ue1 (Mn:=Mn) (w0:=w) (F:=F) (bc:=lc) (scp:=scp) hO (fun b o h=>by
   have h:(if F b then none else w.heap[b]?)=some o:=h;split at h
   ·cases h
   ·exact h) hinv (fun b hb=>if_pos hb) (fun w' hw j hj=>jr0 w' _ _ hw (hlF Uo) (hl j hj)) (fun w' hI hw j hj=>by
   rcases hsF Uo with h|h
   ·exact jr0 w' _ _ hw h (hSc.cell j hj)
   ·obtain⟨s,m,F',hI⟩:=hI;rw[(R8 (u:=w) (u':=w') (a:=⟨ab sa,ao sa+j*1,none⟩) (h s m w' F' hI)).1];exact hSc.cell j hj)
 refine @Calls.mono _ (L9 Y.lb Y.pl) _ _ _ _ _ key fun e w' he=>?_;cases e with
 |panicked ch=>exact he.elim
 |outgrown=>exact he.elim
 |returned v=>
  obtain⟨R,rfl,hD⟩:=he;refine⟨R,rfl,⟨hD.mem,hD.m,hD.evs,hD.nts,hD.used,hD.ends,hD.wts,hD.stuck,hD.fp⟩,hD.inv,hD.os,hD.output,hD.tape,hD.size,fun b hb hF=>?_⟩;have h1:Mn b=w.heap[b]?:=if_neg hF;rw[<- h1];refine hD.j0 b ?_;rw[h1,Array.getElem?_eq_getElem hb];simp
end
section
variable[Ctx prog]
end
section
theorem kv1:prog.built 99 []=some #[.bool false]:=by kernel_rfl
theorem kw1(x0:Int)(x1:Int)(x2:Int):prog.built 65 [(0,.i x0),(1,.i x1),(2,.i x2)]=some #[.i x0,.i x1,.i x2]:=by kernel_rfl
theorem kx1(x0:Int)(x1:Int):prog.built 162 [(0,.i x0),(1,.i x1)]=some #[.i x0,.i x1]:=by kernel_rfl
theorem ky1(x0:Int)(x1:Int)(x2:Option Addr)(x3:Option Addr)(x4:Nat)(x5:Nat)(x6:Int)(x7:Int):prog.built 164 [(0,.agg #[.i x0,.i x1]),(1,.pointer x2),(2,.agg #[.slice x3 x4 x5,.i x6,.i x7])]=some #[.i x0,.i x1,.pointer x2,.slice x3 x4 x5,.i x6,.i x7]:=by kernel_rfl
end
section
variable[Ctx prog]
section
variable{f:FuncId}{fn:Func}{ys:Array Value}
theorem kz1(w0:World):C prog 13 #[] w0 fun v w=>∃wb,v= .p wb/\w0.heap.size <=wb/\I0 w wb #[.bool false] 99/\Below w0.heap.size w0 w:=by
 refine C.enter (n:=3) func13 rfl rfl<|U2 ?_;intro hb;refine U64 ?_;refine L.va (P2 (parts:=[]) rfl kv1)<|L.box (cs:=#[.bool false]) rfl rfl (fun w b2 F2=>?_);refine U21 ?_;intro lt2 hb;have Y1:=F2.blk;refine U117 ?_;exact⟨b2,rfl,lt2,Y1,hb⟩
theorem Gj0(wb:Nat)(w0:World)(hW:I0 w0 wb #[.bool false] 99):C prog 69 #[.p wb] w0 fun v w=>v= .bool false/\w=w0:=by
 refine C.enter (n:=11) func69 rfl rfl<|U0 ?_;refine U8 ?_;refine U16 ?_;refine L.va (J8 rfl rfl underlying27)<|U89 ?_;refine L.va (A0 rfl underlying99 rfl sz4 Ud)<|L.on rfl<|L.va (q0 rfl underlying4 rfl (hW.E0 0 (v:=.bool false) rfl))<|L.va (k7 rfl)<|U8 ?_;exact U33
theorem Vu0(hf:prog.funcs[f]? =some fn)(hbd:fn.body.isSome=true)(hnm:Ue fn)(k o n:Int)(rd:Value)(w0:World)(R:World->Prop)(hdo:∀w,Below w0.heap.size w0 w->C prog f ys w fun _ w'=>R w'):C prog 126 #[.pointer none,.agg #[.i k,.i o,.i n],rd,.func (.func f) #[] ys] w0 fun _ w=>R w:=by
 refine C.enter (n:=63) func126 rfl rfl<|U2 ?_;intro hb;refine L.box (cs:=#[.i k,.i o,.i n]) rfl rfl (fun w b5 F5=>?_);refine U41 ?_;intro lt5 hb;refine U5 ?_;refine U545 ?_;refine U110 ?_;refine W.seq<|U85 ?_;refine L.va (ec0 (v:=.func (.func f) #[] ys) (b:=true) rfl (.inr ⟨_,_,_,rfl,rfl⟩) rfl underlying1 ⟨_,_,_,rfl⟩)<|U107 ?_;refine L.va G5<|L.call (kj0 rfl hf hbd hnm) (hdo _ hb) ?_;rintro _ w hR;refine U1 ?_;refine U45 ?_;exact ends.none (.inr rfl) rfl<|hR
theorem Pg0(hf:prog.funcs[f]? =some fn)(hbd:fn.body.isSome=true)(hnm:Ue fn)(o n k:Int)(rd:Value)(w0:World)(R:World->Prop)(hdo:∀w,Below w0.heap.size w0 w->C prog f ys w fun _ w'=>R w'):C prog 70 #[.agg #[.i o,.i n],.pointer none,.i k,rd,.func (.func f) #[] ys] w0 fun _ w=>R w:=by
 refine C.enter (n:=20) func70 rfl rfl<|U339 ?_;intro hb w b5 F5;refine U41 ?_;intro lt5 hb;have K2:=F5.blk;refine U79 ?_;refine U18 ?_;refine U278 ?_;refine U279 ?_;refine L.va (P2 (parts:=[(0,.tmp 11),(1,.tmp 13),(2,.tmp 15)]) rfl (kw1 k o n))<|U215 ?_;refine L.call (fe0 rfl rfl rfl rfl func126 rfl Tv0 rfl) (Vu0 hf hbd hnm k o n rd w R (fun w1 l7=>hdo w1 (B0 hb l7))) ?_;rintro _ w hR;refine U97 ?_;exact hR
theorem Ju0(b0 b1 cb:Nat)(obj num:Int)(q:Value)(sa:Option Addr)(sn:Nat)(sc:Nat)(ct:Int)(md:Int)(sa2:Option Addr)(sn2:Nat)(sc2:Nat)(ct2:Int)(md2:Int)(w0:World)(hB0:I0 w0 b0 #[.p cb] 89)(V8:I0 w0 b1 #[.slice sa2 sn2 sc2,.i ct2,.i md2] 97)(hC:I0 w0 cb #[.i obj,.i num,q,.slice sa sn sc,.i ct,.i md] 164):C prog 71 #[.p b0,.p b1] w0 fun v w=>v= .tuple #[]/\I0 w b1 #[.slice sa sn sc,.i ct,.i md] 97/\w0.grownBy w (some b1):=by
 refine C.enter (n:=6) func71 rfl rfl<|W.region rfl<|L.va (q0 rfl underlying89 rfl (hB0.E0 0 (v:=.p cb) rfl))<|U497 ?_;refine L.va (A2 (cs:=[.slice sa sn sc,.i ct,.i md]) rfl underlying97 rfl C9 rfl (hC.R7 rfl))<|L.pu 0 [.slice sa sn sc,.i ct,.i md] #[.slice sa sn sc,.i ct,.i md] C9 V8 (fun w G1 hg H2=>?_);have o6:=y5.gk0 V8 hg;have V8:=G1;refine U144 ?_;exact⟨rfl,V8,hg⟩
theorem la1(b0 b1 cb:Nat)(obj num:Int)(q:Value)(sa:Option Addr)(sn:Nat)(sc:Nat)(ct:Int)(md:Int)(sa2:Option Addr)(sn2:Nat)(sc2:Nat)(ct2:Int)(md2:Int)(w0:World)(hB0:I0 w0 b0 #[.slice sa sn sc,.i ct,.i md] 97)(V8:I0 w0 b1 #[.p cb] 89)(hC:I0 w0 cb #[.i obj,.i num,q,.slice sa2 sn2 sc2,.i ct2,.i md2] 164):C prog 97 #[.p b0,.p b1] w0 fun v w=>v= .tuple #[]/\I0 w cb #[.i obj,.i num,q,.slice sa sn sc,.i ct,.i md] 164/\w0.grownBy w (some cb):=by
 refine C.enter (n:=6) func97 rfl rfl<|W.region rfl<|L.va (q0 rfl underlying89 rfl (V8.E0 0 (v:=.p cb) rfl))<|L.va (A2 (cs:=[.slice sa sn sc,.i ct,.i md]) rfl underlying97 rfl C9 rfl (hB0.R7 rfl))<|U497 ?_;refine L.pu 3 [.slice sa sn sc,.i ct,.i md] #[.i obj,.i num,q,.slice sa sn sc,.i ct,.i md] C9 hC (fun w G1 hg H2=>?_);have o6:=y5.gk0 hC hg;have hC:=G1;refine U144 ?_;exact⟨rfl,hC,hg⟩
theorem ul1(cb wb:Nat)(obj num:Int)(sa:Option Addr)(sn:Nat)(sc:Nat)(ct:Int)(md:Int)(w0:World)(hC:I0 w0 cb #[.i obj,.i num,.p wb,.slice sa sn sc,.i ct,.i md] 164)(hW:I0 w0 wb #[.bool false] 99):C prog 39 #[.p cb,.pointer none] w0 fun v w=>v= .agg #[.slice sa sn sc,.i ct,.i md]/\Below w0.heap.size w0 w:=by
 refine C.enter (n:=26) func39 rfl rfl<|U214 ?_;intro hb w b2 F2;refine U21 ?_;intro lt2 hb;have hW:=hW.j0 F2.below;refine U141 ?_;intro hC Y1;refine U114 ?_;intro w b4 F4 lt4 hb;have hW:=hW.j0 F4.below;have hC:=hC.j0 F4.below;have Y1:=Y1.j0 F4.below;have L1:=F4.blk;refine U6 ?_;refine U37 ?_;intro w b5 F5 lt5;refine U43 ?_;intro n9 hb;refine U112 ?_;intro hW hC;refine U86 ?_;intro Y1 L1;have K2:=F5.blk;refine U5 ?_;refine U314 ?_;refine U88 ?_;refine U70 ?_;refine U185 ?_;refine U126 ?_;rintro _ w1 ⟨rfl,hw⟩;refine U29 ?_;refine U77 ?_;refine U70 ?_;refine U184 ?_;refine U187 ?_;refine L.call (o8 rfl rfl rfl rfl rfl func70 rfl qq0 rfl) (Pg0 (ys:=#[.p b2,.p b5]) func71 rfl Tq0 obj num 8 _ w (fun w'=>I0 w' b5 #[.slice sa sn sc,.i ct,.i md] 97/\w.grownBy w' (some b5)) (fun w1 l7=>(Ju0 b2 b5 cb obj num _ sa sn sc ct md _ _ _ _ _ w1 (Y1.j0 l7) (K2.j0 l7) (hC.j0 l7)).mono fun _ w' h=>⟨h.2.1,gj0 (aq0 (ap0 _ _) l7) h.2.2⟩)) ?_;rintro _ w ⟨G1,hg⟩;refine U104 ?_;intro o6 hb;have L1:=L1.other hg n9;have K2:=G1;clear o6;refine U6 ?_;refine U439 ?_;intro w G1 hg H2;refine U83 ?_;intro o6 hb;have L1:=G1;refine U111 ?_;refine U466 ?_;exact⟨rfl,hb⟩
theorem um1(wb:Nat)(obj num:Int)(sa:Option Addr)(sn:Nat)(sc:Nat)(ct:Int)(md:Int)(w0:World):C prog 38 #[.p wb,.i obj,.i num,.agg #[.slice sa sn sc,.i ct,.i md]] w0 fun v w=>∃cb,v= .p cb/\w0.heap.size <=cb/\I0 w cb #[.i obj,.i num,.p wb,.slice sa sn sc,.i ct,.i md] 164/\Below w0.heap.size w0 w:=by
 refine C.enter (n:=16) func38 rfl rfl<|U2 ?_;intro hb;refine L.box (cs:=#[.slice sa sn sc,.i ct,.i md]) rfl rfl (fun w b7 F7=>?_);have lt7:=F7.lq hb.size;have hb:=B0 hb F7.below;have hB7:=F7.blk;refine U73 ?_;refine U345 ?_;refine L.va (P2 (parts:=[(0,.tmp 9),(1,.tmp 10)]) rfl (kx1 obj num))<|L.va (D3 rfl)<|L.va (A2 (cs:=[.slice sa sn sc,.i ct,.i md]) rfl underlying97 rfl C9 rfl (hB7.R7 rfl))<|L.va (P2 (parts:=[(0,.tmp 11),(1,.tmp 12),(2,.tmp 13)]) rfl (ky1 obj num ((some (⟨wb,0,none⟩))) sa sn sc ct md))<|L.box (cs:=#[.i obj,.i num,.p wb,.slice sa sn sc,.i ct,.i md]) rfl rfl (fun w b15 F15=>?_);have zs1:=F15.lq hb.size;have hb:=B0 hb F15.below;have l8:=F15.blk;refine U117 ?_;exact⟨b15,rfl,zs1,l8,hb⟩
end
end
theorem M9{w:World}{b:Nat}{cs:Array Value}{T:TypeId}{f:Nat×Nat}(h:P1 w b cs T f)(h0:0<cs.size):w.heap[b]? ≠some nothing:=by
 unfold P1 at h;rw[h];intro e;have e1:=Option.some.inj e;unfold nothing at e1;injection e1 with e2
 rw[e2]at h0;exact absurd h0 (Nat.lt_irrefl 0)
theorem ho0{P:Program}{f:FuncId}{fn:Func}{caps:Array Value}(hf:P.funcs[f]? =some fn)(hb:fn.body.isSome=true)(hn:Ue fn):aw1 P (.func (.func f) #[] caps) f caps:=⟨rfl,fn,hf,hb,hn⟩
structure Jv0(w:World)(t:Nat):Prop where
 eq:gh w 0=t
theorem Jv0.H6{w w':World}{t:Nat}{r:Option Nat}(h:Jv0 w t)(hg:w.grownBy w' r)(_:True):Jv0 w' t:=⟨(J3 hg.tape 0).trans h.eq⟩
structure KOk(K:Cfg prog):Prop where
 loc:∀s m (w w':World) F,K.Inv s m w F->(∀b,F b->w'.heap[b]? =w.heap[b]?)->K.Inv s m w' F
 vis:∀s m (w:World) F,K.Inv s m w F->∀b,F b->b<w.heap.size/\w.heap[b]? ≠some nothing
 refl:∀a,K.gu a a
 step:K.nl0=126
 number:K.c5=172
theorem Sys.kok{Y:Sys}(h:tn0 Y){fb:Nat->FuncId}{q:PR Y}{w0:World}{i cb:Nat}{top:List Frame}:KOk (Y.cfg fb q w0 i cb top):=⟨h.loc,h.vis,fun a j _=>h.refl j a,rfl,rfl⟩
section
variable{K:Cfg prog}{w0 w u u':World}{m:Gm}{F F':Nat->Prop}{l:K.L}{f:K.L ⊕ Nat}
theorem KOk.ko0(hK:KOk K)(h:K.Told w0 m F f)(ht:w.tape=w0.tape)(ho:w.os=w0.os)(hp:w.output=w0.output)(hk:∀b,F b->w.heap[b]? =w0.heap[b]?):K.Told w m F f:=
 ⟨by rw[J3 ht];exact h.on,by rw[J3 ht];exact h.X4,by rw[J3 ht,J3 ht];exact h.nts,hK.loc _ _ w0 w F (by rw[J3 ht];exact h.inv) hk,by rw[df0 ht];exact h.le,ho.trans h.os,hp.trans h.output⟩
theorem KOk.j0(hK:KOk K)(h:K.Told w0 m F f)(hb:Below w0.heap.size w0 w):K.Told w m F f:=
 hK.ko0 h hb.tape hb.os hb.output fun b hF=>hb.block b (hK.vis _ _ _ _ h.inv b hF).1
theorem KOk.tlt(hK:KOk K)(h:K.Told w0 m F f){b:Nat}(hF:F b):b<w0.heap.size:=(hK.vis _ _ _ _ h.inv b hF).1
theorem G6.down(hb:Below w0.heap.size w0 w)(h:K.G6 w m F u F'):K.G6 w0 m F u F':=
 ⟨Nat.le_trans hb.size h.size,fun b O1 hn hF=>by
  have e:=hb.block b O1;have:=h.j0 b (Nat.lt_of_lt_of_le O1 hb.size) (by rw[e];exact hn) hF;exact⟨this.1.trans e,this.2⟩,h.inv,h.le,h.os.trans hb.os,h.output.trans hb.output⟩
theorem Goes.down(hb:Below w0.heap.size w0 w)(h:K.Goes w m F l u F'):K.Goes w0 m F l u F':=⟨G6.down hb h.B4,h.nts,h.on,h.out,h.rdy,h.at_⟩
theorem Goes.own(hK:KOk K)(h:K.Goes w0 m F l u F')(ht:u'.tape=u.tape)(ho:u'.os=u.os)(hp:u'.output=u.output)(hs:u.heap.size <=u'.heap.size)(hk:∀b,(b<w0.heap.size\/F' b)->b<u.heap.size->u'.heap[b]? =u.heap[b]?):K.Goes w0 m F l u' F':=by
 have hv:=hK.vis _ _ _ _ h.B4.inv;refine⟨⟨Nat.le_trans h.B4.size hs,fun b O1 hn hF=>?_,?_,?_,ho.trans h.B4.os,hp.trans h.B4.output⟩,?_,?_,?_,?_,?_⟩
 ·have:=h.B4.j0 b O1 hn hF;exact⟨(hk b (.inl O1) (Nat.lt_of_lt_of_le O1 h.B4.size)).trans this.1,this.2⟩
 ·rw[J3 ht,df0 ht];exact hK.loc _ _ u u' F' h.B4.inv fun b hb=>hk b (.inr hb) (hv b hb).1
 ·rw[df0 ht];exact h.B4.le
 ·rw[J3 ht];exact h.nts
 ·rw[J3 ht];exact h.on
 ·rw[J3 ht];exact h.out
 ·rw[J3 ht];exact h.rdy
 ·rw[J3 ht];exact h.at_
structure Gn(K:Cfg prog)(w0:World)(m:Gm)(F:Nat->Prop)(l:K.L)(u:World)(F':Nat->Prop):Prop where
 ok:KOk K
 goes:K.Goes w0 m F l u F'
section
variable{b:Nat}{cs:Array Value}{T:TypeId}
theorem Gn.H6(h:Gn K w0 m F l u F')(hg:u.grownBy u' (some b))(hn:w0.heap.size <=b/\¬F' b):Gn K w0 m F l u' F':=
 ⟨h.ok,Goes.own h.ok h.goes hg.tape hg.os hg.output hg.size fun k hk hl=>hg.block k hl fun e=>by cases e;rcases hk with hk|hk;omega;exact hn.2 hk⟩
theorem Gn.be0(h:Gn K w0 m F l u F')(hB:I0 w0 b cs T)(h0:0<cs.size)(hF:¬F b):I0 u b cs T/\¬F' b:=by
 have hB':P1 w0 b cs T (0,0):=S3 hB;have:=h.goes.B4.j0 b hB'.lt (M9 hB' h0) hF;exact⟨this.1.trans hB',this.2⟩
theorem Goes.be0(h:K.Goes w0 m F l u F')(hB:I0 w0 b cs T)(h0:0<cs.size)(hF:¬F b):I0 u b cs T/\¬F' b:=by
 have hB':P1 w0 b cs T (0,0):=S3 hB;have:=h.B4.j0 b hB'.lt (M9 hB' h0) hF;exact⟨this.1.trans hB',this.2⟩
end
end
structure o9(K:Cfg prog)(w0 u:World):Prop where
 g2:gh u 2=1
 inv:∃F',K.Inv (K.sOf (gh u 0)) (gm u) u F'
 os:u.os=w0.os
 output:u.output=w0.output
section
variable{K:Cfg prog}{w0 u:World}
theorem o9.at{w1:World}(h:o9 K w1 u)(ho:w1.os=w0.os)(hp:w1.output=w0.output):o9 K w0 u:=⟨h.g2,h.inv,h.os.trans ho,h.output.trans hp⟩
theorem Du0{m:Gm}{F F':Nat->Prop}(h:K.G6 w0 m F u F')(h2:gh u 2=1):o9 K w0 u:=⟨h2,⟨F',h.inv⟩,h.os,h.output⟩
theorem o9.done{K:Cfg prog}{w0 u:World}{ch:List PanicEntry}(hK:KOk K)(h:o9 K w0 u)(hr:A6 ch)(ho:w0.os=K.base.os)(hp:w0.output=K.base.output):∃F,K.Oq0 u F (.panicked ch):=by
 obtain⟨F',hi⟩:=h.inv;exact⟨F',hr,.inr ⟨h.g2,⟨gm u,hK.refl _,hi⟩,h.os.trans ho,h.output.trans hp⟩⟩
end
def o3(K:Cfg prog)(w0:World)(R:Value->World->Prop):Ending->World->Prop
 | .returned v,u=>R v u
 | .panicked ch,u=>A6 ch/\o9 K w0 u
 | .outgrown,_=>False
section
variable{K:Cfg prog}{m:Gm}{F:Nat->Prop}{K4:K.L}
theorem lb1(x0:Int)(x1:Int)(x2:Int):prog.built 65 [(0,.i x0),(1,.i x1),(2,.i x2)]=some #[.i x0,.i x1,.i x2]:=by kernel_rfl
theorem dh0(hK:KOk K){l:K.L}{o n ki:Int}{rd df:Value}(w0:World)(hT:K.Told w0 m F (.inl l))(O2:K.stp l=⟨ki,o,n⟩)(hr:∀w,Below w0.heap.size w0 w->K.iy0 w m F rd l)(_hrc:∃f caps,rd= .nilFunc\/rd= .func (.func f) #[] caps)(hdf:FnV prog df)(Rdo:World->World->Prop)(hdo:∀w,Below w0.heap.size w0 w->∀u F',K.Goes w m F l u F'->Op0 prog K.S5 df u (Rdo u)):@Calls prog (J0 K) 70 #[.agg #[.i o,.i n],.p K.ptr,.i ki,rd,df] w0 (o3 K w0 fun v u=>v= .tuple #[]/\∃u0 F',K.Goes w0 m F l u0 F'/\Rdo u0 u/\u.tape=u0.tape):=by
 letI:Ctx prog:=J0 K;refine Calls.B6 (n:=20) func70 rfl rfl<|U339 ?_;intro hb w b5 F5;refine U41 ?_;intro lt5 hb;have K2:=F5.blk;refine U79 ?_;refine U18 ?_;refine U278 ?_;refine U279 ?_;refine L.va (P2 (parts:=[(0,.tmp 11),(1,.tmp 13),(2,.tmp 15)]) rfl (lb1 ki o n))<|U215 ?_;have hbL:=hb;refine L.Y2 rfl (fe0 rfl rfl rfl rfl func126 rfl Tv0 rfl) (hK.step▸Or0 (K:=K) (hK.j0 hT hb) (by rw[O2];rfl) (hr _ hb) hdf Rdo (hdo _ hb)) ?_ ?_ (fun _ h=>h)
 ·rintro v u ⟨rfl,u0,F',hg,hR,ht⟩;rename_i wL;refine U97 ?_;exact⟨rfl,u0,F',Goes.down hbL hg,hR,ht⟩
 ·rintro ch u ⟨u7,F',hl,h2⟩;exact⟨u7,(Du0 hl h2).at hbL.os hbL.output⟩
theorem wr1(hK:KOk K)(cb wb:Nat)(obj num:Int)(sa:Nat->Option Addr)(sn:Nat->Nat)(sc:Nat->Nat)(ct:Nat->Int)(md:Nat->Int)(sa2:Option Addr)(sn2:Nat)(sc2:Nat)(ct2:Int)(md2:Int)(w0:World)(hT:K.Told w0 m F (.inl K4))(O2:K.stp K4=⟨8,obj,num⟩)(hrd:∀s,K.rdy K4 s=true)(hW:I0 w0 wb #[.bool false] 99)(hC:I0 w0 cb #[.i obj,.i num,.p wb,.slice sa2 sn2 sc2,.i ct2,.i md2] 164)(hgo:∀u F',K.Goes w0 m F K4 u F'->I0 u cb #[.i obj,.i num,.p wb,.slice (sa (gh u 0)) (sn (gh u 0)) (sc (gh u 0)),.i (ct (gh u 0)),.i (md (gh u 0))] 164):@Calls prog (J0 K) 39 #[.p cb,.p K.ptr] w0 (o3 K w0 fun v u=>∃F' tt,Gn K w0 m F K4 u F'/\Jv0 u tt/\v= .agg #[.slice (sa tt) (sn tt) (sc tt),.i (ct tt),.i (md tt)]):=by
 letI:Ctx prog:=J0 K;refine Calls.B6 (n:=26) func39 rfl rfl<|U214 ?_;intro hb w b2 F2;refine U21 ?_;intro lt2 hb;have hW:=hW.j0 F2.below;refine U141 ?_;intro hC Y1;refine U114 ?_;intro w b4 F4 lt4 hb;have hW:=hW.j0 F4.below;have hC:=hC.j0 F4.below;have Y1:=Y1.j0 F4.below;have L1:=F4.blk;refine U6 ?_;refine U37 ?_;intro w b5 F5 lt5;refine U43 ?_;intro n9 hb;refine U112 ?_;intro hW hC;refine U86 ?_;intro Y1 L1;have K2:=F5.blk;refine U5 ?_;refine U314 ?_;refine U88 ?_;refine U70 ?_;refine U185 ?_;refine U126 ?_;rintro _ w1 ⟨rfl,hw⟩;refine U29 ?_;refine U77 ?_;refine U70 ?_;refine U184 ?_;refine U187 ?_;have hbL:=hb;refine U305 ?_;intro hF5 hF2;have hF4:¬F b4:=fun z=>by have:=hK.tlt hT z;omega
 have hpl:@Calls prog (J0 K) 70 #[.agg #[.i obj,.i num],.p K.ptr,.i 8,.nilFunc,.func (.func 71) #[] #[.p b2,.p b5]] w (o3 K w fun v u=>v= .tuple #[]/\∃u0 F',K.Goes w m F K4 u0 F'/\(I0 u b5 #[.slice (sa (gh u0 0)) (sn (gh u0 0)) (sc (gh u0 0)),.i (ct (gh u0 0)),.i (md (gh u0 0))] 97/\u0.grownBy u (some b5))/\u.tape=u0.tape):=by
  refine dh0 hK w (hK.j0 hT hb) O2 (fun w1 l7=>.inl ⟨rfl,hrd⟩) ⟨0,#[],.inl rfl⟩ (.inr ⟨71,_,ho0 func71 rfl Tq0⟩) (fun u u2=>I0 u2 b5 #[.slice (sa (gh u 0)) (sn (gh u 0)) (sc (gh u 0)),.i (ct (gh u 0)),.i (md (gh u 0))] 97/\u.grownBy u2 (some b5)) (fun w1 l7 u F' hg=>.inr ⟨71,_,ho0 func71 rfl Tq0,?_⟩);exact @C.mono _ (S5 prog K.c5 K.ptr K.num) _ _ _ _ _ (@Ju0 (S5 prog K.c5 K.ptr K.num) b2 b5 cb obj num _ _ _ _ _ _ _ _ _ _ _ u (Goes.be0 hg (Y1.j0 l7) (Nat.zero_lt_succ _) hF2).1 (Goes.be0 hg (K2.j0 l7) (Nat.zero_lt_succ _) hF5).1 (hgo u F' (Goes.down (B0 hb l7) hg))) fun v w' h=>h.2
 refine L.Y2 rfl (o8 rfl rfl rfl rfl rfl func70 rfl qq0 rfl) hpl ?_ ?_ (fun _ h=>h)
 ·rintro v u ⟨rfl,u0,F',hg,⟨wz0,j3⟩,ht⟩;refine U286 ?_;intro h5 hgn;obtain⟨tt,htt⟩:∃tt,gh u0 0=tt:=⟨_,rfl⟩
  rw[htt]at wz0;have htt:Jv0 u tt:=⟨(J3 ht 0).trans htt⟩
  obtain⟨lc1,h4⟩:=Goes.be0 hg L1 Ud hF4;have L1:=lc1.other j3 n9;have K2:=wz0;clear hb wz0 Y1 hC hpl;rename_i wL;clear hW;refine U6 ?_;refine L.va (A2 (cs:=[.slice (sa tt) (sn tt) (sc tt),.i (ct tt),.i (md tt)]) rfl underlying97 rfl C9 rfl (K2.R7 rfl))<|L.pu 0 [.slice (sa tt) (sn tt) (sc tt),.i (ct tt),.i (md tt)] #[.slice (sa tt) (sn tt) (sc tt),.i (ct tt),.i (md tt)] C9 L1 (fun w G1 hg H2=>?_);have o6:=y5.gk0 L1 hg;have hgn:=hgn.H6 hg ⟨lt4,h4⟩;have htt:=htt.H6 hg trivial;have L1:=G1;refine U151 ?_;exact ends.cell (cs:=#[.slice (sa tt) (sn tt) (sc tt),.i (ct tt),.i (md tt)]) (.inr rfl) rfl rfl underlying97 rfl C9 L1<|⟨F',tt,hgn,htt,rfl⟩
 ·rintro ch u ⟨u7,hh⟩;exact⟨u7,hh.at hbL.os hbL.output⟩
theorem Mt0(hK:KOk K)(cb wb:Nat)(obj num:Int)(sa:Option Addr)(sn:Nat)(sc:Nat)(ct:Int)(md:Int)(sa2:Option Addr)(sn2:Nat)(sc2:Nat)(ct2:Int)(md2:Int)(w0:World)(hT:K.Told w0 m F (.inl K4))(O2:K.stp K4=⟨9,obj,num⟩)(hrd:∀s,K.rdy K4 s=true)(hW:I0 w0 wb #[.bool false] 99)(hC:I0 w0 cb #[.i obj,.i num,.p wb,.slice sa2 sn2 sc2,.i ct2,.i md2] 164)(hgo:∀u F',K.Goes w0 m F K4 u F'->∃sa2 sn2 sc2 ct2 md2,I0 u cb #[.i obj,.i num,.p wb,.slice sa2 sn2 sc2,.i ct2,.i md2] 164):@Calls prog (J0 K) 56 #[.p cb,.p K.ptr,.agg #[.slice sa sn sc,.i ct,.i md]] w0 (o3 K w0 fun v u=>v= .tuple #[]/\∃u0 F',Gn K w0 m F K4 u0 F'/\I0 u cb #[.i obj,.i num,.p wb,.slice sa sn sc,.i ct,.i md] 164/\u0.grownBy u (some cb)):=by
 letI:Ctx prog:=J0 K;refine Calls.B6 (n:=26) func56 rfl rfl<|U2 ?_;intro hb;refine L.box (cs:=#[.p cb]) rfl rfl (fun w b3 F3=>?_);refine U145 ?_;intro lt3 hb;have hW:=hW.j0 F3.below;have hC:=hC.j0 F3.below;have o5:=F3.blk;refine L.box (cs:=#[.slice sa sn sc,.i ct,.i md]) rfl rfl (fun w b5 F5=>?_);refine U41 ?_;intro lt5 hb;refine U112 ?_;intro hW hC;have o5:=o5.j0 F5.below;have K2:=F5.blk;refine U1 ?_;refine W.block<|U498 ?_;refine L.va (v5 rfl rfl underlying89)<|U8 ?_;refine W.X6 rfl<|U498 ?_;refine U185 ?_;refine U126 ?_;rintro _ w1 ⟨rfl,hw⟩;refine U29 ?_;refine U8 ?_;refine W.X6 rfl<|W.region rfl<|L.va (q0 rfl underlying89 rfl (o5.E0 0 (v:=.p cb) rfl))<|U184 ?_;refine U163 ?_;refine L.va (p6 (l:=[.tmp 5,.tmp 3]) (vs:=[.p b5,.p b3]) rfl) ?_;have hbL:=hb;have hF5:¬F b5:=fun z=>by have:=hK.tlt hT z;omega
 have hF3:¬F b3:=fun z=>by have:=hK.tlt hT z;omega
 have hpl:@Calls prog (J0 K) 70 #[.agg #[.i obj,.i num],.p K.ptr,.i 9,.nilFunc,.func (.func 97) #[] #[.p b5,.p b3]] w (o3 K w fun v u=>v= .tuple #[]/\∃u0 F',K.Goes w m F K4 u0 F'/\(I0 u cb #[.i obj,.i num,.p wb,.slice sa sn sc,.i ct,.i md] 164/\u0.grownBy u (some cb))/\u.tape=u0.tape):=by
  refine dh0 hK w (hK.j0 hT hb) O2 (fun w1 l7=>.inl ⟨rfl,hrd⟩) ⟨0,#[],.inl rfl⟩ (.inr ⟨97,_,ho0 func97 rfl rl1⟩) (fun u u2=>I0 u2 cb #[.i obj,.i num,.p wb,.slice sa sn sc,.i ct,.i md] 164/\u.grownBy u2 (some cb)) (fun w1 l7 u F' hg=>.inr ⟨97,_,ho0 func97 rfl rl1,?_⟩);obtain⟨y0,y1,y2,y3,y4,hCu⟩:=hgo u F' (Goes.down (B0 hb l7) hg);exact @C.mono _ (S5 prog K.c5 K.ptr K.num) _ _ _ _ _ (@la1 (S5 prog K.c5 K.ptr K.num) b5 b3 cb obj num _ sa sn sc ct md _ _ _ _ _ u (Goes.be0 hg (K2.j0 l7) (Nat.zero_lt_succ _) hF5).1 (Goes.be0 hg (o5.j0 l7) (Nat.zero_lt_succ _) hF3).1 hCu) fun v w' h=>h.2
 refine L.Y2 rfl (o8 rfl rfl rfl rfl rfl func70 rfl qq0 rfl) hpl ?_ ?_ (fun _ h=>h)
 ·rintro v u ⟨rfl,u0,F',hg,⟨hCn,j3⟩,ht⟩;have hg0:=Goes.down hbL hg;rename_i wL;refine U388 ?_;refine U93 ?_;exact⟨rfl,u0,F',⟨hK,hg0⟩,hCn,j3⟩
 ·rintro ch u ⟨u7,hh⟩;exact⟨u7,hh.at hbL.os hbL.output⟩
end
end Go.Vy.Sc
end
section
namespace Go.Vy
open Go Go.Yc Go.RowKit
open Go.Vc
section
variable{P:Program}{ρ:Operand->Value}{w:World}{d:Option Nat}{ty:TypeId}{ps:String}{af:Array Edge}{g:Option (Nat×Bool)}
theorem bu0{S:Sem Next}{r:Out}(h:∀x,S.run P x=r.res x)(he:∀x,S.events P x #[]=#[]):Does P S w r w:=
 ⟨rfl,rfl,fun τ d ρ x hs=>⟨Evo.refl _,x,#[],by rw[Sem.runT_eq,h,he],hs,fun e he=>by simp at he⟩⟩
theorem ai0{T:TypeId}{r x0:Operand}{v v0:Value}{name:String}{aT:Array TypeId}{F:FuncId}{fn:Func}(hx:ρ r= .iface T v)(h0:ρ x0=v0)(hm:∀recv w,(Go.method (P.types.size+Made.depth) T recv name).run P w= .ok (F,recv) w)(hme:∀recv w,(Go.method (P.types.size+Made.depth) T recv name).events P w #[]=#[])(hf:P.funcs[F]? =some fn)(hb:fn.body.isSome=true)(hn:Ue fn):Does P (execOp ρ ⟨d,.call ⟨.invoke r name,#[x0],aT⟩,ty,ps,af,g⟩) w (.enter F #[v,v0]) w:=by
 have Z8:fn.body.isNone=false:=by cases h:fn.body <;> simp_all
 have hn':fn.name≠ "runtime.NumGoroutine":=by simpa using hn
 have hb2:fn.body≠none:=by intro h;rw[h]at hb;cases hb
 refine bu0 (fun x=>?_) fun x=>?_
 ·have hm':Sem.run P (Go.method (P.types.size+100) T v name) x= .ok (F,v) x:=hm v x;show _=Result.ok (Next.enter F #[v,v0]) x;simp[execOp,resolve,hx,h0,invoke,callMethod,go_sem,hm',callFunc,hf,hn',hb2]
 ·have hm':Sem.run P (Go.method (P.types.size+100) T v name) x= .ok (F,v) x:=hm v x;have zt1:Sem.events P (Go.method (P.types.size+100) T v name) x #[]=#[]:=hme v x;simp[execOp,resolve,hx,h0,invoke,callMethod,go_sem,hm',zt1,callFunc,hf,hn',hb2]
end
end Go.Vy
end
section
namespace Go.Vy.Sc
open Go Go.Conc Go.Yc Go.RowKit Go.Proofs Go.Proofs.YtinppmaojmdmhaaGreat Tryz
open Go.Vc Go.Wg
theorem ld1[Ctx prog](b0 b1 cb:Nat)(obj num:Int)(q:Value)(x x2:Int)(sa:Value)(w0:World)(hB0:I0 w0 b0 #[.p cb] 125)(V8:I0 w0 b1 #[.i x2] 2)(hC:I0 w0 cb #[.i obj,.i num,q,.i x,sa] 191):C prog 96 #[.p b0,.p b1] w0 fun v w=>v= .tuple #[]/\I0 w b1 #[.i x] 2/\w0.grownBy w (some b1):=by
 refine C.enter (n:=6) func96 rfl rfl<|W.region rfl<|U539 ?_;refine L.va (q0 rfl underlying2 rfl (hC.E0 3 (v:=.i x) rfl))<|L.pu 0 [.i x] #[.i x] sz2 V8 (fun w G1 hg H2=>?_);have o6:=y5.gk0 V8 hg;have V8:=G1;refine U144 ?_;exact⟨rfl,V8,hg⟩
theorem cc1{K:Cfg prog}(hK:KOk K){K4:K.L}{m:Gm}{F:Nat->Prop}(cb wb:Nat)(obj num:Int)(x:Nat->Int)(x2:Int)(sa:Value)(w0:World)(hT:K.Told w0 m F (.inl K4))(O2:K.stp K4=⟨5,obj,num⟩)(hrd:∀s,K.rdy K4 s=true)(hW:I0 w0 wb #[.bool false] 99)(hC:I0 w0 cb #[.i obj,.i num,.p wb,.i x2,sa] 191)(hgo:∀u F',K.Goes w0 m F K4 u F'->∃sa,I0 u cb #[.i obj,.i num,.p wb,.i (x (gh u 0)),sa] 191):@Calls prog (J0 K) 55 #[.p cb,.p K.ptr] w0 (o3 K w0 fun v u=>∃F' tt,Gn K w0 m F K4 u F'/\Jv0 u tt/\v= .i (x tt)):=by
 letI:Ctx prog:=J0 K;refine Calls.B6 (n:=25) func55 rfl rfl<|U214 ?_;intro hb w b2 F2;refine U21 ?_;intro lt2 hb;have hW:=hW.j0 F2.below;refine U141 ?_;intro hC Y1;refine U17 ?_;refine U0 ?_;refine L.va (q0 rfl underlying125 rfl (Y1.E0 0 (v:=.p cb) rfl))<|U548 ?_;refine U0 ?_;refine U474 ?_;refine U534 ?_;rintro _ w1 ⟨rfl,hw⟩;refine U29 ?_;refine U34 ?_;refine L.alloc (cs:=#[.i 0]) zr2 rfl (fun w b5 F5=>?_);refine U41 ?_;intro lt5 hb;refine U112 ?_;intro hW hC;have Y1:=Y1.j0 F5.below;have K2:=F5.blk;refine L.pu 0 [.i 0] #[.i 0] sz2 K2 (fun w G1 hg H2=>?_);refine U104 ?_;intro o6 hb;have hW:=hW.mod o6 rfl;have hC:=hC.mod o6 rfl;have Y1:=Y1.mod o6 rfl;have K2:=G1;clear o6;refine U6 ?_;refine U474 ?_;refine L.va (A0 rfl underlying191 rfl Fx0 Ud)<|U187 ?_;have hbL:=hb;refine U305 ?_;intro hF5 hF2;have hpl:@Calls prog (J0 K) 70 #[.agg #[.i obj,.i num],.p K.ptr,.i 5,.nilFunc,.func (.func 96) #[] #[.p b2,.p b5]] w (o3 K w fun v u=>v= .tuple #[]/\∃u0 F',K.Goes w m F K4 u0 F'/\(I0 u b5 #[.i (x (gh u0 0))] 2/\u0.grownBy u (some b5))/\u.tape=u0.tape):=by
  refine dh0 hK w (hK.j0 hT hb) O2 (fun w1 l7=>.inl ⟨rfl,hrd⟩) ⟨0,#[],.inl rfl⟩ (.inr ⟨96,_,ho0 func96 rfl rk1⟩) (fun u u2=>I0 u2 b5 #[.i (x (gh u 0))] 2/\u.grownBy u2 (some b5)) (fun w1 l7 u F' hg=>.inr ⟨96,_,ho0 func96 rfl rk1,?_⟩);obtain⟨y0,hCu⟩:=hgo u F' (Goes.down (B0 hb l7) hg);exact @C.mono _ (S5 prog K.c5 K.ptr K.num) _ _ _ _ _ (@ld1 (S5 prog K.c5 K.ptr K.num) b2 b5 cb obj num _ _ _ _ u (Goes.be0 hg (Y1.j0 l7) (Nat.zero_lt_succ _) hF2).1 (Goes.be0 hg (K2.j0 l7) (Nat.zero_lt_succ _) hF5).1 hCu) fun v w' h=>h.2
 refine L.Y2 rfl (o8 rfl rfl rfl rfl rfl func70 rfl qq0 rfl) hpl ?_ ?_ (fun _ h=>h)
 ·rintro v u ⟨rfl,u0,F',hg,⟨wz0,j3⟩,ht⟩;refine U286 ?_;intro h5 hgn;obtain⟨tt,htt⟩:∃tt,gh u0 0=tt:=⟨_,rfl⟩
  rw[htt]at wz0;have htt:Jv0 u tt:=⟨(J3 ht 0).trans htt⟩
  clear hb Y1 hC hpl K2;have K2:=wz0;clear wz0;rename_i wL;clear hW;refine U6 ?_;refine L.va (q0 rfl underlying2 rfl (K2.E0 0 (v:=.i (x tt)) rfl))<|U152 ?_;exact⟨F',tt,hgn,htt,rfl⟩
 ·rintro ch u ⟨u7,hh⟩;exact⟨u7,hh.at hbL.os hbL.output⟩
end Go.Vy.Sc
end
section
namespace Go.Vc
open Go Go.RowKit
theorem I0.H6{w w':World}{b k:Nat}{cs:Array Value}{T:TypeId}(h:I0 w k cs T)(hg:w.grownBy w' (some b))(hk:k≠b):I0 w' k cs T:=I0.other h hg hk
end Go.Vc
namespace Go.Vy
open Go Go.Conc Go.Yc Go.RowKit
open Go.Vc
section
variable{fn:Func}{P:Program}{w:World}{b:Nat}{cs:Array Value}{T E:TypeId}{d:TypeDesc}
theorem nt0{p u v:Tmp}{ty:TypeId}(h:fn.results=#[.cell p ty,.tmp u,.tmp v])(tmps:Array Value)(P:Program)(w:World):(results fn tmps).run P w=((do let a <- asAddr (tmps.getD p undef);let x <- loadVar ty a;pure (.tuple #[x,tmps.getD u undef,tmps.getD v undef])):Sem Value).run P w:=by
 simp[results,h]
theorem Jw0(hT:P.underlying T=some d)(hu:bm0 d=false)(hs:(P.info? T).map (·.size)=some cs.size)(hB:I0 w b cs E):(loadVar T ⟨b,0,Option.none⟩).run P w= .ok (.agg cs) w:=by
 have h2:∀j v,cs.toList[j]? =some v->w.cell? ((⟨b,0,Option.none⟩:Addr).add j)=some v:=fun j v hj=>by
  rw[Addr.add_lit,Nat.zero_add];exact hB.cell (by simpa using hj)
 have:=run_loadCells_list (P:=P) (w:=w) ⟨b,0,Option.none⟩ cs.toList h2;simp only[Array.length_toList]at this;simp[loadVar,Go.Vc.dn0 hT,hu,Go.Vc.run_sizeOf hs,this]
theorem ends.Vv0[Ctx P]{R:Value->World->Prop}{x:Exit}{e:Env}{t u v:Nat}(hx:x= .normal\/x= .ret)(hr:fn.results=#[.cell t T,.tmp u,.tmp v])
  (he:e t= .pointer (some ⟨b,0,Option.none⟩)) (hT:P.underlying T=some d) (hu:bm0 d=false) (hs:(P.info? T).map (·.size)=some cs.size) (hB:I0 w b cs E) (h:R (.tuple #[.agg cs,e u,e v]) w):ends P fn R x e w:=
 ⟨hx,_,fun tmps ht=>iw0 ix0 fun τ d'=>by
  have hB:I0 (G2 w τ d') b cs E:=hB;generalize G2 w τ d'=w at hB⊢;have h3:tmps.getD t undef= .pointer (some ⟨b,0,Option.none⟩):=by rw[ht,he]
  rw[nt0 hr,h3];simp[asAddr,Jw0 hT hu hs hB,ht],h⟩
theorem Own.kq0{B s n c:Nat}{a:Option Addr}{xs:List Value}{f:Nat×Nat}(h:Own w B E s a n c xs)(hb:P1 w b cs T f)(X2:E≠T):a≠none->ab a≠b:=fun ha=>by
 obtain⟨cur,hc,_⟩:=h.row ha;have hc:P1 w (ab a) cur E (0,0):=hc;exact hc.ne hb X2
end
end Go.Vy
end
section
namespace Go.Vy.Sc
open Go Go.Conc Go.Yc Go.RowKit Go.Proofs Go.Proofs.YtinppmaojmdmhaaGreat Tryz
open Go.Vc Go.Wg
theorem Vw0{P:Program}{ρ:Operand->Value}{w:World}{d:Option Nat}{ty:TypeId}{ps:String}{af:Array Edge}{g:Option (Nat×Bool)}{x y:Operand}{m k:Int}{aT:Array TypeId}(hx:ρ x= .i m)(hy:ρ y= .i k):Does P (execOp ρ ⟨d,.call ⟨.builtin .max,#[x,y],aT⟩,ty,ps,af,g⟩) w (.val (.i (max m k))) w:=
 bu0 (fun x=>Go.Vc.pd1 hx hy) fun x=>by simp[execOp,resolve,invoke,builtin,hx,hy,Builtin.max_,Builtin.max2]
structure bf0(w w':World)(x y:Nat):Prop where
 os:w'.os=w.os
 output:w'.output=w.output
 tape:w'.tape=w.tape
 size:w.heap.size <=w'.heap.size
 block:∀b,b<w.heap.size->b≠x->b≠y->w'.heap[b]? =w.heap[b]?
theorem bf0.refl(w:World)(x y:Nat):bf0 w w x y:=⟨rfl,rfl,rfl,Nat.le_refl _,fun _ _ _ _=>rfl⟩
theorem bf0.step{w w1 w2:World}{x y b:Nat}(h:bf0 w w1 x y)(hb:b=x\/b=y)(hg:w1.grownBy w2 (some b)):bf0 w w2 x y:=
 ⟨hg.os.trans h.os,hg.output.trans h.output,hg.tape.trans h.tape,Nat.le_trans h.size hg.size,fun k hk h1 h2=>(hg.block k (Nat.lt_of_lt_of_le hk h.size) fun e=>by cases e;rcases hb with e|e;exact h1 e;exact h2 e).trans (h.block k hk h1 h2)⟩
theorem bf0.n6{w w1 w2:World}{x y:Nat}(h:bf0 w w1 x y)(hb:Below w1.heap.size w1 w2):bf0 w w2 x y:=
 ⟨hb.os.trans h.os,hb.output.trans h.output,hb.tape.trans h.tape,Nat.le_trans h.size hb.size,fun k hk h1 h2=>(hb.block k (Nat.lt_of_lt_of_le hk h.size)).trans (h.block k hk h1 h2)⟩
theorem le1[Ctx prog](b0 b1 b2 cb:Nat)(obj num:Int)(q sa:Value)(x d y:Int)(w0:World)(hB0:I0 w0 b0 #[.p cb] 125)(V8:I0 w0 b1 #[.i d] 2)(Y1:I0 w0 b2 #[.i y] 2)(X2:b2≠b1)(hC:I0 w0 cb #[.i obj,.i num,q,.i x,sa] 191):C prog 90 #[.p b0,.p b1,.p b2] w0 fun v w=>v= .tuple #[]/\I0 w b2 #[.i (IntKind.i64.wrap (x+d))] 2/\I0 w cb #[.i obj,.i num,q,.i (IntKind.i64.wrap (x+d)),sa] 191/\bf0 w0 w cb b2:=by
 refine C.enter (n:=15) func90 rfl rfl ?_;have hm2:bf0 w0 w0 cb b2:=bf0.refl _ _ _;generalize w0=w at *;refine W.seq<|W.px0 8 (fun w'=>Below w.heap.size w w') Uk Uk Uk Uk ((Below.refl w.heap.size w).drew)<|D.va (fun w' W0=>(q0 rfl underlying125 rfl ((hB0.j0 W0).E0 0 (v:=.p cb) rfl)))<|U469 ?_;refine D.va (fun w' W0=>(q0 rfl underlying2 rfl ((hC.j0 W0).E0 3 (v:=.i x) rfl)))<|D.va (fun w' W0=>(q0 rfl underlying2 rfl ((V8.j0 W0).E0 0 (v:=.i d) rfl)))<|D.va (fun w' W0=>(jn0 (κ:=.i64) rfl rfl))<|U469 ?_;refine D.nil (fun w L2=>?_);have hm2:=hm2.n6 L2;have hC:=hC.j0 L2;have hB0:=hB0.j0 L2;have V8:=V8.j0 L2;have Y1:=Y1.j0 L2;clear L2;refine L.pu 3 [.i (IntKind.i64.wrap (x+d))] #[.i obj,.i num,q,.i (IntKind.i64.wrap (x+d)),sa] sz2 hC (fun w G1 hg H2=>?_);have hm2:=hm2.step (.inl rfl) hg;have o6:=y5.gk0 hC hg;have hB0:=hB0.mod o6 rfl;have V8:=V8.mod o6 rfl;have Y1:=Y1.mod o6 rfl;have hC:=G1;clear o6;refine U79 ?_;refine U539 ?_;refine L.va (q0 rfl underlying2 rfl (hC.E0 3 (v:=.i (IntKind.i64.wrap (x+d))) rfl))<|L.pu 0 [.i (IntKind.i64.wrap (x+d))] #[.i (IntKind.i64.wrap (x+d))] sz2 Y1 (fun w G1 hg H2=>?_);have hm2:=hm2.step (.inr rfl) hg;have o6:=y5.gk0 Y1 hg;have hC:=hC.mod o6 rfl;have V8:=V8.H6 hg X2.symm;have Y1:=G1;refine U144 ?_;exact⟨rfl,Y1,hC,hm2⟩
theorem un1[Ctx prog](b0:Nat)(sb:Nat)(obj num:Int)(h:Bool)(r:Int)(w0:World)(hB0:I0 w0 b0 #[.p sb] 242)(hC:I0 w0 sb #[.i obj,.i num,.bool h,.i r] 244):C prog 211 #[.p b0] w0 fun v w=>v= .tuple #[]/\I0 w sb #[.i obj,.i num,.bool true,.i r] 244/\w0.grownBy w (some sb):=by
 refine C.enter (n:=4) func211 rfl rfl ?_;have j3:=ap0 w0 (some sb);refine W.region rfl<|U197 ?_;refine L.pu 2 [.bool true] #[.i obj,.i num,.bool true,.i r] sz4 hC (fun w G1 hg H2=>?_);have o6:=y5.gk0 hC hg;have j3:=gj0 j3 hg;have hC:=G1;exact U226
theorem cd1[Ctx prog](b0:Nat)(sb:Nat)(obj num:Int)(h:Bool)(r:Int)(w0:World)(hB0:I0 w0 b0 #[.p sb] 242)(hC:I0 w0 sb #[.i obj,.i num,.bool h,.i r] 244):C prog 215 #[.p b0] w0 fun v w=>v= .tuple #[]/\I0 w sb #[.i obj,.i num,.bool false,.i r] 244/\w0.grownBy w (some sb):=by
 refine C.enter (n:=4) func215 rfl rfl ?_;have j3:=ap0 w0 (some sb);refine W.region rfl<|U197 ?_;refine L.pu 2 [.bool false] #[.i obj,.i num,.bool false,.i r] sz4 hC (fun w G1 hg H2=>?_);have o6:=y5.gk0 hC hg;have j3:=gj0 j3 hg;have hC:=G1;exact U226
theorem lf1[Ctx prog](b0:Nat)(sb:Nat)(obj num:Int)(h:Bool)(r:Int)(w0:World)(hB0:I0 w0 b0 #[.p sb] 242)(hC:I0 w0 sb #[.i obj,.i num,.bool h,.i r] 244):C prog 213 #[.p b0] w0 fun v w=>v= .tuple #[]/\I0 w sb #[.i obj,.i num,.bool h,.i (IntKind.i64.wrap (r+1))] 244/\w0.grownBy w (some sb):=by
 refine C.enter (n:=8) func213 rfl rfl ?_;have j3:=ap0 w0 (some sb);refine W.region rfl<|U368 ?_;refine L.va (A0 rfl underlying244 rfl sz3 Ud)<|L.va (q0 rfl underlying3 rfl (hC.E0 3 (v:=.i r) rfl))<|L.va (jn0 (κ:=.i64) rfl rfl)<|L.va (j1 rfl)<|L.va (A0 rfl underlying244 rfl sz3 Ud)<|L.pu 3 [.i (IntKind.i64.wrap (r+1))] #[.i obj,.i num,.bool h,.i (IntKind.i64.wrap (r+1))] sz3 hC (fun w G1 hg H2=>?_);have o6:=y5.gk0 hC hg;have j3:=gj0 j3 hg;have hC:=G1;exact U226
theorem Vx0[Ctx prog](b0:Nat)(sb:Nat)(obj num:Int)(h:Bool)(r:Int)(w0:World)(hB0:I0 w0 b0 #[.p sb] 242)(hC:I0 w0 sb #[.i obj,.i num,.bool h,.i r] 244):C prog 214 #[.p b0] w0 fun v w=>v= .tuple #[]/\I0 w sb #[.i obj,.i num,.bool h,.i (max 0 (IntKind.i64.wrap (r-1)))] 244/\w0.grownBy w (some sb):=by
 refine C.enter (n:=10) func214 rfl rfl ?_;have j3:=ap0 w0 (some sb);generalize w0=w at *;refine W.px0 9 (fun w'=>Below w.heap.size w w') Uk Uk Uk Uk ((Below.refl w.heap.size w).drew)<|D.va (fun w' W0=>(q0 rfl underlying242 rfl ((hB0.j0 W0).E0 0 (v:=.p sb) rfl)))<|D.va (fun w' W0=>(q0 rfl underlying242 rfl ((hB0.j0 W0).E0 0 (v:=.p sb) rfl)))<|U470 ?_;refine D.va (fun w' W0=>(q0 rfl underlying3 rfl ((hC.j0 W0).E0 3 (v:=.i r) rfl)))<|D.va (fun w' W0=>(Fh0 (κ:=.i64) rfl rfl))<|D.va (fun w' W0=>(Vw0 rfl rfl))<|U470 ?_;refine D.nil (fun w L2=>?_);have j3:=aq0 j3 L2;have hC:=hC.j0 L2;clear L2;refine L.pu 3 [.i (max 0 (IntKind.i64.wrap (r-1)))] #[.i obj,.i num,.bool h,.i (max 0 (IntKind.i64.wrap (r-1)))] sz3 hC (fun w G1 hg H2=>?_);have o6:=y5.gk0 hC hg;have j3:=gj0 j3 hg;have hC:=G1;exact U226
theorem uo1[Ctx prog](b0:Nat)(sb:Nat)(obj num:Int)(h:Bool)(r:Int)(w0:World)(hB0:I0 w0 b0 #[.p sb] 242)(hC:I0 w0 sb #[.i obj,.i num,.bool h,.i r] 244):C prog 210 #[.p b0] w0 fun v w=>v= .bool (!h&&decide (r=0))/\Below w0.heap.size w0 w:=by
 refine C.enter (n:=14) func210 rfl rfl<|U2 ?_;intro hb;refine U65 ?_;refine U197 ?_;refine U485 ?_;refine L.va (n8 rfl)<|L.kk0 6 [7,8,9,10,11,12,13] 13 (.bool (!h&&decide (r=0))) (tj:=7) rfl (fun hb7=>?_) (fun hb7=>?_) (fun f=>?_)
 ·refine L.on rfl<|L.va (q0 rfl underlying242 rfl (hB0.E0 0 (v:=.p sb) rfl))<|L.on rfl<|U270 ?_;refine L.va (A0 rfl underlying244 rfl sz3 Ud)<|L.on rfl<|L.va (q0 rfl underlying3 rfl (hC.E0 3 (v:=.i r) rfl))<|U322 ?_;refine U32 ?_;refine⟨rfl,congrArg Value.bool (by first|exact zr0 hb7|rfl|(simp_all;done)|(rw[Bool.eq_iff_iff];simp_all;omega)),?_⟩;exact Ug
 ·refine L.off rfl<|U248 ?_;refine U19 ?_;refine⟨rfl,congrArg Value.bool (by first|exact zq0 hb7|rfl|(simp_all;done)|(rw[Bool.eq_iff_iff];simp_all;omega)),?_⟩;exact Ug
 exact U156
theorem lg1[Ctx prog](b0:Nat)(sb:Nat)(obj num:Int)(h:Bool)(r:Int)(w0:World)(hB0:I0 w0 b0 #[.p sb] 242)(hC:I0 w0 sb #[.i obj,.i num,.bool h,.i r] 244):C prog 212 #[.p b0] w0 fun v w=>v= .bool (!h)/\Below w0.heap.size w0 w:=by
 refine C.enter (n:=7) func212 rfl rfl<|U2 ?_;intro hb;refine U65 ?_;refine U197 ?_;refine U485 ?_;exact U156
section
variable{K:Cfg prog}{m:Gm}{F:Nat->Prop}{K4:K.L}
theorem G6.be0{w0 u:World}{F':Nat->Prop}(h:K.G6 w0 m F u F'){b:Nat}{cs:Array Value}{T:TypeId}(hB:I0 w0 b cs T)(h0:0<cs.size)(hF:¬F b):I0 u b cs T/\¬F' b:=by
 have hB':P1 w0 b cs T (0,0):=S3 hB;have:=h.j0 b hB'.lt (M9 hB' h0) hF;exact⟨this.1.trans hB',this.2⟩
theorem Mu0:∀(recv:Value)(w:World),(Go.method (prog.types.size+Made.depth) 242 recv "docket/prim.lock").run prog w= .ok (206,recv) w:=by intro recv w;kernel_rfl
theorem Gk0:∀(recv:Value)(w:World),(Go.method (prog.types.size+Made.depth) 242 recv "docket/prim.lock").events prog w #[]=#[]:=by intro recv w;kernel_rfl
theorem oz0:∀(recv:Value)(w:World),(Go.method (prog.types.size+Made.depth) 242 recv "docket/prim.unlock").run prog w= .ok (209,recv) w:=by intro recv w;kernel_rfl
theorem ml0:∀(recv:Value)(w:World),(Go.method (prog.types.size+Made.depth) 242 recv "docket/prim.unlock").events prog w #[]=#[]:=by intro recv w;kernel_rfl
theorem Vy0:∀(recv:Value)(w:World),(Go.method (prog.types.size+Made.depth) 242 recv "docket/prim.rlock").run prog w= .ok (207,recv) w:=by intro recv w;kernel_rfl
theorem Ph0:∀(recv:Value)(w:World),(Go.method (prog.types.size+Made.depth) 242 recv "docket/prim.rlock").events prog w #[]=#[]:=by intro recv w;kernel_rfl
theorem tv0:∀(recv:Value)(w:World),(Go.method (prog.types.size+Made.depth) 242 recv "docket/prim.runlock").run prog w= .ok (208,recv) w:=by intro recv w;kernel_rfl
theorem qg0:∀(recv:Value)(w:World),(Go.method (prog.types.size+Made.depth) 242 recv "docket/prim.runlock").events prog w #[]=#[]:=by intro recv w;kernel_rfl
theorem Mv0(hK:KOk K)(cb wb:Nat)(obj num:Int)(x:Nat->Int)(x2 d:Int)(sa:Value)(w0:World)(hT:K.Told w0 m F (.inl K4))(O2:K.stp K4=⟨7,obj,num⟩)(hrd:∀s,K.rdy K4 s=true)(hW:I0 w0 wb #[.bool false] 99)(hC:I0 w0 cb #[.i obj,.i num,.p wb,.i x2,sa] 191)(hgo:∀u F',K.Goes w0 m F K4 u F'->∃sa,I0 u cb #[.i obj,.i num,.p wb,.i (x (gh u 0)),sa] 191):@Calls prog (J0 K) 50 #[.p cb,.p K.ptr,.i d] w0 (o3 K w0 fun v u=>∃u0 F' tt sa,Gn K w0 m F K4 u0 F'/\gh u0 0=tt/\v= .i (IntKind.i64.wrap (x tt+d))/\I0 u cb #[.i obj,.i num,.p wb,.i (IntKind.i64.wrap (x tt+d)),sa] 191/\∃y,w0.heap.size <=y/\¬F' y/\bf0 u0 u cb y/\u.tape=u0.tape):=by
 letI:Ctx prog:=J0 K;refine Calls.B6 (n:=28) func50 rfl rfl<|U2 ?_;intro hb;refine L.box (cs:=#[.p cb]) rfl rfl (fun w b3 F3=>?_);refine U145 ?_;intro lt3 hb;have hW:=hW.j0 F3.below;have hC:=hC.j0 F3.below;have o5:=F3.blk;refine L.box (cs:=#[.i d]) rfl rfl (fun w b5 F5=>?_);refine U41 ?_;intro lt5 hb;refine U112 ?_;intro hW hC;have o5:=o5.j0 F5.below;have K2:=F5.blk;refine U17 ?_;refine U0 ?_;refine L.va (q0 rfl underlying125 rfl (o5.E0 0 (v:=.p cb) rfl))<|U548 ?_;refine U0 ?_;refine U475 ?_;refine U534 ?_;rintro _ w1 ⟨rfl,hw⟩;refine U29 ?_;refine U34 ?_;refine L.alloc (cs:=#[.i 0]) zr2 rfl (fun w b7 F7=>?_);have lt7:=F7.lq hb.size;have lh1:=F7.ne K2;have up1:b7≠b5:=by have h9:=F7.here;have h8:=K2.lt;omega
 have hb:=B0 hb F7.below;have hW:=hW.j0 F7.below;have hC:=hC.j0 F7.below;have o5:=o5.j0 F7.below;have K2:=K2.j0 F7.below;have hB7:=F7.blk;refine L.pu 0 [.i 0] #[.i 0] sz2 hB7 (fun w G1 hg H2=>?_);have o6:=y5.gk0 hB7 hg;have hb:=W3 hb hb.size hg lt7;have hW:=hW.mod o6 rfl;have hC:=hC.mod o6 rfl;have o5:=o5.mod o6 rfl;have K2:=K2.other hg lh1;have hB7:=G1;clear o6;refine U6 ?_;refine U475 ?_;refine L.va (A0 rfl underlying191 rfl Fx0 Ud)<|U163 ?_;refine L.va (p6 (l:=[.tmp 3,.tmp 5,.tmp 7]) (vs:=[.p b3,.p b5,.p b7]) rfl) ?_;have hbL:=hb;have hF3:¬F b3:=fun z=>by have:=hK.tlt hT z;omega
 have hF5:¬F b5:=fun z=>by have:=hK.tlt hT z;omega
 have hF7:¬F b7:=fun z=>by have:=hK.tlt hT z;omega
 have hpl:@Calls prog (J0 K) 70 #[.agg #[.i obj,.i num],.p K.ptr,.i 7,.nilFunc,.func (.func 90) #[] #[.p b3,.p b5,.p b7]] w (o3 K w fun v u=>v= .tuple #[]/\∃u0 F',K.Goes w m F K4 u0 F'/\(∃sa,I0 u b7 #[.i (IntKind.i64.wrap (x (gh u0 0)+d))] 2/\I0 u cb #[.i obj,.i num,.p wb,.i (IntKind.i64.wrap (x (gh u0 0)+d)),sa] 191/\bf0 u0 u cb b7)/\u.tape=u0.tape):=by
  refine dh0 hK w (hK.j0 hT hb) O2 (fun w1 l7=>.inl ⟨rfl,hrd⟩) ⟨0,#[],.inl rfl⟩ (.inr ⟨90,_,ho0 func90 rfl rj1⟩) (fun u u2=>∃sa,I0 u2 b7 #[.i (IntKind.i64.wrap (x (gh u 0)+d))] 2/\I0 u2 cb #[.i obj,.i num,.p wb,.i (IntKind.i64.wrap (x (gh u 0)+d)),sa] 191/\bf0 u u2 cb b7) (fun w1 l7 u F' hg=>.inr ⟨90,_,ho0 func90 rfl rj1,?_⟩);obtain⟨y0,hCu⟩:=hgo u F' (Goes.down (B0 hb l7) hg);exact @C.mono _ (S5 prog K.c5 K.ptr K.num) _ _ _ _ _ (@le1 (S5 prog K.c5 K.ptr K.num) b3 b5 b7 cb obj num _ _ _ d _ u (Goes.be0 hg (o5.j0 l7) (Nat.zero_lt_succ _) hF3).1 (Goes.be0 hg (K2.j0 l7) (Nat.zero_lt_succ _) hF5).1 (Goes.be0 hg (hB7.j0 l7) (Nat.zero_lt_succ _) hF7).1 up1 hCu) fun v w' h=>⟨_,h.2⟩
 refine L.Y2 rfl (o8 rfl rfl rfl rfl rfl func70 rfl qq0 rfl) hpl ?_ ?_ (fun _ h=>h)
 ·rintro v u ⟨rfl,u0,F',hg,⟨sa',li1,hCn,hm2⟩,ht⟩;have h7:=(Goes.be0 hg hB7 (Nat.zero_lt_succ _) hF7).2;have hg0:=Goes.down hbL hg;obtain⟨tt,htt⟩:∃tt,gh u0 0=tt:=⟨_,rfl⟩
  rw[htt]at li1 hCn;clear hb o5 K2 hC hpl hB7;have hB7:=li1;clear li1;rename_i wL;clear hW;refine U6 ?_;refine L.va (q0 rfl underlying2 rfl (hB7.E0 0 (v:=.i (IntKind.i64.wrap (x tt+d))) rfl))<|U152 ?_;exact⟨u0,F',tt,_,⟨hK,hg0⟩,htt,rfl,hCn,b7,lt7,h7,hm2,ht⟩
 ·rintro ch u ⟨u7,hh⟩;exact⟨u7,hh.at hbL.os hbL.output⟩
theorem Mw0(hK:KOk K)(sb:Nat)(obj num:Int)(h:Bool)(r:Int)(w0:World)(hT:K.Told w0 m F (.inl K4))(O2:K.stp K4=⟨1,obj,num⟩)(hC:I0 w0 sb #[.i obj,.i num,.bool h,.i r] 244)(hla:∀u F',K.G6 w0 m F u F'->∃h r,I0 u sb #[.i obj,.i num,.bool h,.i r] 244/\K.rdy K4 (K.sOf (gh u 0))=(!h&&decide (r=0))):@Calls prog (J0 K) 206 #[.p sb,.p K.ptr] w0 (o3 K w0 fun v u=>v= .tuple #[]/\∃u0 F' h r,Gn K w0 m F K4 u0 F'/\I0 u0 sb #[.i obj,.i num,.bool h,.i r] 244/\I0 u sb #[.i obj,.i num,.bool true,.i r] 244/\u0.grownBy u (some sb)/\u.tape=u0.tape):=by
 letI:Ctx prog:=J0 K;refine Calls.B6 (n:=12) func206 rfl rfl<|U101 ?_;intro hb w b2 F2;refine U120 ?_;intro lt2 hb hC Y1;refine U516 ?_;refine U222 ?_;intro hbL hF2;have hpl:@Calls prog (J0 K) 70 #[.agg #[.i obj,.i num],.p K.ptr,.i 1,.func (.func 210) #[] #[.p b2],.func (.func 211) #[] #[.p b2]] w (o3 K w fun v u=>v= .tuple #[]/\∃u0 F',K.Goes w m F K4 u0 F'/\(∃h r,I0 u0 sb #[.i obj,.i num,.bool h,.i r] 244/\I0 u sb #[.i obj,.i num,.bool true,.i r] 244/\u0.grownBy u (some sb))/\u.tape=u0.tape):=by
  refine dh0 hK w (hK.j0 hT hb) O2 (fun w1 l7=>.inr ⟨210,_,ho0 func210 rfl ss1,fun u F' hl=>?_⟩) ⟨210,_,.inr rfl⟩ (.inr ⟨211,_,ho0 func211 rfl ga1⟩) (fun u u2=>∃h r,I0 u sb #[.i obj,.i num,.bool h,.i r] 244/\I0 u2 sb #[.i obj,.i num,.bool true,.i r] 244/\u.grownBy u2 (some sb)) (fun w1 l7 u F' hg=>.inr ⟨211,_,ho0 func211 rfl ga1,?_⟩)
  ·obtain⟨h,r,hCu,hrr⟩:=hla u F' (G6.down (B0 hb l7) hl);refine @C.mono _ (D2 prog true) _ _ _ _ _ (@uo1 (D2 prog true) b2 sb obj num h r u (G6.be0 hl (Y1.j0 l7) (Nat.zero_lt_succ _) hF2).1 hCu) fun v w' h=>?_;rw[hrr];exact h
  ·obtain⟨h,r,hCu,_⟩:=hla u F' (Goes.down (B0 hb l7) hg).B4;exact @C.mono _ (S5 prog K.c5 K.ptr K.num) _ _ _ _ _ (@un1 (S5 prog K.c5 K.ptr K.num) b2 sb obj num h r u (Goes.be0 hg (Y1.j0 l7) (Nat.zero_lt_succ _) hF2).1 hCu) fun v w' hh=>⟨h,r,hCu,hh.2⟩
 refine L.Y2 rfl (o8 rfl rfl rfl rfl rfl func70 rfl qq0 rfl) hpl ?_ ?_ (fun _ h=>h)
 ·rintro v u ⟨rfl,u0,F',hg,⟨h',r',hC0,hCn,j3⟩,ht⟩;have hg0:=Goes.down hbL hg;rename_i wL;exact U193
 ·rintro ch u ⟨u7,hh⟩;exact⟨u7,hh.at hbL.os hbL.output⟩
theorem Vz0(hK:KOk K)(sb:Nat)(obj num:Int)(h:Bool)(r:Int)(mb:Nat)(w0:World)(hT:K.Told w0 m F (.inl K4))(O2:K.stp K4=⟨1,obj,num⟩)(hM:I0 w0 mb #[.iface 242 (.p sb)] 187)(hC:I0 w0 sb #[.i obj,.i num,.bool h,.i r] 244)(hla:∀u F',K.G6 w0 m F u F'->∃h r,I0 u sb #[.i obj,.i num,.bool h,.i r] 244/\K.rdy K4 (K.sOf (gh u 0))=(!h&&decide (r=0))):@Calls prog (J0 K) 48 #[.p mb,.p K.ptr] w0 (o3 K w0 fun v u=>v= .tuple #[]/\∃u0 F' h r,Gn K w0 m F K4 u0 F'/\I0 u0 sb #[.i obj,.i num,.bool h,.i r] 244/\I0 u sb #[.i obj,.i num,.bool true,.i r] 244/\u0.grownBy u (some sb)/\u.tape=u0.tape):=by
 letI:Ctx prog:=J0 K;refine Calls.B6 (n:=12) func48 rfl rfl<|U2 ?_;intro hb;refine U510 ?_;refine U107 ?_;refine U530 ?_;refine U257 ?_;have hbL:=hb;refine L.Y2 rfl (ai0 rfl rfl Mu0 Gk0 func206 rfl fy1) (Mw0 hK sb obj num h r w0 hT O2 hC hla) ?_ ?_ (fun _ h=>h)
 ·rintro v u db0;obtain⟨rfl,db0⟩:=db0;exact U109
 ·rintro ch u ⟨u7,hh⟩;exact⟨u7,hh⟩
theorem Wa0(hK:KOk K)(sb:Nat)(obj num:Int)(h:Bool)(r:Int)(mb:Nat)(w0:World)(hT:K.Told w0 m F (.inl K4))(O2:K.stp K4=⟨1,obj,num⟩)(hM:I0 w0 mb #[.iface 242 (.p sb)] 160)(hC:I0 w0 sb #[.i obj,.i num,.bool h,.i r] 244)(hla:∀u F',K.G6 w0 m F u F'->∃h r,I0 u sb #[.i obj,.i num,.bool h,.i r] 244/\K.rdy K4 (K.sOf (gh u 0))=(!h&&decide (r=0))):@Calls prog (J0 K) 52 #[.p mb,.p K.ptr] w0 (o3 K w0 fun v u=>v= .tuple #[]/\∃u0 F' h r,Gn K w0 m F K4 u0 F'/\I0 u0 sb #[.i obj,.i num,.bool h,.i r] 244/\I0 u sb #[.i obj,.i num,.bool true,.i r] 244/\u0.grownBy u (some sb)/\u.tape=u0.tape):=by
 letI:Ctx prog:=J0 K;refine Calls.B6 (n:=12) func52 rfl rfl<|U2 ?_;intro hb;refine U119 ?_;have hbL:=hb;refine L.Y2 rfl (ai0 rfl rfl Mu0 Gk0 func206 rfl fy1) (Mw0 hK sb obj num h r w0 hT O2 hC hla) ?_ ?_ (fun _ h=>h)
 ·rintro v u db0;obtain⟨rfl,db0⟩:=db0;exact U109
 ·rintro ch u ⟨u7,hh⟩;exact⟨u7,hh⟩
theorem Bo0(hK:KOk K)(sb:Nat)(obj num:Int)(h:Bool)(r:Int)(w0:World)(hT:K.Told w0 m F (.inl K4))(O2:K.stp K4=⟨2,obj,num⟩)(hrd:∀s,K.rdy K4 s=true)(hC:I0 w0 sb #[.i obj,.i num,.bool h,.i r] 244)(hla:∀u F',K.G6 w0 m F u F'->∃h r,I0 u sb #[.i obj,.i num,.bool h,.i r] 244):@Calls prog (J0 K) 209 #[.p sb,.p K.ptr] w0 (o3 K w0 fun v u=>v= .tuple #[]/\∃u0 F' h r,Gn K w0 m F K4 u0 F'/\I0 u0 sb #[.i obj,.i num,.bool h,.i r] 244/\I0 u sb #[.i obj,.i num,.bool false,.i r] 244/\u0.grownBy u (some sb)/\u.tape=u0.tape):=by
 letI:Ctx prog:=J0 K;refine Calls.B6 (n:=11) func209 rfl rfl<|U101 ?_;intro hb w b2 F2;refine U120 ?_;intro lt2 hb hC Y1;refine U148 ?_;refine U222 ?_;intro hbL hF2;have hpl:@Calls prog (J0 K) 70 #[.agg #[.i obj,.i num],.p K.ptr,.i 2,.nilFunc,.func (.func 215) #[] #[.p b2]] w (o3 K w fun v u=>v= .tuple #[]/\∃u0 F',K.Goes w m F K4 u0 F'/\(∃h r,I0 u0 sb #[.i obj,.i num,.bool h,.i r] 244/\I0 u sb #[.i obj,.i num,.bool false,.i r] 244/\u0.grownBy u (some sb))/\u.tape=u0.tape):=by
  refine dh0 hK w (hK.j0 hT hb) O2 (fun w1 l7=>.inl ⟨rfl,hrd⟩) ⟨0,#[],.inl rfl⟩ (.inr ⟨215,_,ho0 func215 rfl gd1⟩) (fun u u2=>∃h r,I0 u sb #[.i obj,.i num,.bool h,.i r] 244/\I0 u2 sb #[.i obj,.i num,.bool false,.i r] 244/\u.grownBy u2 (some sb)) (fun w1 l7 u F' hg=>.inr ⟨215,_,ho0 func215 rfl gd1,?_⟩)
  ·obtain⟨h,r,hCu⟩:=hla u F' (Goes.down (B0 hb l7) hg).B4;exact @C.mono _ (S5 prog K.c5 K.ptr K.num) _ _ _ _ _ (@cd1 (S5 prog K.c5 K.ptr K.num) b2 sb obj num h r u (Goes.be0 hg (Y1.j0 l7) (Nat.zero_lt_succ _) hF2).1 hCu) fun v w' hh=>⟨h,r,hCu,hh.2⟩
 refine L.Y2 rfl (o8 rfl rfl rfl rfl rfl func70 rfl qq0 rfl) hpl ?_ ?_ (fun _ h=>h)
 ·rintro v u ⟨rfl,u0,F',hg,⟨h',r',hC0,hCn,j3⟩,ht⟩;have hg0:=Goes.down hbL hg;rename_i wL;exact U193
 ·rintro ch u ⟨u7,hh⟩;exact⟨u7,hh.at hbL.os hbL.output⟩
theorem Jx0(hK:KOk K)(sb:Nat)(obj num:Int)(h:Bool)(r:Int)(mb:Nat)(w0:World)(hT:K.Told w0 m F (.inl K4))(O2:K.stp K4=⟨2,obj,num⟩)(hrd:∀s,K.rdy K4 s=true)(hM:I0 w0 mb #[.iface 242 (.p sb)] 187)(hC:I0 w0 sb #[.i obj,.i num,.bool h,.i r] 244)(hla:∀u F',K.G6 w0 m F u F'->∃h r,I0 u sb #[.i obj,.i num,.bool h,.i r] 244):@Calls prog (J0 K) 49 #[.p mb,.p K.ptr] w0 (o3 K w0 fun v u=>v= .tuple #[]/\∃u0 F' h r,Gn K w0 m F K4 u0 F'/\I0 u0 sb #[.i obj,.i num,.bool h,.i r] 244/\I0 u sb #[.i obj,.i num,.bool false,.i r] 244/\u0.grownBy u (some sb)/\u.tape=u0.tape):=by
 letI:Ctx prog:=J0 K;refine Calls.B6 (n:=12) func49 rfl rfl<|U2 ?_;intro hb;refine U510 ?_;refine U107 ?_;refine U530 ?_;refine U257 ?_;have hbL:=hb;refine L.Y2 rfl (ai0 rfl rfl oz0 ml0 func209 rfl Ty0) (Bo0 hK sb obj num h r w0 hT O2 hrd hC hla) ?_ ?_ (fun _ h=>h)
 ·rintro v u db0;obtain⟨rfl,db0⟩:=db0;exact U109
 ·rintro ch u ⟨u7,hh⟩;exact⟨u7,hh⟩
theorem Wb0(hK:KOk K)(sb:Nat)(obj num:Int)(h:Bool)(r:Int)(w0:World)(hT:K.Told w0 m F (.inl K4))(O2:K.stp K4=⟨3,obj,num⟩)(hC:I0 w0 sb #[.i obj,.i num,.bool h,.i r] 244)(hla:∀u F',K.G6 w0 m F u F'->∃h r,I0 u sb #[.i obj,.i num,.bool h,.i r] 244/\K.rdy K4 (K.sOf (gh u 0))=(!h)):@Calls prog (J0 K) 207 #[.p sb,.p K.ptr] w0 (o3 K w0 fun v u=>v= .tuple #[]/\∃u0 F' h r,Gn K w0 m F K4 u0 F'/\I0 u0 sb #[.i obj,.i num,.bool h,.i r] 244/\I0 u sb #[.i obj,.i num,.bool h,.i (IntKind.i64.wrap (r+1))] 244/\u0.grownBy u (some sb)/\u.tape=u0.tape):=by
 letI:Ctx prog:=J0 K;refine Calls.B6 (n:=12) func207 rfl rfl<|U101 ?_;intro hb w b2 F2;refine U120 ?_;intro lt2 hb hC Y1;refine U516 ?_;refine U222 ?_;intro hbL hF2;have hpl:@Calls prog (J0 K) 70 #[.agg #[.i obj,.i num],.p K.ptr,.i 3,.func (.func 212) #[] #[.p b2],.func (.func 213) #[] #[.p b2]] w (o3 K w fun v u=>v= .tuple #[]/\∃u0 F',K.Goes w m F K4 u0 F'/\(∃h r,I0 u0 sb #[.i obj,.i num,.bool h,.i r] 244/\I0 u sb #[.i obj,.i num,.bool h,.i (IntKind.i64.wrap (r+1))] 244/\u0.grownBy u (some sb))/\u.tape=u0.tape):=by
  refine dh0 hK w (hK.j0 hT hb) O2 (fun w1 l7=>.inr ⟨212,_,ho0 func212 rfl st1,fun u F' hl=>?_⟩) ⟨212,_,.inr rfl⟩ (.inr ⟨213,_,ho0 func213 rfl gb1⟩) (fun u u2=>∃h r,I0 u sb #[.i obj,.i num,.bool h,.i r] 244/\I0 u2 sb #[.i obj,.i num,.bool h,.i (IntKind.i64.wrap (r+1))] 244/\u.grownBy u2 (some sb)) (fun w1 l7 u F' hg=>.inr ⟨213,_,ho0 func213 rfl gb1,?_⟩)
  ·obtain⟨h,r,hCu,hrr⟩:=hla u F' (G6.down (B0 hb l7) hl);refine @C.mono _ (D2 prog true) _ _ _ _ _ (@lg1 (D2 prog true) b2 sb obj num h r u (G6.be0 hl (Y1.j0 l7) (Nat.zero_lt_succ _) hF2).1 hCu) fun v w' h=>?_;rw[hrr];exact h
  ·obtain⟨h,r,hCu,_⟩:=hla u F' (Goes.down (B0 hb l7) hg).B4;exact @C.mono _ (S5 prog K.c5 K.ptr K.num) _ _ _ _ _ (@lf1 (S5 prog K.c5 K.ptr K.num) b2 sb obj num h r u (Goes.be0 hg (Y1.j0 l7) (Nat.zero_lt_succ _) hF2).1 hCu) fun v w' hh=>⟨h,r,hCu,hh.2⟩
 refine L.Y2 rfl (o8 rfl rfl rfl rfl rfl func70 rfl qq0 rfl) hpl ?_ ?_ (fun _ h=>h)
 ·rintro v u ⟨rfl,u0,F',hg,⟨h',r',hC0,hCn,j3⟩,ht⟩;have hg0:=Goes.down hbL hg;rename_i wL;exact U193
 ·rintro ch u ⟨u7,hh⟩;exact⟨u7,hh.at hbL.os hbL.output⟩
theorem Pi0(hK:KOk K)(sb:Nat)(obj num:Int)(h:Bool)(r:Int)(mb:Nat)(w0:World)(hT:K.Told w0 m F (.inl K4))(O2:K.stp K4=⟨3,obj,num⟩)(hM:I0 w0 mb #[.iface 242 (.p sb)] 160)(hC:I0 w0 sb #[.i obj,.i num,.bool h,.i r] 244)(hla:∀u F',K.G6 w0 m F u F'->∃h r,I0 u sb #[.i obj,.i num,.bool h,.i r] 244/\K.rdy K4 (K.sOf (gh u 0))=(!h)):@Calls prog (J0 K) 102 #[.p mb,.p K.ptr] w0 (o3 K w0 fun v u=>v= .tuple #[]/\∃u0 F' h r,Gn K w0 m F K4 u0 F'/\I0 u0 sb #[.i obj,.i num,.bool h,.i r] 244/\I0 u sb #[.i obj,.i num,.bool h,.i (IntKind.i64.wrap (r+1))] 244/\u0.grownBy u (some sb)/\u.tape=u0.tape):=by
 letI:Ctx prog:=J0 K;refine Calls.B6 (n:=12) func102 rfl rfl<|U2 ?_;intro hb;refine U119 ?_;have hbL:=hb;refine L.Y2 rfl (ai0 rfl rfl Vy0 Ph0 func207 rfl sr1) (Wb0 hK sb obj num h r w0 hT O2 hC hla) ?_ ?_ (fun _ h=>h)
 ·rintro v u db0;obtain⟨rfl,db0⟩:=db0;exact U109
 ·rintro ch u ⟨u7,hh⟩;exact⟨u7,hh⟩
theorem Jy0(hK:KOk K)(sb:Nat)(obj num:Int)(h:Bool)(r:Int)(w0:World)(hT:K.Told w0 m F (.inl K4))(O2:K.stp K4=⟨4,obj,num⟩)(hrd:∀s,K.rdy K4 s=true)(hC:I0 w0 sb #[.i obj,.i num,.bool h,.i r] 244)(hla:∀u F',K.G6 w0 m F u F'->∃h r,I0 u sb #[.i obj,.i num,.bool h,.i r] 244):@Calls prog (J0 K) 208 #[.p sb,.p K.ptr] w0 (o3 K w0 fun v u=>v= .tuple #[]/\∃u0 F' h r,Gn K w0 m F K4 u0 F'/\I0 u0 sb #[.i obj,.i num,.bool h,.i r] 244/\I0 u sb #[.i obj,.i num,.bool h,.i (max 0 (IntKind.i64.wrap (r-1)))] 244/\u0.grownBy u (some sb)/\u.tape=u0.tape):=by
 letI:Ctx prog:=J0 K;refine Calls.B6 (n:=11) func208 rfl rfl<|U101 ?_;intro hb w b2 F2;refine U120 ?_;intro lt2 hb hC Y1;refine U148 ?_;refine U222 ?_;intro hbL hF2;have hpl:@Calls prog (J0 K) 70 #[.agg #[.i obj,.i num],.p K.ptr,.i 4,.nilFunc,.func (.func 214) #[] #[.p b2]] w (o3 K w fun v u=>v= .tuple #[]/\∃u0 F',K.Goes w m F K4 u0 F'/\(∃h r,I0 u0 sb #[.i obj,.i num,.bool h,.i r] 244/\I0 u sb #[.i obj,.i num,.bool h,.i (max 0 (IntKind.i64.wrap (r-1)))] 244/\u0.grownBy u (some sb))/\u.tape=u0.tape):=by
  refine dh0 hK w (hK.j0 hT hb) O2 (fun w1 l7=>.inl ⟨rfl,hrd⟩) ⟨0,#[],.inl rfl⟩ (.inr ⟨214,_,ho0 func214 rfl gc1⟩) (fun u u2=>∃h r,I0 u sb #[.i obj,.i num,.bool h,.i r] 244/\I0 u2 sb #[.i obj,.i num,.bool h,.i (max 0 (IntKind.i64.wrap (r-1)))] 244/\u.grownBy u2 (some sb)) (fun w1 l7 u F' hg=>.inr ⟨214,_,ho0 func214 rfl gc1,?_⟩)
  ·obtain⟨h,r,hCu⟩:=hla u F' (Goes.down (B0 hb l7) hg).B4;exact @C.mono _ (S5 prog K.c5 K.ptr K.num) _ _ _ _ _ (@Vx0 (S5 prog K.c5 K.ptr K.num) b2 sb obj num h r u (Goes.be0 hg (Y1.j0 l7) (Nat.zero_lt_succ _) hF2).1 hCu) fun v w' hh=>⟨h,r,hCu,hh.2⟩
 refine L.Y2 rfl (o8 rfl rfl rfl rfl rfl func70 rfl qq0 rfl) hpl ?_ ?_ (fun _ h=>h)
 ·rintro v u ⟨rfl,u0,F',hg,⟨h',r',hC0,hCn,j3⟩,ht⟩;have hg0:=Goes.down hbL hg;rename_i wL;exact U193
 ·rintro ch u ⟨u7,hh⟩;exact⟨u7,hh.at hbL.os hbL.output⟩
end
end Go.Vy.Sc
end
section
namespace Go.Vy
open Go Go.Conc Go.Yc
open Go.Vc (Env upd V3 ev I0)
section
variable{P:Program}{ρ:Operand->Value}{w:World}{d:Option Nat}{ty:TypeId}{ps:String}{af:Array Edge}{g:Option (Nat×Bool)}{x y:Operand}{T T':TypeId}
section
variable{a:ByteArray}{cs:Array Value}{f:Nat}{fs:Array Field}{v:Value}{u:TypeDesc}
theorem lj1{κ:IntKind}{m k:Int}(hx:ρ x= .int κ m)(hy:ρ y= .int κ k):Does P (execOp ρ ⟨d,.binOp .xor T x y T',ty,ps,af,g⟩) w (.val (.int κ (κ.wrap ((BitVec.ofInt κ.bits m ^^^ BitVec.ofInt κ.bits k).toNat:Int)))) w:=
 bu0 (fun x=>by simp[execOp,hx,hy,eqGuard,binOp,Op.intBits,Out.res]) fun x=>by simp[execOp,hx,hy,eqGuard,binOp,Op.intBits]
theorem Wc0{aT:Array TypeId}(hx:ρ x= .string a)(hT:P.underlying T=some .string)(hA:aT[0]? =some T):Does P (execOp ρ ⟨d,.call ⟨.builtin .len,#[x],aT⟩,ty,ps,af,g⟩) w (.val (.int .i64 (a.size:Int))) w:=
 bu0 (fun w=>by simp[execOp,resolve,invoke,builtin,hx,Builtin.len_,hA,underlying,hT,goInt,Out.res]) fun w=>by simp[execOp,resolve,invoke,builtin,hx,Builtin.len_,hA,underlying,hT,goInt]
theorem Jz0{fl:Field}(hx:ρ x= .agg cs)(hT:P.underlying T=some (.struct fs))(hf:fs[f]? =some fl)(hu:P.underlying fl.type=some u)(hb:Go.Vc.bm0 u=true)(hc:cs[fl.offset]? =some v):(execOp ρ ⟨d,.field T x f,ty,ps,af,g⟩).run P w= .ok (.value v) w:=by
 have h2:(isAgg fl.type).run P w= .ok false w:=by rw[Go.Vc.dn0 hu,hb];rfl
 have h1:(part fl.type cs fl.offset).run P w= .ok v w:=by simp[part,h2,hc]
 simp[execOp,Instr.field,hx,run_underlying hT,hf,asAgg,h1]
theorem Gl0{fl:Field}(hx:ρ x= .agg cs)(hT:P.underlying T=some (.struct fs))(hf:fs[f]? =some fl)(hu:P.underlying fl.type=some u)(hb:Go.Vc.bm0 u=true)(hc:cs[fl.offset]? =some v):Does P (execOp ρ ⟨d,.field T x f,ty,ps,af,g⟩) w (.val v) w:=
 .N0 (N1 rfl _) rfl rfl fun _τ _d=>Jz0 hx hT hf hu hb hc
theorem Wd0{i:Nat}{b:UInt8}(hx:ρ x= .string a)(hy:ρ y= .int .i64 (i:Int))(hT:P.underlying T=some .string)(hb:a[i]? =some b):Does P (execOp ρ ⟨d,.index T x y,ty,ps,af,g⟩) w (.val (.int .u8 (b.toNat:Int))) w:=by
 have h1:(0:Int) <=(i:Int):=Int.natCast_nonneg i;refine bu0 (fun w=>?_) fun w=>?_
 ·simp[execOp,Instr.index,asIntOf,hx,hy,run_underlying hT,h1,hb,Out.res]
 ·simp[execOp,Instr.index,asIntOf,hx,hy,underlying,hT,h1,hb]
theorem ce1(a b:ByteArray):(a.toList==b.toList)=decide (a=b):=by
 by_cases h:a=b
 ·subst h;simp
 ·have h1:a.toList≠b.toList:=fun e=>h (by
   rw[ByteArray.toList_eq,ByteArray.toList_eq]at e;exact ByteArray.ext (Array.toList_inj.1 e))
  simp[h,h1]
theorem We0{b:ByteArray}(hx:ρ x= .string a)(hy:ρ y= .string b):Does P (execOp ρ ⟨d,.binOp .eql T x y T',ty,ps,af,g⟩) w (.val (.bool (decide (a=b)))) w:=
 bu0 (fun w=>by simp[execOp,hx,hy,eqGuard,binOp,Op.stringOp,Out.res,ce1]) fun w=>by simp[execOp,hx,hy,eqGuard,binOp,Op.stringOp]
end
end
section
variable{x:World}{b o:Nat}{cs:Array Value}{T:TypeId}{f:Nat×Nat}
theorem qh0(hb:x.heap[b]? =some (.cells cs T f))(hf:∀i,¬inR f i):x.frozen? ⟨b,o,none⟩=false:=by
 have h1:=hf o;unfold inR at h1;simp only[World.frozen?,hb];simp;intro h2;omega
theorem qt0{P:Program}{b' o':Nat}{S6:Array Value}{T':TypeId}{f':Nat×Nat}(X2:b≠b')(hb:x.heap[b]? =some (.cells cs T f))(Z8:x.heap[b']? =some (.cells S6 T' f'))(hf:∀i,¬inR f i)(hf':∀i,¬inR f' i):(sameAddr ⟨b,o,none⟩ ⟨b',o',none⟩).run P x= .ok false x/\(sameAddr ⟨b,o,none⟩ ⟨b',o',none⟩).events P x #[]=#[]:=by
 have h1:∀k,x.frozen? ⟨b,k,none⟩=false:=fun k=>qh0 hb hf;have h2:∀k,x.frozen? ⟨b',k,none⟩=false:=fun k=>qh0 Z8 hf';constructor
 ·simp[sameAddr,X2,h1,h2,hb,Z8,noView,viewAt,World.shape?,mayBeOne,stringish]
 ·simp[sameAddr,X2,h1,h2,hb,Z8,noView,viewAt,World.shape?,mayBeOne,stringish]
theorem j7.gb0{ρ:Nat->O7}{u:World}(h:j7 ρ u x)(hB:u.heap[b]? =some (.cells cs T (0,0)))(h0:0<cs.size):∃S6 f,x.heap[b]? =some (.cells S6 T f)/\∀i,¬inR f i:=by
 obtain⟨y,hy,hl⟩:=h.obj b _ hB;generalize ρ b=p at hl;cases hl with
 |same=>exact⟨_,_,hy,fun i hi=>by unfold inR at hi;omega⟩
 |cut _ rest _ f0 _ hh=>exact⟨_,_,hy,fun i hi=>by have:=hh i hi;unfold inR at this;omega⟩
 |gone=>simp at h0
end
section
variable{P:Program}{ρ:Operand->Value}{w:World}{d:Option Nat}{ty:TypeId}{ps:String}{af:Array Edge}{g:Option (Nat×Bool)}{x y:Operand}{T T' E:TypeId}
theorem tw0{b b':Nat}{cs S6:Array Value}{TB TB':TypeId}(hx:ρ x= .pointer (some ⟨b,0,none⟩))(hy:ρ y= .pointer (some ⟨b',0,none⟩))(hT:P.underlying T=some (.pointer E)){s:Nat}(hs:(P.info? E).map (·.size)=some s)(h0:decide (s≠0)=true)(hB:I0 w b cs TB)(hB':I0 w b' S6 TB')(hc:0<cs.size)(hc':0<S6.size):Does P (execOp ρ ⟨d,.binOp .eql T x y T',ty,ps,af,g⟩) w (.val (.bool (decide (b=b')))) w:=by
 have h0:s≠0:=of_decide_eq_true h0;obtain⟨j,hj,hjs⟩:=Option.map_eq_some_iff.1 hs;have hz:j.size≠0:=by rw[hjs];exact h0
 refine .quiet fun τ dd ρ' X h=>?_;obtain⟨c1,f1,e1,q1⟩:=j7.gb0 h (b:=b) (cs:=cs) (T:=TB) hB hc;obtain⟨c2,f2,e2,q2⟩:=j7.gb0 h (b:=b') (cs:=S6) (T:=TB') hB' hc';by_cases hbb:b=b'
 ·subst hbb;have h3:∀n:Nat,(Op.equalIn (n+1) T (.pointer (some ⟨b,0,none⟩)) (.pointer (some ⟨b,0,none⟩))).run P X= .ok true X/\(Op.equalIn (n+1) T (.pointer (some ⟨b,0,none⟩)) (.pointer (some ⟨b,0,none⟩))).events P X #[]=#[]:=fun n=>by
   constructor
   ·simp[Op.equalIn,run_underlying hT,sizeOf,typeInfo,hj,run_sameAddr_same]
   ·simp[Op.equalIn,underlying,hT,sizeOf,typeInfo,hj,sameAddr]
  have h4:Op.equal T (.pointer (some ⟨b,0,none⟩)) (.pointer (some ⟨b,0,none⟩))=Op.equalIn (9999+1) T (.pointer (some ⟨b,0,none⟩)) (.pointer (some ⟨b,0,none⟩)):=rfl;obtain⟨h5,h6⟩:=h3 9999;rw[<- h4]at h5 h6;clear h3 h4;constructor
  ·simp[execOp,hx,hy,eqGuard,binOp,h5,Out.res]
  ·simp[execOp,hx,hy,eqGuard,binOp,h6]
 ·have h2:=qt0 (P:=P) (o:=0) (o':=0) hbb e1 e2 q1 q2;have h3:∀n:Nat,(Op.equalIn (n+1) T (.pointer (some ⟨b,0,none⟩)) (.pointer (some ⟨b',0,none⟩))).run P X= .ok false X/\(Op.equalIn (n+1) T (.pointer (some ⟨b,0,none⟩)) (.pointer (some ⟨b',0,none⟩))).events P X #[]=#[]:=fun n=>by
   constructor
   ·simp[Op.equalIn,run_underlying hT,sizeOf,typeInfo,hj,hz,h2.1]
   ·simp[Op.equalIn,underlying,hT,sizeOf,typeInfo,hj,hz,h2.2]
  have h4:Op.equal T (.pointer (some ⟨b,0,none⟩)) (.pointer (some ⟨b',0,none⟩))=Op.equalIn (9999+1) T (.pointer (some ⟨b,0,none⟩)) (.pointer (some ⟨b',0,none⟩)):=rfl;obtain⟨h5,h6⟩:=h3 9999;rw[<- h4]at h5 h6;clear h3 h4;constructor
  ·simp[execOp,hx,hy,eqGuard,binOp,h5,Out.res,hbb]
  ·simp[execOp,hx,hy,eqGuard,binOp,h6]
end
theorem tx0{P:Program}{ρ:Operand->Value}{w:World}{d:Option Nat}{ty:TypeId}{ps:String}{af:Array Edge}{g:Option (Nat×Bool)}{x:Operand}{f:FuncId}{fn:Func}{aT:Array TypeId}{x0:Operand}{v0:Value}{ys:Array Value}(hx:ρ x= .func (.func f) #[] ys)(h0:ρ x0=v0)(hf:P.funcs[f]? =some fn)(hb:fn.body.isSome=true)(hn:Ue fn):Does P (execOp ρ ⟨d,.call ⟨.value x,#[x0],aT⟩,ty,ps,af,g⟩) w (.enter f (#[v0]++ys)) w:=by
 refine .N0 (cc0 hx hf hb hn) rfl rfl fun τ dd=>?_;rw[Go.Vc.cv0 hx rfl hf hb hn];simp[h0,Out.res]
section
variable{P:Program}{ρ:Operand->Value}{w:World}{d:Option Nat}{ty:TypeId}{ps:String}{af:Array Edge}{g:Option (Nat×Bool)}{x y:Operand}{T E:TypeId}
theorem Gm0{a:Option Addr}{n c i s:Nat}(hx:ρ x= .slice a n c)(hy:ρ y= .int .i64 (i:Int))(hT:P.underlying T=some (.slice E))(hs:(P.info? E).map (·.size)=some s)(hi:i <=n)(hn:n <=c)(hc:i<c):Does P (execOp ρ ⟨d,.slice T x (some y) none none,ty,ps,af,g⟩) w (.val (.slice (a.map (·.add (i*s))) (n-i) (c-i))) w:=by
 have h1:(0:Int) <=(i:Int)/\(i:Int) <=(n:Int):=by omega
 have h2:(0:Int) <=(n:Int)/\(n:Int) <=(c:Int):=by omega
 have h3:¬c=i:=by omega
 refine .N0 (N1 rfl _) rfl rfl fun τ dd=>?_;simp[execOp,Instr.sliceAt,Instr.slice,Instr.sliceBounds,Instr.sliceBound,hx,hy,asIntOf,run_underlying hT,Go.Vc.run_sizeOf hs,h1,h3,hi,Out.res]
theorem xa0(z:Value)(n:Nat):(Builtin.zeroCells #[z] n).toList=List.replicate n z:=by
 apply List.ext_getElem?;intro i;simp[Builtin.zeroCells];by_cases h:i<n
 ·simp[h,Nat.mod_one]
 ·simp[h]
theorem cf1{b o n c:Nat}{cs:Array Value}{TB:TypeId}{z zv:Value}{aT:Array TypeId}(hx:ρ x= .slice (some ⟨b,o,none⟩) n c)(hA:aT[0]? =some T)(hT:P.underlying T=some (.slice E))(hz:(P.info? E).bind (·.zero)=some zv)(hc:zv.cells=#[z])(h1:z.oneCell'=true)(hB:I0 w b cs TB)(hn:0<n)(hl:o+n <=cs.size):Does P (execOp ρ ⟨d,.call ⟨.builtin .clear,#[x],aT⟩,ty,ps,af,g⟩) w (.val (.tuple #[])) (Go.Vc.R4 w b (Go.Vc.setRow cs o (List.replicate n z)) TB):=by
 obtain⟨m,rfl⟩:∃m,n=m+1:=⟨n-1,by omega⟩
 have ht:S0 P (Builtin.clear_ aT ty #[.slice (some ⟨b,o,none⟩) (m+1) c]):=by
  unfold Builtin.clear_;simp only[hA,List.size_toArray,List.length_cons,List.length_nil,Nat.zero_add,Nat.lt_one_iff,getElem?_pos,List.getElem_toArray,List.getElem_cons_zero];exact W6 hT<|O0 (I3 _) fun v=>O0 (D4 _ _ _) fun _=>M0 _
 refine .N0 (by
  show S0 P (do pure (.value (<- Builtin.clear_ aT ty (#[x].map ρ))):Sem Next);rw[show #[x].map ρ=#[ρ x] by simp,hx];exact O0 ht fun _=>M0 _) rfl rfl fun τ dd=>?_
 have hB:I0 (G2 w τ dd) b cs TB:=hB;have:=Go.Vc.I7 (P:=P) b TB (List.replicate (m+1) z) o 0 cs (G2 w τ dd) hB (by simp;omega) (fun v hv=>by rw[List.eq_of_mem_replicate hv];exact h1);rw[Nat.add_zero]at this;have hzr:∀w':World,(zeroValue E).run P w'= .ok zv w':=fun w'=>by
  obtain⟨j,hj,hjz⟩:=Option.bind_eq_some_iff.1 hz;simp[zeroValue,typeInfo,hj,hjz]
 show _=Result.ok (Next.value (.tuple #[])) (Go.Vc.R4 (G2 w τ dd) b (Go.Vc.setRow cs o (List.replicate (m+1) z)) TB);simp[execOp,resolve,invoke,builtin,hx,Builtin.clear_,hA,run_underlying hT,hzr,hc,xa0,this]
end
section
open Go.Vc
theorem _root_.Go.Vc.Own.cut{w:World}{B m c k:Nat}{E:TypeId}{a:Option Addr}{xs:List Value}(h:Own w B E 1 a m c xs)(hk:k <=m)(ha:a≠none):Own w B E 1 a k c (xs.take k):=by
 obtain⟨r,rfl⟩:=h.qy0 ha;obtain⟨cur,hB,hb,hnc,hcm,hcs,ht⟩:=h.row ha;simp only[ab,Option.map_some,Option.getD_some]at hB hb;have hl:=h.length;refine⟨by rw[List.length_take];omega,.inr ⟨r,c,cur,rfl,hb,hB,by omega,hcm,hcs,?_⟩⟩;rw[<- ht,List.take_take,Nat.mul_one,Nat.mul_one,Nat.min_eq_left hk]
theorem Dv0(f:Nat->Value)(z:Value)(i:Nat):∀(q:Nat)(cs:Array Value),i+q <=cs.size->(setRow cs i (List.replicate q z)).size=cs.size/\∀j,(setRow cs i (List.replicate q z))[j]? =if i <=j/\j<i+q then some z else cs[j]?:=by
 intro q
 induction q generalizing i with
 |zero=>intro cs _;exact⟨rfl,fun j=>by rw[if_neg Uo];rfl⟩
 |succ q ih=>
  intro cs hq;have h1:=ih (i+1) (cs.setIfInBounds i z) (by simp;omega);rw[List.replicate_succ];show(setRow (cs.setIfInBounds i z) (i+1) (List.replicate q z)).size=_/\∀j,(setRow (cs.setIfInBounds i z) (i+1) (List.replicate q z))[j]? =_;refine⟨by rw[h1.1];simp,fun j=>?_⟩;rw[h1.2 j];by_cases hj:j=i
  ·subst hj;rw[if_neg Uo,if_pos Uo,Array.getElem?_setIfInBounds_self_of_lt Uo]
  ·by_cases h2:i+1 <=j/\j<i+1+q
   ·rw[if_pos h2,if_pos Uo]
   ·rw[if_neg h2,if_neg Uo,Array.getElem?_setIfInBounds_ne (fun e=>hj e.symm)]
variable{P:Program}[Ctx P]{n:Nat}{ops:Array Oper}{Q:Exit->Env->World->Prop}{rest:List Oper}{e:Env}{w:World}{ty:TypeId}{ps:String}{af:Array Edge}{y:Operand}{T E:TypeId}
theorem L.Wf0[K3]{B m c cc i:Nat}{a:Option Addr}{f:Nat->Value}{z zv:Value}{aT:Array TypeId}(hx:ev e y= .slice (a.map (·.add (i*1))) (m-i) cc)(hA:aT[0]? =some T)(hT:P.underlying T=some (.slice E))(hz:(P.info? E).bind (·.zero)=some zv)(hc:zv.cells=#[z])(h1:z.oneCell'=true)(hO:Own w B E 1 a m c (lst f m))(hi:i<m)
  (k:∀w1,Own w1 B E 1 a m c (lst (fun j=>if i <=j then z else f j) m)->y5 w w1 B [E]->L P n ops Q rest e w1):L P n ops Q (⟨none,.call ⟨.builtin .clear,#[y],aT⟩,ty,ps,af,none⟩::rest) e w:=by
 have ha:=hO.ir0 Uo;obtain⟨r,rfl⟩:=hO.qy0 ha;obtain⟨cur,hB,hb,hnc,hcm,hcs,ht⟩:=hO.row ha;simp only[ab,Option.map_some,Option.getD_some,Nat.mul_one]at hB hb hx hcs ht;have hx:ev e y= .slice (some ⟨r,i,none⟩) (m-i) cc:=by rw[hx,Addr.add_lit,Nat.zero_add]
 refine L.va0 (cf1 hx hA hT hz hc h1 hB Uo Uo) (k _ ?_ ?_)
 ·have hs:=Dv0 f z i (m-i) cur Uo;refine⟨by rw[fh0];omega,.inr ⟨r,c,_,rfl,hb,T2 _ _ _ hB,hnc,hcm,by rw[hs.1];omega,?_⟩⟩;rw[Nat.mul_one];apply List.ext_getElem?;intro j;have h2:=hs.2 j;rw[List.getElem?_take,Array.getElem?_toList];by_cases hj:j<m
  ·rw[if_pos hj,h2,fg0 hj];by_cases hij:i <=j
   ·rw[if_pos Uo,if_pos hij]
   ·rw[if_neg Uo,if_neg hij];have h3:(cur.toList.take m)[j]? =(lst f m)[j]?:=by rw[ht]
    rw[fg0 hj,List.getElem?_take,if_pos hj,Array.getElem?_toList]at h3;exact h3
  ·rw[if_neg hj,List.getElem?_eq_none (by rw[fh0];omega)]
 ·exact y5.put hB (ar0 (ap0 w (some r)) (.inl rfl) _ _) hb (by simp)
end
end Go.Vy
end
section
namespace Go.Vy.Sc
open Go Go.Conc Go.Yc Go.RowKit Go.Proofs Go.Proofs.YtinppmaojmdmhaaGreat Tryz
open Go.Vc Go.Wg
def cl0(h:Int)(b:UInt8):Int:=IntKind.u64.wrap (IntKind.u64.wrap ((BitVec.ofInt IntKind.u64.bits h ^^^ BitVec.ofInt IntKind.u64.bits (IntKind.u64.wrap (b.toNat:Int))).toNat:Int)*1099511628211)
def nu0(h:Int)(l:List UInt8):Int:=l.foldl cl0 h
def R9(s:ByteArray):Int:=nu0 14695981039346656037 s.data.toList
section
variable{s:ByteArray}{i:Nat}{b:UInt8}
theorem cg1(h:Int)(b:UInt8):0 <=cl0 h b/\cl0 h b<18446744073709551616:=by
 unfold cl0;rw[IntKind.wrap_u64];omega
theorem gu1(s:ByteArray):0 <=R9 s/\R9 s<18446744073709551616:=by
 unfold R9 nu0;have key:∀(l:List UInt8)(h:Int),0 <=h/\h<18446744073709551616->0 <=l.foldl cl0 h/\l.foldl cl0 h<18446744073709551616:=by
  intro l
  induction l with
  |nil=>exact fun h hh=>hh
  |cons b l ih=>exact fun h _=>ih _ (cg1 h b)
 exact key _ _ Ud
theorem ch1(h:s.data.toList[i]? =some b):s[i]? =some b:=by
 obtain⟨hl,hv⟩:=List.getElem?_eq_some_iff.1 h;have hs:i<s.size:=by simpa using hl
 rw[getElem?_pos s i hs];congr 1
theorem Mx0(s:ByteArray):s.data.toList.length=s.size:=by simp
theorem Pj0{h:Int}(hb:s.data.toList[i]? =some b):cl0 (nu0 h (s.data.toList.take i)) b=nu0 h (s.data.toList.take (i+1)):=by
 unfold nu0;rw[List.take_succ_eq_append_getElem (List.getElem?_eq_some_iff.1 hb).1,List.foldl_append,(List.getElem?_eq_some_iff.1 hb).2];rfl
end
def jb0(n:Nat)(k:ByteArray):Nat:=(R9 k%(n:Int)).toNat
def slot(n:Nat)(k:ByteArray):Nat:=(R9 k/64%(n:Int)).toNat
theorem My0{n:Nat}(h:0<n)(k:ByteArray):jb0 n k<n:=by
 unfold jb0;have h1:=Int.emod_nonneg (R9 k) (b:=(n:Int)) Uo;have h2:=Int.emod_lt_of_pos (R9 k) (b:=(n:Int)) Uo;omega
theorem nv0{n:Nat}(h:0<n)(k:ByteArray):slot n k<n:=by
 unfold slot;refine U537 ?_;intro h1 h2;omega
theorem ci1{n:Nat}(h:0<n)(hn:n <=64)(k:ByteArray):IntKind.i64.wrap ((R9 k).tmod (IntKind.u64.wrap (n:Int)))=(jb0 n k:Int):=by
 have h1:=Int.emod_nonneg (R9 k) (b:=(n:Int)) Uo;have h2:=Int.emod_lt_of_pos (R9 k) (b:=(n:Int)) Uo;have h3:IntKind.u64.wrap (n:Int)=(n:Int):=by rw[IntKind.wrap_u64];omega
 rw[h3,Int.tmod_eq_emod_of_nonneg (gu1 k).1,IntKind.wrap_i64];unfold jb0;omega
theorem cj1{n:Nat}(h:0<n)(hn:n <=1000000)(k:ByteArray):IntKind.i64.wrap ((IntKind.u64.wrap ((R9 k).tdiv 64)).tmod (IntKind.u64.wrap (n:Int)))=(slot n k:Int):=by
 have h0:=gu1 k;refine U537 ?_;intro h1 h2;have h3:IntKind.u64.wrap (n:Int)=(n:Int):=by rw[IntKind.wrap_u64];omega
 have h4:(R9 k).tdiv 64=R9 k/64:=Int.tdiv_eq_ediv_of_nonneg h0.1;have h5:IntKind.u64.wrap (R9 k/64)=R9 k/64:=by rw[IntKind.wrap_u64];omega
 rw[h3,h4,h5,Int.tmod_eq_emod_of_nonneg Uo,IntKind.wrap_i64];unfold slot;omega
section
variable[Ctx prog]
theorem Wg0(h:Int)(s:ByteArray)(hs:s.size <=1000000000000)(w0:World):C prog 153 #[.int .u64 h,.string s] w0 fun v w=>v= .int .u64 (nu0 h s.data.toList)/\w=w0:=by
 refine C.enter (n:=20) func153 rfl rfl<|U224 ?_;refine U28 ?_;refine L.va G5<|L.va (Wc0 rfl underlying9 rfl)<|U22 ?_;refine W.loop (fun k e w=>∃(i:Nat),k=s.size-i/\e 0= .int .u64 (nu0 h (s.data.toList.take i))/\e 1= .string s/\e 7= .i (s.size:Nat)/\e 8= .i (i:Nat)/\i <=s.size/\w=w0) _ ⟨0,rfl,rfl,rfl,rfl,rfl,Nat.zero_le _,rfl⟩ ?_;rintro k e w ⟨i,hk,s0,s1,s7,s8,hi,hw⟩;refine U541 ?_;refine U12 ?_;refine W.m6 rfl (fun h9=>?_) (fun h9=>?_)
 ·have O1:i<s.size:=by omega
  obtain⟨b,hb⟩:∃b,s.data.toList[i]? =some b:=⟨_,List.getElem?_eq_getElem (by rw[Mx0];exact O1)⟩
  refine U39 ?_;refine U92 ?_;refine U139 ?_;refine L.va G5<|L.va (N3 rfl)<|L.va (Wd0 rfl rfl underlying9 (ch1 hb))<|L.va (dg0 rfl underlying5 underlying140)<|L.va (lj1 rfl rfl)<|L.va (v:=.int .u64 (nu0 h (s.data.toList.take (i+1)))) (by rw[<- Pj0 hb];exact zo0 rfl rfl)<|L.va Q5<|L.nil<|U124 ?_;refine U200 ?_;refine U30 ?_;exact⟨_,by omega,⟨i+1,rfl,rfl,rfl,rfl,rfl,O1,hw⟩⟩
 ·refine W.exit<|U44 ?_;refine L.va G5<|U154 ?_;refine⟨?_,hw⟩;have hie:i=s.size:=by omega
  show Value.int .u64 (nu0 h (s.data.toList.take i))=_;rw[hie,<- Mx0,List.take_length]
theorem Wh0(s:ByteArray)(hs:s.size <=1000000000000)(w0:World):C prog 132 #[.string s] w0 fun v w=>v= .int .u64 (R9 s)/\w=w0:=by
 refine C.enter (n:=5) func132 rfl rfl<|U224 ?_;refine U6 ?_;refine L.va G5<|L.call (B2 rfl rfl func153 rfl sp1 rfl) (Wg0 _ s hs _) ?_;rintro _ w ⟨rfl,rfl⟩;refine U54 ?_;exact U33
theorem ck1(s:ByteArray)(n:Nat)(hs:s.size <=1000000000000)(h0:0<n)(hn:n <=64)(w0:World):C prog 91 #[.string s,.i (n:Int)] w0 fun v w=>v= .i (jb0 n s:Int)/\w=w0:=by
 refine C.enter (n:=17) func91 rfl rfl<|U0 ?_;refine U118 ?_;refine U500 ?_;refine U26 ?_;refine U486 ?_;refine U77 ?_;refine U85 ?_;refine L.call (N2 rfl func132 rfl fw1 rfl) (Wh0 s hs _) ?_;rintro _ w ⟨rfl,rfl⟩;refine L.va (N3 rfl)<|L.va (dg0 rfl underlying3 underlying140)<|L.va (na0 rfl rfl (by rw[IntKind.wrap_u64];omega))<|L.va (v:=.i (jb0 n s:Int)) (by rw[<- ci1 h0 hn s];exact dg0 rfl underlying140 underlying3)<|U7 ?_;exact U33
theorem cl1(a:Option Addr)(n c:Nat)(ct md:Int)(s:ByteArray)(hs:s.size <=1000000000000)(h0:0<n)(hn:n <=1000000)(w0:World):C prog 93 #[.agg #[.slice a n c,.i ct,.i md],.string s] w0 fun v w=>v= .i (slot n s:Int)/\Below w0.heap.size w0 w:=by
 refine C.enter (n:=14) func93 rfl rfl<|U2 ?_;intro hb;refine U323 ?_;intro w b2 F2 lt2 hb;have Y1:=F2.blk;refine U17 ?_;refine W.quiet (fun w'=>Below w.heap.size w w') Uk Uk ((Below.refl w.heap.size w).drew)<|D.va (fun w' W0=>G5)<|D.call (fun w' W0=>(N2 rfl func132 rfl fw1 rfl)) (fun w' W0=>((Wh0 s hs w').mono fun r w h=>⟨h.1,by rw[h.2];exact W0⟩))<|D.va (fun w' W0=>(Lu0 rfl rfl Ud))<|D.va (fun w' W0=>(A0 rfl underlying97 rfl tc0 Ud))<|D.va (fun w' W0=>(q0 rfl underlying95 rfl ((Y1.j0 W0).E0 0 (v:=.slice a n c) rfl)))<|D.va (fun w' W0=>(A7 rfl underlying95 rfl))<|D.va (fun w' W0=>(dg0 rfl underlying3 underlying140))<|D.va (fun w' W0=>(na0 rfl rfl (by rw[IntKind.wrap_u64];omega)))<|D.va (fun w' W0=>(cj1 h0 hn s)▸dg0 rfl underlying140 underlying3)<|D.va (fun w' W0=>(fd0 rfl))<|U60 ?_;intro w L2 hb;clear L2;show W _ _ _ _ _ _;exact U56
end
def zu1(w:World)(ky:Nat->ByteArray)(b:Nat):Prop:=(ky b).size <=1000000000000/\∃nm lt us,I0 w b #[.string (ky b),.i nm,.pointer lt,.pointer us] 127
def ptr(b:Nat):Value:=.p b
structure bv0(w:World)(ky:Nat->ByteArray)(l:List Nat):Prop where
 all:∀b∈l,zu1 w ky b
theorem bv0.j0{w w':World}{ky:Nat->ByteArray}{l:List Nat}(h:bv0 w ky l)(hb:Below w.heap.size w w'):bv0 w' ky l:=
 ⟨fun b hl=>let⟨h1,nm,lt,us,h2⟩:=h.all b hl;⟨h1,nm,lt,us,h2.j0 hb⟩⟩
theorem bv0.sub{w:World}{ky:Nat->ByteArray}{l l':List Nat}(h:bv0 w ky l)(hs:∀b∈l',b∈l):bv0 w ky l':=⟨fun b hb=>h.all b (hs b hb)⟩
structure Bk(w:World)(B n:Nat)(a:Option Addr)(c:Nat)(sl:Nat->List Nat)(ia:Nat->Option Addr)(ic:Nat->Nat):Prop where
 out:Own w B 195 1 a n c (lst (fun j=>.slice (ia j) (sl j).length (ic j)) n)
 inn:∀j,j<n->Own w B 71 1 (ia j) (sl j).length (ic j) ((sl j).map ptr)
section
variable{w w':World}{B n c:Nat}{a:Option Addr}{sl:Nat->List Nat}{ia:Nat->Option Addr}{ic:Nat->Nat}
theorem Bk.j0(h:Bk w B n a c sl ia ic)(hb:Below w.heap.size w w'):Bk w' B n a c sl ia ic:=⟨h.out.j0 hb,fun j hj=>(h.inn j hj).j0 hb⟩
theorem Bk.down{B':Nat}(h:Bk w B' n a c sl ia ic)(hB:B <=B'):Bk w B n a c sl ia ic:=⟨h.out.down hB,fun j hj=>(h.inn j hj).down hB⟩
theorem Bk.other{b:Nat}{cs:Array Value}{T:TypeId}(h:Bk w B n a c sl ia ic)(hg:w.grownBy w' (some b))(hB:I0 w b cs T)(hT:T≠195/\T≠71):Bk w' B n a c sl ia ic:=
 ⟨h.out.H6 hg (Own.kq0 h.out (S3 hB) hT.1.symm),fun j hj=>(h.inn j hj).H6 hg (Own.kq0 (h.inn j hj) (S3 hB) hT.2.symm)⟩
theorem Bk.congr(h:Bk w B n a c sl ia ic)(ho:a≠none->w'.heap[ab a]? =w.heap[ab a]?)(hi:∀j,j<n->ia j≠none->w'.heap[ab (ia j)]? =w.heap[ab (ia j)]?):Bk w' B n a c sl ia ic:=⟨Own.congr h.out ho,fun j hj=>Own.congr (h.inn j hj) (hi j hj)⟩
end
def fnd(ky:Nat->ByteArray)(l:List Nat)(k:ByteArray):Option Nat:=l.find? fun b=>decide (ky b=k)
def uq1:Option Nat->Value
 |some b=>ptr b
 |none=>.pointer none
section
variable{ky:Nat->ByteArray}{l:List Nat}{k:ByteArray}
theorem lk1{i b:Nat}(hb:l[i]? =some b)(hk:ky b=k)(hn:∀j,j<i->∀b,l[j]? =some b->ky b≠k):fnd ky l k=some b:=by
 unfold fnd
 induction l generalizing i with
 |nil=>cases hb
 |cons x l ih=>
  cases i with
  |zero=>cases hb;simp[hk]
  |succ i=>
   have h0:=hn 0 (Nat.zero_lt_succ _) x rfl;rw[List.find?_cons_of_neg (by simpa using h0)];exact ih hb fun j hj b hb=>hn (j+1) Uo b (by simpa using hb)
theorem Wi0(hn:∀j,j<l.length->∀b,l[j]? =some b->ky b≠k):fnd ky l k=none:=by
 unfold fnd;rw[List.find?_eq_none];intro b hb;obtain⟨j,hj⟩:=List.getElem?_of_mem hb;simpa using hn j (List.getElem?_eq_some_iff.1 hj).1 b hj
end
section
variable[Ctx prog]
theorem Wj0(ky:Nat->ByteArray)(b kb:Nat)(q:ByteArray)(nm:Int)(lt us:Option Addr)(w0:World)(hB:I0 w0 b #[.string (ky b),.i nm,.pointer lt,.pointer us] 127)(hK:I0 w0 kb #[.string q] 9):C prog 94 #[.p b,.p kb] w0 fun v w=>v= .bool (decide (ky b=q))/\Below w0.heap.size w0 w:=by
 refine C.enter (n:=10) func94 rfl rfl ?_;have hb:Below w0.heap.size w0 w0:=Below.refl _ _;generalize w0=w at *;refine U0 ?_;refine L.va (jm0 rfl)<|U5 ?_;refine W.quiet (fun w'=>Below w.heap.size w w') Uk Uk ((Below.refl w.heap.size w).drew)<|U49 ?_;refine D.va (fun w' W0=>(A0 rfl underlying127 rfl sz9 Ud))<|D.va (fun w' W0=>(q0 rfl underlying9 rfl ((hB.j0 W0).E0 0 (v:=.string (ky b)) rfl)))<|D.va (fun w' W0=>(q0 rfl underlying9 rfl ((hK.j0 W0).E0 0 (v:=.string q) rfl)))<|D.va (fun w' W0=>(We0 rfl rfl))<|D.va (fun w' W0=>(jm0 rfl))<|U60 ?_;intro w L2 hb;clear L2;show W _ _ _ _ _ _;exact U56
theorem ll1(ky:Nat->ByteArray)(Bl c kb:Nat)(a:Option Addr)(l:List Nat)(q:ByteArray)(hl:l.length <=1000000000000)(w0:World)(hO:Own w0 Bl 71 1 a l.length c (l.map ptr))(hE:bv0 w0 ky l)(hK:I0 w0 kb #[.string q] 9):C prog 92 #[.slice a l.length c,.func (.func 94) #[] #[.p kb]] w0 fun v w=>v= .tuple #[uq1 (fnd ky l q),.bool (fnd ky l q).isSome]/\Below w0.heap.size w0 w:=by
 refine C.enter (n:=25) func92 rfl rfl<|U2 ?_;intro hb;refine U100 ?_;refine U5 ?_;refine U277 ?_;refine U22 ?_;refine W.loop (fun k e w=>∃(i:Nat),k=l.length-i/\e 0= .slice a l.length c/\e 1= .func (.func 94) #[] #[.p kb]/\e 9= .i (l.length:Nat)/\e 10= .i (i:Nat)/\i <=l.length/\(∀j,j<i->∀b,l[j]? =some b->ky b≠q)/\Own w Bl 71 1 a l.length c (l.map ptr)/\bv0 w ky l/\I0 w kb #[.string q] 9/\Below w0.heap.size w0 w) _ ⟨0,rfl,rfl,rfl,rfl,rfl,Nat.zero_le _,(fun j hj=>absurd hj (Nat.not_lt_zero _)),hO,hE,hK,hb⟩ ?_;rintro k e w ⟨i,hk,s0,s1,s9,s10,hi,hn,hO,hE,hK,hb⟩;rw[L0 s0,L0 s1,L0 s9,L0 s10];clear s0 s1 s9 s10;refine U12 ?_;refine W.m6 rfl (fun h11=>?_) (fun h11=>?_)
 ·have O1:i<l.length:=by omega
  obtain⟨b,hb9⟩:∃b,l[i]? =some b:=⟨_,List.getElem?_eq_getElem O1⟩
  refine U39 ?_;refine U92 ?_;refine U85 ?_;refine U300 ?_;refine L.va (q0 (v:=ptr b) rfl underlying71 rfl (by rw[hO.off,Nat.zero_add,Nat.mul_one];exact Own.cell hO (by rw[List.getElem?_map,hb9];rfl))) ?_;obtain⟨_,nm,lt,us,S7⟩:=hE.all b (List.mem_of_getElem? hb9);refine L.call (tx0 rfl rfl func94 rfl ys1) (Wj0 ky b kb q nm lt us w S7 hK) ?_;rintro _ w ⟨rfl,L2⟩;clear S7;have hb:=B0 hb L2;have hO:=hO.j0 L2;have hE:=hE.j0 L2;have hK:=hK.j0 L2;clear L2;refine U1 ?_;refine W.m6 rfl (fun h18=>?_) (fun h18=>?_)
  ·refine W.seq<|W.region rfl<|U300 ?_;refine L.va (q0 (v:=ptr b) rfl underlying71 rfl (by rw[hO.off,Nat.zero_add,Nat.mul_one];exact Own.cell hO (by rw[List.getElem?_map,hb9];rfl))) ?_;refine L.va (Z9 rfl)<|U8 ?_;refine U212 ?_;have hf:=lk1 hb9 h18 hn;exact⟨by rw[hf];rfl,hb⟩
  ·refine W.skip<|U124 ?_;refine U200 ?_;refine U30 ?_;exact⟨_,by omega,⟨i+1,rfl,rfl,rfl,rfl,rfl,O1,(fun j hj b2 hb2=>by
    rcases Nat.lt_succ_iff_lt_or_eq.1 hj with h|h
    ·exact hn j h b2 hb2
    ·rw[h,hb9]at hb2;cases hb2;exact h18),hO,hE,hK,hb⟩⟩
 ·refine W.exit<|U44 ?_;refine U73 ?_;refine U16 ?_;refine L.va (Z9 rfl)<|U8 ?_;refine U212 ?_;have hf:=Wi0 (ky:=ky) (l:=l) (k:=q) fun j hj=>hn j Uo;exact⟨by rw[hf];rfl,hb⟩
theorem Mz0(ky:Nat->ByteArray)(Bl n c:Nat)(a:Option Addr)(ct md:Int)(sl:Nat->List Nat)(ia:Nat->Option Addr)(ic:Nat->Nat)(q:ByteArray)(hk:q.size <=1000000000000)(h0:0<n)(hn:n <=1000000)(hsl:∀j,j<n->(sl j).length <=1000000000000)(w0:World)(hB:Bk w0 Bl n a c sl ia ic)(hE:bv0 w0 ky (sl (slot n q))):C prog 54 #[.agg #[.slice a n c,.i ct,.i md],.string q] w0 fun v w=>v= .tuple #[uq1 (fnd ky (sl (slot n q)) q),.bool (fnd ky (sl (slot n q)) q).isSome]/\Below w0.heap.size w0 w:=by
 refine C.enter (n:=17) func54 rfl rfl ?_;have hb:Below w0.heap.size w0 w0:=Below.refl _ _;have hj:=nv0 h0 q;refine U0 ?_;refine U323 ?_;intro w b2 F2 lt2 hb;have hB:=hB.j0 F2.below;have hE:=hE.j0 F2.below;have Y1:=F2.blk;refine L.box (cs:=#[.string q]) rfl rfl (fun w b3 F3=>?_);refine U145 ?_;intro lt3 hb;have hB:=hB.j0 F3.below;have hE:=hE.j0 F3.below;have Y1:=Y1.j0 F3.below;have o5:=F3.blk;refine U100 ?_;refine U5 ?_;refine W.fl 11 [4,8] [0,1,2,3,7,4,5,6,8,9,10] (fun w'=>I0 w' b2 #[.slice a n c,.i ct,.i md] 97/\I0 w' b3 #[.string q] 9/\Bk w' Bl n a c sl ia ic) Uk Uk Uk Uk Uk (⟨Y1.j0 (Below.refl w.heap.size w).drew,o5.j0 (Below.refl w.heap.size w).drew,hB.j0 (Below.refl w.heap.size w).drew⟩)<|U24 ?_;intro G4 hb;have hB:=hB.j0 G4;have hE:=hE.j0 G4;have Y1:=Y1.j0 G4;have o5:=o5.j0 G4;clear G4;generalize w.drew=w at *;refine F.va rfl rfl (fun w' W0=>(A0 rfl underlying97 rfl tc0 Ud))<|F.va rfl rfl (fun w' W0=>(q0 rfl underlying95 rfl (W0.1.E0 0 (v:=.slice a n c) rfl)))<|F.va rfl rfl (fun w' W0=>(A2 (cs:=[.slice a n c,.i ct,.i md]) rfl underlying97 rfl C9 rfl (W0.1.R7 rfl)))<|F.va rfl rfl (fun w' W0=>(q0 rfl underlying9 rfl (W0.2.1.E0 0 (v:=.string q) rfl)))<|U287 ?_;refine L.call (B2 rfl rfl func93 rfl bb1 rfl) (cl1 a n c ct md q hk h0 hn _) ?_;rintro _ w ⟨rfl,L2⟩;have hb:=B0 hb L2;have hB:=hB.j0 L2;have hE:=hE.j0 L2;refine U122 ?_;intro Y1 o5;refine L.nil ⟨rfl,⟨Y1,o5,hB⟩,?_⟩;refine F.va rfl rfl (fun w' W0=>(Q7 (i:=slot n q) rfl rfl underlying95 gx0 hB.out.sl hj))<|F.va rfl rfl (fun w' W0=>(q0 (v:=.slice (ia (slot n q)) (sl (slot n q)).length (ic (slot n q))) rfl underlying195 rfl (Own.at1 (Bk.out W0.2.2) hj)))<|F.doo rfl rfl<|L.call (B2 rfl rfl func92 rfl yr1 rfl) (ll1 ky Bl (ic (slot n q)) b3 (ia (slot n q)) (sl (slot n q)) q (hsl _ hj) _ (hB.inn _ hj) hE o5) ?_;rintro _ w ⟨rfl,L2⟩;have hb:=B0 hb L2;have hB:=hB.j0 L2;refine U122 ?_;intro Y1 o5;refine L.nil ⟨rfl,⟨Y1,o5,hB⟩,?_⟩;refine U366 ?_;refine U9 ?_;refine L.va Q5<|U8 ?_;refine U212 ?_;exact⟨rfl,hb⟩
end
theorem Gn0{w:World}{B n c s:Nat}{E:TypeId}{xs:List Value}(h:Own w B E s none n c xs):n=0/\c=0/\xs=[]:=by
 have hl:=h.length;rcases h.2 with⟨hv,h0⟩|⟨g,cap,cur,hv,_⟩
 ·cases hv;exact⟨rfl,rfl,List.eq_nil_of_length_eq_zero (by simpa using hl)⟩
 ·cases hv
def wo(l:List Nat)(e:Nat):List Nat:=l.filter fun b=>decide (b≠e)
section
variable{l:List Nat}{p e:Nat}
theorem Wk0(l l':List Nat)(e:Nat):wo (l++l') e=wo l e++wo l' e:=List.filter_append ..
theorem ln1(b e:Nat):wo [b] e=if b=e then [] else [b]:=by
 unfold wo;by_cases h:b=e <;> simp[h]
theorem rc0{b:Nat}(hb:l[p]? =some b):wo (l.take (p+1)) e=wo (l.take p) e++(if b=e then [] else [b]):=by
 obtain⟨h1,h2⟩:=List.getElem?_eq_some_iff.1 hb;rw[List.take_succ_eq_append_getElem h1,Wk0,ln1,h2]
theorem Bt0(l:List Nat)(e:Nat):(wo l e).length <=l.length:=List.length_filter_le ..
theorem cm1(h:∀j,j<l.length->∀b,l[j]? =some b->b≠e):wo l e=l:=by
 unfold wo;rw[List.filter_eq_self];intro b hb;obtain⟨j,hj⟩:=List.getElem?_of_mem hb;simpa using h j (List.getElem?_eq_some_iff.1 hj).1 b hj
theorem ur1(hp:l[p]? =some e){q:Nat}(hq:p<q)(hl:q <=l.length):(wo (l.take q) e).length<q:=by
 have h1:l.take q=l.take (p+1)++(l.drop (p+1)).take (q-(p+1)):=by
  rw[<- List.take_add,show p+1+(q-(p+1))=q by omega]
 rw[h1,Wk0,List.length_append,rc0 hp,if_pos rfl,List.append_nil];have h2:=Bt0 (l.take p) e;have h3:=Bt0 ((l.drop (p+1)).take (q-(p+1))) e;rw[List.length_take]at h2 h3;rw[List.length_drop]at h3;omega
end
structure Del(l:List Nat)(e p i:Nat)(g:Nat->Value):Prop where
 i:i=(wo (l.take p) e).length
 lo:∀j b,(wo (l.take p) e)[j]? =some b->g j=ptr b
 hi:∀j b,p <=j->l[j]? =some b->g j=ptr b
section
variable{l:List Nat}{e i p:Nat}{g:Nat->Value}
theorem Pk0(hi:l[i]? =some e)(hn:∀j,j<i->∀b,l[j]? =some b->b≠e):Del l e (i+1) i fun j=>ptr (l.getD j 0):=by
 have z8:=(List.getElem?_eq_some_iff.1 hi).1;have h1:wo (l.take i) e=l.take i:=cm1 fun j hj b hb=>by
  rw[List.length_take]at hj;rw[List.getElem?_take]at hb;split at hb
  ·exact hn j Uo b hb
  ·cases hb
 have h2:wo (l.take (i+1)) e=l.take i:=by rw[rc0 hi,if_pos rfl,List.append_nil,h1]
 refine⟨by rw[h2,List.length_take];omega,fun j b hb=>?_,fun j b _ hb=>by rw[List.getD_eq_getElem?_getD,hb];rfl⟩;rw[h2,List.getElem?_take]at hb;split at hb
 ·rw[List.getD_eq_getElem?_getD,hb];rfl
 ·cases hb
theorem Del.skip(h:Del l e p i g)(hp:l[p]? =some e):Del l e (p+1) i g:=by
 have h2:wo (l.take (p+1)) e=wo (l.take p) e:=by rw[rc0 hp,if_pos rfl,List.append_nil]
 exact⟨by rw[h2];exact h.i,fun j b hb=>h.lo j b (by rw[<- h2];exact hb),fun j b hj hb=>h.hi j b Uo hb⟩
theorem Del.put{b:Nat}(h:Del l e p i g)(hp:l[p]? =some b)(hb:b≠e):Del l e (p+1) (i+1) (upf g i (ptr b)):=by
 have h2:wo (l.take (p+1)) e=wo (l.take p) e ++ [b]:=by rw[rc0 hp,if_neg hb]
 have hip:i <=p:=by have:=h.i;have:=Bt0 (l.take p) e;rw[List.length_take]at this;omega
 refine⟨by rw[h2,List.length_append,<- h.i];rfl,fun j b' hj=>?_,fun j b' hj Z8=>?_⟩
 ·rw[h2]at hj;unfold upf;by_cases M3:j=i
  ·rw[if_pos M3];rw[M3,h.i,List.getElem?_append_right (Nat.le_refl _),Nat.sub_self]at hj;cases hj;rfl
  ·rw[if_neg M3];by_cases O1:j<(wo (l.take p) e).length
   ·rw[List.getElem?_append_left O1]at hj;exact h.lo j b' hj
   ·rw[List.getElem?_eq_none (by rw[List.length_append];have:=h.i;simp;omega)]at hj;cases hj
 ·unfold upf;rw[if_neg Uo];exact h.hi j b' Uo Z8
theorem Del.done{l:List Nat}{e i:Nat}{g:Nat->Value}{z:Value}(h:Del l e l.length i g):(lst (fun j=>if i <=j then z else g j) l.length).take i=(wo l e).map ptr:=by
 have hw:wo (l.take l.length) e=wo l e:=by rw[List.take_length]
 have hi:=h.i;rw[hw]at hi;have z8:i <=l.length:=by rw[hi];exact Bt0 l e
 apply List.ext_getElem?;intro j;rw[List.getElem?_take];by_cases hj:j<i
 ·obtain⟨b,hb⟩:∃b,(wo l e)[j]? =some b:=⟨_,List.getElem?_eq_getElem Uo⟩
  rw[if_pos hj,fg0 Uo,if_neg Uo,List.getElem?_map,hb,h.lo j b (by rw[hw];exact hb)];rfl
 ·rw[if_neg hj,List.getElem?_eq_none (by rw[List.length_map];omega)]
theorem cn1(l:List Nat):l.map ptr=lst (fun j=>ptr (l.getD j 0)) l.length:=by
 apply List.ext_getElem?;intro j;by_cases hj:j<l.length
 ·rw[fg0 hj,List.getElem?_map,List.getElem?_eq_getElem hj,List.getD_eq_getElem?_getD,List.getElem?_eq_getElem hj];rfl
 ·rw[List.getElem?_eq_none (by rw[List.length_map];omega),List.getElem?_eq_none (by rw[fh0];omega)]
end
section
variable[Ctx prog]
omit [Ctx prog] in
theorem tz0{B:Nat}{w0 w w':World}(h:Below B w0 w)(hb:Below B w w'):Below B w0 w':=⟨hb.os.trans h.os,hb.tape.trans h.tape,hb.output.trans h.output,Nat.le_trans h.size hb.size,fun k hk=>(hb.block k hk).trans (h.block k hk)⟩
theorem Go0(Bl n c:Nat)(ad:Addr)(xs:List Value)(hn:n <=1000000)(w0:World)(hO:Own w0 Bl 195 1 (some ad) n c xs)(h1:∀u∈xs,u.oneCell'=true):C prog 98 #[.slice (some ad) n c] w0 fun v w=>∃a' c',v= .slice a' n c'/\Own w w0.heap.size 195 1 a' n c' xs/\Below w0.heap.size w0 w:=by
 refine C.enter (n:=8) func98 rfl rfl<|U2 ?_;intro hb;refine U105 ?_;refine U556 ?_;refine U34 ?_;refine L.Sn0 underlying95 gx0 (fun w b5 F5=>?_);refine U41 ?_;intro lt5 hb;have hO:=hO.j0 F5.below;have K2:=F5.blk;refine L.va (dx0 rfl) ?_;have hO5:Own w w0.heap.size 195 1 (pt b5) 0 0 []:=Own.Fm0 K2 rfl lt5 (Nat.le_refl _) (Nat.zero_le _);refine L.dr0 (B:=w0.heap.size) (m:=n) rfl rfl underlying95 qb0 rfl Ud hO5 Uz (news:=xs) hO.length (fun ad9 had j u hj=>Own.src hO (Nat.le_of_eq hO.length) (fun _ _ z=>z) ad9 had j u hj) h1 Uo Uo hb.size (fun a7 c7 w hl2 hg2 A1 hnn=>?_);have hb:=tz0 hb A1;refine U25 ?_;refine U15 ?_;refine⟨a7,c7,?_,?_,hb⟩
 ·show Value.slice a7 (0+n) c7=_;rw[Nat.zero_add]
 ·rw[Nat.zero_add]at hl2;exact hl2
theorem Gp0(w0:World):C prog 98 #[.slice none 0 0] w0 fun v w=>v= .slice none 0 0/\Below w0.heap.size w0 w:=by
 refine C.enter (n:=8) func98 rfl rfl<|U2 ?_;intro hb;refine U105 ?_;refine U556 ?_;refine U110 ?_;refine U0 ?_;refine U25 ?_;exact U56
theorem kr0(Bl n c:Nat)(a:Option Addr)(xs:List Value)(hn:n <=1000000)(w0:World)(hO:Own w0 Bl 195 1 a n c xs)(h1:∀u∈xs,u.oneCell'=true):C prog 98 #[.slice a n c] w0 fun v w=>∃a' c',v= .slice a' n c'/\Own w w0.heap.size 195 1 a' n c' xs/\Below w0.heap.size w0 w:=by
 cases a with
 |some ad=>exact Go0 Bl n c ad xs hn w0 hO h1
 |none=>
  obtain⟨rfl,rfl,rfl⟩:=Gn0 hO;exact(Gp0 w0).mono fun v w h=>⟨none,0,h.1,Own.nil _ _ _ _,h.2⟩
theorem Gq0(Bl n c:Nat)(ad:Addr)(xs:List Value)(hn:n <=1000000)(w0:World)(hO:Own w0 Bl 71 1 (some ad) n c xs)(h1:∀u∈xs,u.oneCell'=true):C prog 100 #[.slice (some ad) n c] w0 fun v w=>∃a' c',v= .slice a' n c'/\Own w w0.heap.size 71 1 a' n c' xs/\Below w0.heap.size w0 w:=by
 refine C.enter (n:=8) func100 rfl rfl<|U2 ?_;intro hb;refine U105 ?_;refine U555 ?_;refine U34 ?_;refine L.Sn0 underlying195 no0 (fun w b5 F5=>?_);refine U41 ?_;intro lt5 hb;have hO:=hO.j0 F5.below;have K2:=F5.blk;refine L.va (dx0 rfl) ?_;have hO5:Own w w0.heap.size 71 1 (pt b5) 0 0 []:=Own.Fm0 K2 rfl lt5 (Nat.le_refl _) (Nat.zero_le _);refine L.dr0 (B:=w0.heap.size) (m:=n) rfl rfl underlying195 Tj0 rfl Ud hO5 Uz (news:=xs) hO.length (fun ad9 had j u hj=>Own.src hO (Nat.le_of_eq hO.length) (fun _ _ z=>z) ad9 had j u hj) h1 Uo Uo hb.size (fun a7 c7 w hl2 hg2 A1 hnn=>?_);have hb:=tz0 hb A1;refine U25 ?_;refine U15 ?_;refine⟨a7,c7,?_,?_,hb⟩
 ·show Value.slice a7 (0+n) c7=_;rw[Nat.zero_add]
 ·rw[Nat.zero_add]at hl2;exact hl2
theorem Gr0(w0:World):C prog 100 #[.slice none 0 0] w0 fun v w=>v= .slice none 0 0/\Below w0.heap.size w0 w:=by
 refine C.enter (n:=8) func100 rfl rfl<|U2 ?_;intro hb;refine U105 ?_;refine U555 ?_;refine U110 ?_;refine U0 ?_;refine U25 ?_;exact U56
theorem Gs0(Bl n c:Nat)(a:Option Addr)(xs:List Value)(hn:n <=1000000)(w0:World)(hO:Own w0 Bl 71 1 a n c xs)(h1:∀u∈xs,u.oneCell'=true):C prog 100 #[.slice a n c] w0 fun v w=>∃a' c',v= .slice a' n c'/\Own w w0.heap.size 71 1 a' n c' xs/\Below w0.heap.size w0 w:=by
 cases a with
 |some ad=>exact Gq0 Bl n c ad xs hn w0 hO h1
 |none=>
  obtain⟨rfl,rfl,rfl⟩:=Gn0 hO;exact(Gr0 w0).mono fun v w h=>⟨none,0,h.1,Own.nil _ _ _ _,h.2⟩
theorem gv1(b e kb:Nat)(cs S6:Array Value)(hc:0<cs.size)(hc':0<S6.size)(w0:World)(hB:I0 w0 b cs 127)(hB':I0 w0 e S6 127)(hK:I0 w0 kb #[.p e] 71):C prog 101 #[.p b,.p kb] w0 fun v w=>v= .bool (decide (b=e))/\w=w0:=by
 refine C.enter (n:=7) func101 rfl rfl<|U0 ?_;refine U8 ?_;refine U16 ?_;refine L.va (q0 rfl underlying71 rfl (hK.E0 0 (v:=.p e) rfl))<|L.va (tw0 rfl rfl underlying71 Tm0 rfl hB hB' hc hc')<|U8 ?_;exact U33
theorem lo1(Bl c kb e0:Nat)(a:Option Addr)(l:List Nat)(hl:l.length <=1000000000000)(he:e0∈l)(ky:Nat->ByteArray)(w0:World)(hO:Own w0 Bl 71 1 a l.length c (l.map ptr))(hE:bv0 w0 ky l)(hK:I0 w0 kb #[.p e0] 71):C prog 134 #[.slice a l.length c,.func (.func 101) #[] #[.p kb]] w0 fun v w'=>∃i,v= .i ((i:Nat):Int)/\l[i]? =some e0/\(∀j,j<i->∀b,l[j]? =some b->b≠e0)/\w'=w0:=by
 refine C.enter (n:=19) func134 rfl rfl<|U0 ?_;refine U17 ?_;refine U277 ?_;refine U22 ?_;refine W.loop (fun k e w=>∃(i:Nat),k=l.length-i/\e 0= .slice a l.length c/\e 1= .func (.func 101) #[] #[.p kb]/\e 7= .i (l.length:Nat)/\e 8= .i (i:Nat)/\i <=l.length/\(∀j,j<i->∀b,l[j]? =some b->b≠e0)/\w=w0) _ ⟨0,rfl,rfl,rfl,rfl,rfl,Nat.zero_le _,(fun j hj=>absurd hj (Nat.not_lt_zero _)),rfl⟩ ?_;rintro k e w ⟨i,hk,s0,s1,s7,s8,hi,hn,hw⟩;refine U541 ?_;subst hw;refine U12 ?_;refine W.m6 rfl (fun h9=>?_) (fun h9=>?_)
 ·have O1:i<l.length:=by omega
  obtain⟨b,hb9⟩:∃b,l[i]? =some b:=⟨_,List.getElem?_eq_getElem O1⟩
  refine U39 ?_;refine U92 ?_;refine U85 ?_;refine U300 ?_;refine L.va (q0 (v:=ptr b) rfl underlying71 rfl (by rw[hO.off,Nat.zero_add,Nat.mul_one];exact hO.cell (by rw[List.getElem?_map,hb9];rfl))) ?_;obtain⟨_,nm1,lt1,us1,S7⟩:=hE.all b (List.mem_of_getElem? hb9);obtain⟨_,nm2,lt2,us2,hE8⟩:=hE.all e0 he;refine L.call (tx0 rfl rfl func101 rfl fs1) (gv1 b e0 kb _ _ (by simp) (by simp) w S7 hE8 hK) ?_;rintro _ w9 ⟨rfl,hw9⟩;rw[hw9];clear hw9 w9 S7 hE8;refine U1 ?_;refine W.m6 rfl (fun h16=>?_) (fun h16=>?_)
  ·refine W.seq<|U136 ?_;refine U152 ?_;have hbe:b=e0:=h16;subst hbe;exact⟨i,rfl,hb9,hn,rfl⟩
  ·refine W.skip<|U124 ?_;refine U200 ?_;refine U30 ?_;exact⟨_,by omega,⟨i+1,rfl,rfl,rfl,rfl,rfl,O1,(fun j hj b2 hb2=>by
    rcases Nat.lt_succ_iff_lt_or_eq.1 hj with h|h
    ·exact hn j h b2 hb2
    ·rw[h,hb9]at hb2;cases hb2;exact h16),rfl⟩⟩
 ·refine W.exit<|U44 ?_;refine U152 ?_;exfalso;obtain⟨j,hj⟩:=List.getElem?_of_mem he;exact hn j (by have:=(List.getElem?_eq_some_iff.1 hj).1;omega) e0 hj rfl
omit [Ctx prog] in
theorem bv0.ut1{w w':World}{Bl:Nat}{TS:List TypeId}{ky:Nat->ByteArray}{l:List Nat}(h:bv0 w ky l)(hm:y5 w w' Bl TS)(hT:TS.contains 127=false):bv0 w' ky l:=
 ⟨fun b hl=>let⟨h1,nm,lt,us,h2⟩:=h.all b hl;⟨h1,nm,lt,us,h2.mod hm hT⟩⟩
omit [Ctx prog] in
theorem y5.refl(w:World)(Bl:Nat)(TS:List TypeId):y5 w w Bl TS:=⟨rfl,rfl,rfl,Nat.le_refl _,fun _ _=>rfl,fun _ _ _ h _=>h⟩
theorem uu1(Bl c kb e0:Nat)(a:Option Addr)(l:List Nat)(hl:l.length <=1000000000000)(he:e0∈l)(ky:Nat->ByteArray)(w0:World)(hO:Own w0 Bl 71 1 a l.length c (l.map ptr))(hE:bv0 w0 ky l)(hK:I0 w0 kb #[.p e0] 71)(hkb:kb<Bl)(H2:Bl <=w0.heap.size):C prog 99 #[.slice a l.length c,.func (.func 101) #[] #[.p kb]] w0 fun v w=>v= .slice a (wo l e0).length c/\Own w Bl 71 1 a (wo l e0).length c ((wo l e0).map ptr)/\y5 w0 w Bl [71]:=by
 refine C.enter (n:=42) func99 rfl rfl<|U0 ?_;refine U25 ?_;refine U23 ?_;refine L.va G5<|L.call (B2 rfl rfl func134 rfl sb1 rfl) (lo1 Bl c kb e0 a l hl he ky w0 hO hE hK) ?_;rintro _ w9 ⟨x0,rfl,hx,hxn,hw9⟩;refine U35 ?_;have hxl:=(List.getElem?_eq_some_iff.1 hx).1;refine U118 ?_;refine L.va (O8 (r:=false) (decide_eq_false Uo) (dy0 rfl rfl))<|U88 ?_;refine U20 ?_;refine L.va (fs0 rfl rfl Uo)<|U238 ?_;refine W.loop (fun k e w=>∃(p:Nat),∃(i:Nat),∃(g:Nat->Value),k=l.length-p/\e 0= .slice a l.length c/\e 1= .func (.func 101) #[] #[.p kb]/\e 5= .i (i:Nat)/\e 6= .i (p:Nat)/\p <=l.length/\Del l e0 p i g/\x0<p/\Own w Bl 71 1 a l.length c (lst g l.length)/\bv0 w ky l/\I0 w kb #[.p e0] 71/\y5 w0 w Bl [71]/\Bl <=w.heap.size) _ ⟨(x0+1),x0,(fun j=>ptr (l.getD j 0)),rfl,rfl,rfl,rfl,rfl,Uo,(Pk0 hx hxn),(Nat.lt_succ_self _),(cn1 l▸hO),hE,hK,(y5.refl _ _ _),H2⟩ ?_;rintro k e w ⟨p,i,g,hk,s0,s1,s5,s6,hp,hD,hx0,hO,hE,hK,hm,H2⟩;rw[L0 s0,L0 s1,L0 s5,L0 s6];clear s0 s1 s5 s6;refine U146 ?_;refine L.va (dx0 rfl)<|L.va (A7 rfl underlying195 rfl)<|U216 ?_;refine W.m6 rfl (fun h19=>?_) (fun h19=>?_)
 ·have O1:p<l.length:=by omega
  obtain⟨b,hb9⟩:∃b,l[p]? =some b:=⟨_,List.getElem?_eq_getElem O1⟩
  refine U39 ?_;refine U84 ?_;refine L.va (Q7 (i:=p) rfl rfl underlying195 no0 hO.sl O1)<|L.va (q0 (v:=ptr b) rfl underlying71 rfl (by rw[hO.at1 O1,hD.hi p b (Nat.le_refl _) hb9]))<|U73 ?_;refine U85 ?_;refine L.va (D3 rfl) ?_;obtain⟨_,nm1,lt1,us1,S7⟩:=hE.all b (List.mem_of_getElem? hb9);obtain⟨_,nm2,lt2,us2,hE8⟩:=hE.all e0 he;refine L.call (tx0 rfl rfl func101 rfl fs1) (gv1 b e0 kb _ _ (by simp) (by simp) w S7 hE8 hK) ?_;rintro _ w9 ⟨rfl,hw9⟩;rw[hw9];clear hw9 w9 S7 hE8;refine U342 ?_;refine W.cond rfl (fun h29=>?_) (fun h29=>?_)
  ·have h29:b≠e0:=by simpa using h29
   refine U84 ?_;refine L.va (D3 rfl)<|L.va (Q7 (i:=i) rfl rfl underlying195 no0 hO.sl (by have h8:=hD.i;have h9:=Bt0 (l.take p) e0;rw[List.length_take]at h9;omega)) ?_;have hip:i<l.length:=by have h8:=hD.i;have h9:=Bt0 (l.take p) e0;rw[List.length_take]at h9;omega
   refine L.Ft0 (i:=i) (v:=ptr b) rfl rfl no0 rfl hO hip (fun w1 hO2 hmd=>?_);have hE2:=hE.ut1 hmd rfl;have hK2:I0 w1 kb #[.p e0] 71:=by have h9:=hmd.low kb hkb;exact h9.trans hK
   have hm2:=hm.trans hmd;refine U79 ?_;refine U365 ?_;refine L.nil<|U133 ?_;refine U30 ?_;exact⟨_,by omega,⟨p+1,i+1,(upf g i (ptr b)),rfl,rfl,rfl,rfl,rfl,O1,(hD.put hb9 h29),(Nat.lt_succ_of_lt hx0),hO2,hE2,hK2,hm2,(Nat.le_trans H2 hmd.size)⟩⟩
  ·have h29:b=e0:=by simpa using h29
   refine W.skip<|U133 ?_;refine U30 ?_;exact⟨_,by omega,⟨p+1,i,g,rfl,rfl,rfl,rfl,rfl,O1,(hD.skip (by rw[hb9,h29])),(Nat.lt_succ_of_lt hx0),hO,hE,hK,hm,H2⟩⟩
 ·refine W.exit<|U143 ?_;refine U84 ?_;have hpe:p=l.length:=by omega
  have hD9:Del l e0 l.length i g:=hpe▸hD;have hiw:i=(wo l e0).length:=by have h9:=hD9.i;rw[List.take_length]at h9;exact h9
  have z8:i<l.length:=by have h8:=ur1 (q:=l.length) hx Uo (Nat.le_refl _);rw[List.take_length]at h8;omega
  have ha9:=hO.ir0 Uo;have y7:l.length <=c:=by obtain⟨_,_,_,h7,_⟩:=hO.row ha9;exact h7
  refine L.va (Gm0 rfl rfl underlying195 no0 (Nat.le_of_lt z8) y7 Uo)<|L.Wf0 (z:=.pointer none) rfl rfl underlying195 jn1 rfl rfl hO z8 (fun w1 hO2 hmd=>?_);have hm2:=hm.trans hmd;refine U1 ?_;refine U84 ?_;refine L.va (ol0 rfl rfl underlying195 no0 Uo)<|U25 ?_;refine U15 ?_;have h7:=(hO2.cut (Nat.le_of_lt z8) ha9)
  rw[hD9.done]at h7;rw[<- hiw];exact⟨rfl,h7,hm2⟩
end
section
variable{w:World}{B s n c:Nat}{E:TypeId}{a:Option Addr}{xs:List Value}
theorem ia0(h:Own w B E s a n c xs):∀x,a=some x->x=⟨x.block,0,none⟩:=fun x hx=>by
 rcases h.2 with⟨hv,_⟩|⟨g,cap,cur,hv,_⟩
 ·cases hv;cases hx
 ·cases hv;cases hx;rfl
theorem Wl0(h:Own w B E s a n c xs):Value.ownBlock (.slice a n c)=if a=none then none else some (ab a):=by
 have hc:=ia0 h;cases a with
 |none=>rfl
 |some x=>rw[hc x rfl];rfl
theorem ib0{w':World}{TS:List TypeId}(h:Own w B E s a n c xs)(hg:w.grownBy w' (Value.ownBlock (.slice a n c)))(hB:B <=w.heap.size)(hT:TS.contains E=true):y5 w w' B TS:=by
 rw[Wl0 h]at hg;split at hg
 ·refine⟨hg.os,hg.tape,hg.output,hg.size,fun k hk=>hg.block k Uo (fun e=>by cases e),fun b cs T hb _=>(hg.block b (S3 hb).lt (fun e=>by cases e)).trans hb⟩
 ·rename_i ha;obtain⟨cur,hc,hle,_⟩:=h.row ha;exact y5.put hc hg hle hT
end
def at_(ky:Nat->ByteArray)(n:Nat)(l:List Nat)(j:Nat):List Nat:=l.filter fun b=>decide (slot n (ky b)=j)
theorem Ka0(ky:Nat->ByteArray)(n:Nat)(l:List Nat)(b j:Nat):at_ ky n (l ++ [b]) j=if slot n (ky b)=j then at_ ky n l j ++ [b] else at_ ky n l j:=by
 unfold at_
 rw[List.filter_append];by_cases h:slot n (ky b)=j
 ·rw[if_pos h];simp[h]
 ·rw[if_neg h];simp[h]
theorem qi0(ky:Nat->ByteArray)(n:Nat)(l:List Nat)(j:Nat):(at_ ky n l j).length <=l.length:=List.length_filter_le ..
def fl(sl:Nat->List Nat)(u:Nat):List Nat:=(List.range u).flatMap sl
section
variable{sl:Nat->List Nat}{u:Nat}
theorem ce0(sl:Nat->List Nat)(u:Nat):fl sl (u+1)=fl sl u++sl u:=by
 unfold fl;rw[List.range_succ,List.flatMap_append];simp
theorem ua0{b:Nat}:b∈fl sl u↔∃j,j<u/\b∈sl j:=by
 unfold fl;simp
theorem Wm0{sl':Nat->List Nat}(h:∀j,j<u->sl j=sl' j):fl sl u=fl sl' u:=by
 unfold fl
 induction u with
 |zero=>rfl
 |succ u ih=>rw[List.range_succ,List.flatMap_append,List.flatMap_append,ih fun j hj=>h j Uo];simp[h u (Nat.lt_succ_self _)]
end
def qs(sl:Nat->List Nat)(n e:Nat)(j:Nat):List Nat:=if j<n then sl j else [e]
theorem ic0(sl:Nat->List Nat)(n e:Nat):fl (qs sl n e) (n+1)=fl sl n ++ [e]:=by
 rw[ce0,Wm0 (sl:=qs sl n e) (sl':=sl) (fun j hj=>by unfold qs;rw[if_pos hj])];unfold qs;rw[if_neg (Nat.lt_irrefl _)]
structure WB(w:World)(N n' ob:Nat)(sL:Nat->List Nat)(ja:Nat->Option Addr)(jc:Nat->Nat):Prop where
 out:I0 w ob (arr n' fun j=>.slice (ja j) (sL j).length (jc j)) 195
 inn:∀j,j<n'->Own w N 71 1 (ja j) (sL j).length (jc j) ((sL j).map ptr)
 inj:∀i j,i<n'->j<n'->i≠j->ja i≠none->ja j≠none->ab (ja i)≠ab (ja j)
section
variable{w w' w1:World}{N n' ob:Nat}{sL:Nat->List Nat}{ja:Nat->Option Addr}{jc:Nat->Nat}
theorem WB.j0(h:WB w N n' ob sL ja jc)(hb:Below w.heap.size w w'):WB w' N n' ob sL ja jc:=⟨h.out.j0 hb,fun j hj=>(h.inn j hj).j0 hb,h.inj⟩
theorem WB.start(h:I0 w ob (arr n' fun _=>.slice none 0 0) 195):WB w N n' ob (fun _=>[]) (fun _=>none) (fun _=>0):=⟨h,fun _ _=>Own.nil _ _ _ _,fun _ _ _ _ _ h=>absurd rfl h⟩
theorem WB.add{a':Option Addr}{c' i b:Nat}(h:WB w N n' ob sL ja jc)(hi:i<n')(hN:N <=w.heap.size)(hga:w.grownBy w1 (Value.ownBlock (.slice (ja i) (sL i).length (jc i))))(hwh:a'≠none->(ja i≠none/\ab a'=ab (ja i))\/w.heap.size <=ab a')
  (hO:Own w1 N 71 1 a' ((sL i).length+1) c' ((sL i).map ptr ++ [ptr b])) (G1:I0 w' ob (arr n' fun j=>.slice (P3 ja i a' j) (P3 sL i (sL i ++ [b]) j).length (P3 jc i c' j)) 195) (hg:w1.grownBy w' (some ob)) :
  WB w' N n' ob (P3 sL i (sL i ++ [b])) (P3 ja i a') (P3 jc i c')/\y5 w w1 N [71]:=by
 have hm1:y5 w w1 N [71]:=ib0 (h.inn i hi) hga hN rfl;have ub0:I0 w1 ob (arr n' fun j=>.slice (ja j) (sL j).length (jc j)) 195:=h.out.mod hm1 rfl;refine⟨⟨G1,fun j hj=>?_,fun x y hx hy hxy h1 h2=>?_⟩,hm1⟩
 ·by_cases e:j=i
  ·subst e;rw[I1,I1,I1,List.length_append,List.map_append];exact hO.H6 hg (Own.kq0 hO (S3 ub0) Ud)
  ·rw[B1 e,B1 e,B1 e];have h3:Own w1 N 71 1 (ja j) (sL j).length (jc j) ((sL j).map ptr):=Own.congr (h.inn j hj) fun ha=>hga.block _ ((h.inn j hj).lt ha) (by
    rw[Wl0 (h.inn i hi)];split
    ·exact fun z=>by cases z
    ·rename_i hi0;exact fun z=>h.inj j i hj hi e ha hi0 (Option.some.inj z))
   exact h3.H6 hg (Own.kq0 h3 (S3 ub0) Ud)
 ·have key:∀y,y<n'->y≠i->ja y≠none->a'≠none->ab a'≠ab (ja y):=fun y hy hyi hy0 ha'=>by
   rcases hwh ha' with⟨h3,h4⟩|h3
   ·rw[h4];exact h.inj i y hi hy (Ne.symm hyi) h3 hy0
   ·have:=(h.inn y hy).lt hy0;omega
  by_cases ex:x=i
  ·subst ex;rw[I1]at h1;rw[B1 (Ne.symm hxy)]at h2;rw[I1,B1 (Ne.symm hxy)];exact key y hy (Ne.symm hxy) h2 h1
  ·rw[B1 ex]at h1;by_cases ey:y=i
   ·subst ey;rw[I1]at h2;rw[I1,B1 ex];exact(key x hx ex h1 h2).symm
   ·rw[B1 ey]at h2;rw[B1 ex,B1 ey];exact h.inj x y hx hy hxy h1 h2
end
theorem Bk.mod{w w':World}{B N n c:Nat}{a:Option Addr}{sl:Nat->List Nat}{ia:Nat->Option Addr}{ic:Nat->Nat}{TS:List TypeId}(h:Bk w B n a c sl ia ic)(hm:y5 w w' N TS)(hT:(TS.contains 195 ||TS.contains 71)=false):Bk w' B n a c sl ia ic:=by
 simp only[Bool.or_eq_false_iff]at hT;exact⟨h.out.mod hm hT.1,fun j hj=>(h.inn j hj).mod hm hT.2⟩
theorem bv0.mod{w w':World}{Bl:Nat}{TS:List TypeId}{ky:Nat->ByteArray}{l:List Nat}(h:bv0 w ky l)(hm:y5 w w' Bl TS)(hT:TS.contains 127=false):bv0 w' ky l:=h.ut1 hm hT
theorem WB.bk{w:World}{N n' ob B:Nat}{sL:Nat->List Nat}{ja:Nat->Option Addr}{jc:Nat->Nat}(h:WB w N n' ob sL ja jc)(hB:B <=ob)(hN:B <=N)(hm:n' <=maxLen):Bk w B n' (pt ob) n' sL ja jc:=by
 refine⟨?_,fun j hj=>(h.inn j hj).down hN⟩;have h1:=Own.Fm0 (s:=1) (n:=n') h.out (by rw[I4];omega) hB (Nat.le_refl _) hm;have h2:(arr n' fun j=>Value.slice (ja j) (sL j).length (jc j)).toList.take (n'*1)=lst (fun j=>.slice (ja j) (sL j).length (jc j)) n':=by
  apply List.ext_getElem?;intro j;rw[List.getElem?_take,Nat.mul_one,Array.getElem?_toList];by_cases hj:j<n'
  ·rw[if_pos hj,fg0 hj,T6 hj]
  ·rw[if_neg hj,List.getElem?_eq_none (by rw[fh0];omega)]
 rw[h2]at h1;exact h1
section
variable[Ctx prog]
end
section
theorem Wn0(x0:Option Addr)(x1:Nat)(x2:Nat)(x3:Int)(x4:Int):prog.built 97 [(0,.slice x0 x1 x2),(1,.i x3),(2,.i x4)]=some #[.slice x0 x1 x2,.i x3,.i x4]:=by kernel_rfl
end
section
variable[Ctx prog]
section
variable{sl:Nat->List Nat}{ia:Nat->Option Addr}{ic:Nat->Nat}{n B:Nat}{u:Value}{l:List Nat}{w:World}
omit [Ctx prog] in
theorem nw0(h:u∈lst (fun j=>Value.slice (ia j) (sl j).length (ic j)) n):u.oneCell'=true:=by
 obtain⟨j,-,rfl⟩:=List.mem_map.1 h;rfl
omit [Ctx prog] in
theorem Na0(h:u∈l.map ptr):u.oneCell'=true:=by
 obtain⟨j,-,rfl⟩:=List.mem_map.1 h;rfl
omit [Ctx prog] in
theorem lg0{N:Nat}{w0 w':World}{TS:List TypeId}(h:Below B w0 w)(hm:y5 w w' N TS)(hN:B <=N):Below B w0 w':=
 tz0 h ⟨hm.os,hm.tape,hm.output,hm.size,fun k hk=>hm.low k Uo⟩
omit [Ctx prog] in
theorem uc0{c:Nat}{E:TypeId}{a:Option Addr}{xs:List Value}(h:Own w B E 1 a n c xs)(h0:0<n):∃a1,a=some ⟨a1,0,none⟩:=by
 have h1:=h.ir0 h0;cases a with
 |none=>exact absurd rfl h1
 |some x=>exact⟨x.block,congrArg some (ia0 h x rfl)⟩
omit [Ctx prog] in
theorem Wo0{c9 i c8:Nat}{a9 a8:Option Addr}(hC:Own w B 195 1 a9 n c9 (lst (upf (fun j=>Value.slice (ia j) (sl j).length (ic j)) i (.slice a8 l.length c8)) n)):Own w B 195 1 a9 n c9 (lst (fun j=>Value.slice (P3 ia i a8 j) (P3 sl i l j).length (P3 ic i c8 j)) n):=by
 rwa [oo0 (g:=fun j=>Value.slice (P3 ia i a8 j) (P3 sl i l j).length (P3 ic i c8 j))]at hC
 intro j _;unfold upf P3;by_cases e:j=i
 ·rw[if_pos e,if_pos e,if_pos e,if_pos e]
 ·rw[if_neg e,if_neg e,if_neg e,if_neg e]
theorem Pl0(ky:Nat->ByteArray)(Bl n c:Nat)(a:Option Addr)(ct md:Int)(sl:Nat->List Nat)(ia:Nat->Option Addr)(ic:Nat->Nat)(e:Nat)(h0:0<n)(hn:n <=1000000)(hsl:∀j,j<n->(sl j).length <=1000000)(w0:World)(_hBl:Bl <=w0.heap.size)(hB:Bk w0 Bl n a c sl ia ic)(hE:bv0 w0 ky (sl (slot n (ky e))))(he:e∈sl (slot n (ky e))):C prog 57 #[.agg #[.slice a n c,.i ct,.i md],.p e] w0 fun v w=>∃a1 c1 a2 c2,v= .agg #[.slice (pt a1) n c1,.i (IntKind.i64.wrap (ct-1)),.i md]/\Own w w0.heap.size 195 1 (pt a1) n c1 (lst (fun j=>.slice (P3 ia (slot n (ky e)) a2 j) (P3 sl (slot n (ky e)) (wo (sl (slot n (ky e))) e) j).length (P3 ic (slot n (ky e)) c2 j)) n)/\Own w w0.heap.size 71 1 a2 (wo (sl (slot n (ky e))) e).length c2 ((wo (sl (slot n (ky e))) e).map ptr)/\Below w0.heap.size w0 w:=by
 refine C.enter (n:=35) func57 rfl rfl ?_;have hb:Below w0.heap.size w0 w0:=Below.refl _ _;have hj:=nv0 h0 (ky e);have hB0:=hB;have hE0:=hE;obtain⟨hkz,nm,lt,us,S7⟩:=hE.all e he;have zv1:=hB.out.sl;refine U0 ?_;refine U323 ?_;intro w b2 F2 lt2 hb;have S7:=S7.j0 F2.below;have hB:=hB.j0 F2.below;have Y1:=F2.blk;refine L.box (cs:=#[.p e]) rfl rfl (fun w b3 F3=>?_);refine U145 ?_;intro lt3 hb;have S7:=S7.j0 F3.below;have hB:=hB.j0 F3.below;have Y1:=Y1.j0 F3.below;have o5:=F3.blk;refine U114 ?_;intro w b4 F4 lt4 hb;have S7:=S7.j0 F4.below;have hB:=hB.j0 F4.below;have Y1:=Y1.j0 F4.below;have o5:=o5.j0 F4.below;have L1:=F4.blk;refine U5 ?_;refine W.fl2 10 [2,9] 2 9 [0,1,3,4,5,6,7,2,8,9] [0,1,3,4,5,6,7,9,2,8] (fun w'=>I0 w' b2 #[.slice a n c,.i ct,.i md] 97) Uk Uk Uk Uk Uk Uk (Y1.j0 (Below.refl w.heap.size w).drew) ?_ ?_
 ·have G4:Below w.heap.size w w.drew:=(Below.refl w.heap.size w).drew;have hb:=B0 hb G4;have S7:=S7.j0 G4;refine U66 ?_;intro hB Y1;have o5:=o5.j0 G4;have L1:=L1.j0 G4;clear G4;generalize w.drew=w at *;refine U255 ?_;refine U422 ?_;refine U533 ?_;refine F.doo rfl rfl<|U450 ?_;intro Wp0;rintro _ w ⟨a9,c9,rfl,hC,A1⟩;have hb:=B0 hb A1;have S7:=S7.j0 A1;have hB:=hB.j0 A1;have Y1:=Y1.j0 A1;have o5:=o5.j0 A1;have L1:=L1.j0 A1;have hC:=hC.down Wp0;clear A1;refine L.nil ⟨rfl,Y1,?_⟩;refine F.va rfl rfl (fun w' W0=>(P2 (parts:=[(0,.tmp 9),(1,.tmp 12),(2,.tmp 14)]) rfl (Wn0 a9 n c9 (IntKind.i64.wrap (ct-1)) md)))<|F.doo rfl rfl<|U37 ?_;intro w b5 F5 lt5;have pa0:=F5.ne Y1;refine U43 ?_;intro n9 hb;have S7:=S7.j0 F5.below;have hB:=hB.j0 F5.below;have Y1:=Y1.j0 F5.below;have o5:=o5.j0 F5.below;have L1:=L1.j0 F5.below;have hC:=hC.j0 F5.below;have K2:=F5.blk;refine L.nil ⟨rfl,Y1,?_⟩;refine U487 ?_;intro w G1 hg H2;refine U104 ?_;intro o6 hb;have S7:=S7.mod o6 rfl;refine U295 ?_;intro hB Y1;have o5:=o5.mod o6 rfl;have L1:=L1.other hg n9;have hC:=hC.mod o6 rfl;have K2:=G1;clear o6;refine U262 ?_;refine U553 ?_;refine U419 ?_;refine U60 ?_;intro w L2 hb;have hB:=hB.j0 L2;refine U122 ?_;intro Y1 o5;have L1:=L1.j0 L2;have hC:=hC.j0 L2;have K2:=K2.j0 L2;refine U477 ?_;rintro _ w ⟨rfl,L2⟩;have hb:=B0 hb L2;have hB:=hB.j0 L2;refine U122 ?_;intro Y1 o5;have L1:=L1.j0 L2;have hC:=hC.j0 L2;have K2:=K2.j0 L2;refine U7 ?_;refine U372 ?_;refine U24 ?_;intro G4 hb;refine U66 ?_;intro hB Y1;have o5:=o5.j0 G4;have L1:=L1.j0 G4;have hC:=hC.j0 G4;have K2:=K2.j0 G4;clear G4;generalize w.drew=w at *;refine U413 ?_;refine U94 ?_;refine U432 ?_;refine U379 ?_;refine U287 ?_;have hk3:b3<w.heap.size:=(S3 o5).lt;have hN0:=hb.size;obtain⟨N,hN⟩:∃N,N=w.heap.size:=⟨_,rfl⟩
  rw[<- hN]at hk3 hN0;refine L.call (N2 rfl func100 rfl fr1 rfl) (Gs0 Bl (sl (slot n (ky e))).length _ _ _ (hsl _ hj) w (hB.inn _ hj) (fun u hu=>Na0 hu)) ?_;rintro _ w ⟨a8,c8,rfl,hD,A1⟩;have hN8:=A1.size;rw[<- hN]at hD hN8;have hb:=B0 hb A1;have hB:=hB.j0 A1;have Y1:=Y1.j0 A1;have o5:=o5.j0 A1;have L1:=L1.j0 A1;have hC:=hC.j0 A1;have K2:=K2.j0 A1;clear A1;refine L.nil ⟨rfl,⟨K2,Y1,hB⟩,?_⟩;refine U411 ?_;rintro _ w ⟨rfl,hD,hm⟩;have hb:=lg0 hb hm hN0;have Y1:=Y1.mod hm rfl;have L1:=L1.mod hm rfl;have hC:=hC.mod hm rfl;have K2:=K2.mod hm rfl;have hB:=hB0.j0 hb;have hN8:=Nat.le_trans hN8 hm.size;clear hm;refine L.nil ⟨rfl,⟨K2,Y1,hB⟩,?_⟩;refine U9 ?_;refine U435 ?_;intro w1 hC2 hmd;have hb:=lg0 hb hmd (Nat.le_refl _);have hD:=hD.mod hmd rfl;have L1:=L1.mod hmd rfl;have K2:=K2.mod hmd rfl;refine U6 ?_;refine U389 ?_;intro w G1 hg H2;refine U83 ?_;intro o6 hb;have hC2:=hC2.mod o6 rfl;have hD:=hD.mod o6 rfl;have L1:=G1;refine U111 ?_;refine U447 ?_;obtain⟨a1,rfl⟩:=uc0 hC2 h0;exact⟨a1,c9,a8,c8,rfl,Wo0 hC2,hD.down hN0,hb⟩
 ·have G4:Below w.heap.size w w.drew:=(Below.refl w.heap.size w).drew;have hb:=B0 hb G4;have S7:=S7.j0 G4;refine U66 ?_;intro hB Y1;have o5:=o5.j0 G4;have L1:=L1.j0 G4;clear G4;generalize w.drew=w at *;refine U255 ?_;refine U422 ?_;refine U533 ?_;refine F.doo rfl rfl<|U37 ?_;intro w b5 F5 lt5;have pa0:=F5.ne Y1;refine U43 ?_;intro n9 hb;have S7:=S7.j0 F5.below;have hB:=hB.j0 F5.below;have Y1:=Y1.j0 F5.below;have o5:=o5.j0 F5.below;have L1:=L1.j0 F5.below;have K2:=F5.blk;refine L.nil ⟨rfl,Y1,?_⟩;refine F.doo rfl rfl<|U450 ?_;intro Wp0;rintro _ w ⟨a9,c9,rfl,hC,A1⟩;have hb:=B0 hb A1;have S7:=S7.j0 A1;have hB:=hB.j0 A1;have Y1:=Y1.j0 A1;have o5:=o5.j0 A1;refine U157 ?_;intro L1 K2;have hC:=hC.down Wp0;clear A1;refine L.nil ⟨rfl,Y1,?_⟩;refine F.va rfl rfl (fun w' W0=>(P2 (parts:=[(0,.tmp 9),(1,.tmp 12),(2,.tmp 14)]) rfl (Wn0 a9 n c9 (IntKind.i64.wrap (ct-1)) md)))<|U487 ?_;intro w G1 hg H2;refine U104 ?_;intro o6 hb;have S7:=S7.mod o6 rfl;refine U295 ?_;intro hB Y1;have o5:=o5.mod o6 rfl;have L1:=L1.other hg n9;have hC:=hC.mod o6 rfl;have K2:=G1;clear o6;refine U262 ?_;refine U553 ?_;refine U419 ?_;refine U60 ?_;intro w L2 hb;have hB:=hB.j0 L2;refine U122 ?_;intro Y1 o5;refine U298 ?_;intro L1 K2;have hC:=hC.j0 L2;refine U477 ?_;rintro _ w ⟨rfl,L2⟩;have hb:=B0 hb L2;have hB:=hB.j0 L2;refine U122 ?_;intro Y1 o5;refine U298 ?_;intro L1 K2;have hC:=hC.j0 L2;refine U7 ?_;refine U372 ?_;refine U24 ?_;intro G4 hb;refine U66 ?_;intro hB Y1;have o5:=o5.j0 G4;refine U158 ?_;intro L1 K2;have hC:=hC.j0 G4;clear G4;generalize w.drew=w at *;refine U413 ?_;refine U94 ?_;refine U432 ?_;refine U379 ?_;refine U287 ?_;have hk3:b3<w.heap.size:=(S3 o5).lt;have hN0:=hb.size;obtain⟨N,hN⟩:∃N,N=w.heap.size:=⟨_,rfl⟩
  rw[<- hN]at hk3 hN0;refine L.call (N2 rfl func100 rfl fr1 rfl) (Gs0 Bl (sl (slot n (ky e))).length _ _ _ (hsl _ hj) w (hB.inn _ hj) (fun u hu=>Na0 hu)) ?_;rintro _ w ⟨a8,c8,rfl,hD,A1⟩;have hN8:=A1.size;rw[<- hN]at hD hN8;have hb:=B0 hb A1;have hB:=hB.j0 A1;have Y1:=Y1.j0 A1;have o5:=o5.j0 A1;refine U157 ?_;intro L1 K2;have hC:=hC.j0 A1;clear A1;refine L.nil ⟨rfl,⟨K2,Y1,hB⟩,?_⟩;refine U411 ?_;rintro _ w ⟨rfl,hD,hm⟩;have hb:=lg0 hb hm hN0;have Y1:=Y1.mod hm rfl;have L1:=L1.mod hm rfl;have K2:=K2.mod hm rfl;have hC:=hC.mod hm rfl;have hB:=hB0.j0 hb;have hN8:=Nat.le_trans hN8 hm.size;clear hm;refine L.nil ⟨rfl,⟨K2,Y1,hB⟩,?_⟩;refine U9 ?_;refine U435 ?_;intro w1 hC2 hmd;have hb:=lg0 hb hmd (Nat.le_refl _);have hD:=hD.mod hmd rfl;have L1:=L1.mod hmd rfl;have K2:=K2.mod hmd rfl;refine U6 ?_;refine U389 ?_;intro w G1 hg H2;refine U83 ?_;intro o6 hb;have hC2:=hC2.mod o6 rfl;have hD:=hD.mod o6 rfl;have L1:=G1;refine U111 ?_;refine U447 ?_;obtain⟨a1,rfl⟩:=uc0 hC2 h0;exact⟨a1,c9,a8,c8,rfl,Wo0 hC2,hD.down hN0,hb⟩
end
end
section
variable{n i:Nat}{f:Nat->Value}
theorem rd0(m:Nat)(v:Value):Array.replicate (m*1) v=arr m fun _=>v:=by
 rw[Nat.mul_one];apply Array.ext_getElem?;intro i;rw[Array.getElem?_replicate];by_cases h:i<m
 ·rw[if_pos h,T6 h]
 ·rw[if_neg h,Array.getElem?_eq_none (by rw[I4];omega)]
theorem nx0{g:Nat->Value}{v:Value}(hi:i<n)(hv:g i=v)(hg:∀j,j≠i->g j=f j):setRow (arr n f) (0+i*1) [v]=arr n g:=by
 have h1:=sg0 (N:=n) (o:=0+i*1) (m:=1) (F:=f) (g:=fun _=>v) Uo;have h2:(arr 1 fun _=>v).toList=[v]:=rfl;rw[h2]at h1;rw[h1];congr 1;funext j;by_cases e:j=i
 ·rw[if_pos Uo,e,hv]
 ·rw[if_neg Uo,hg j e]
theorem I0.Gt0{w:World}{b:Nat}{T:TypeId}(h:I0 w b (arr n f) T)(hi:i<n):w.cell? ⟨b,0+i*1,none⟩=some (f i):=by
 have h1:=I0.row (o:=i) (m:=1) h Uo 0 (f i) rfl
 rwa [show 0+i*1=i+0 by omega]
end
structure Kg(w1 w:World)(ob:Nat):Prop where
 os:w.os=w1.os
 tape:w.tape=w1.tape
 output:w.output=w1.output
 size:w1.heap.size <=w.heap.size
 block:∀k,k<w1.heap.size->k≠ob->w.heap[k]? =w1.heap[k]?
section
variable{w1 w w':World}{ob:Nat}
section
variable{cs:Array Value}{T:TypeId}
theorem Kg.refl(w1:World)(ob:Nat):Kg w1 w1 ob:=⟨rfl,rfl,rfl,Nat.le_refl _,fun _ _ _=>rfl⟩
theorem Kg.j0(h:Kg w1 w ob)(hb:Below w.heap.size w w'):Kg w1 w' ob:=⟨hb.os.trans h.os,hb.tape.trans h.tape,hb.output.trans h.output,Nat.le_trans h.size hb.size,fun k hk hn=>(hb.block k (Nat.lt_of_lt_of_le hk h.size)).trans (h.block k hk hn)⟩
theorem Kg.mod{TS:List TypeId}(h:Kg w1 w ob)(hm:y5 w w' w1.heap.size TS)(_:true=true):Kg w1 w' ob:=⟨hm.os.trans h.os,hm.tape.trans h.tape,hm.output.trans h.output,Nat.le_trans h.size hm.size,fun k hk hn=>(hm.low k hk).trans (h.block k hk hn)⟩
theorem Kg.other(h:Kg w1 w ob)(hg:w.grownBy w' (some ob)):Kg w1 w' ob:=⟨hg.os.trans h.os,hg.tape.trans h.tape,hg.output.trans h.output,Nat.le_trans h.size hg.size,fun k hk hn=>(hg.block k (Nat.lt_of_lt_of_le hk h.size) (fun z=>hn (Option.some.inj z))).trans (h.block k hk hn)⟩
theorem Kg.blk{b:Nat}(h:Kg w1 w ob)(hB:I0 w1 b cs T)(hn:b≠ob):I0 w b cs T:=(h.block b (S3 hB).lt hn).trans hB
theorem Kg.own{B s n c:Nat}{E:TypeId}{a:Option Addr}{xs:List Value}(h:Kg w1 w ob)(hO:Own w1 B E s a n c xs)(hn:a≠none->ab a≠ob):Own w B E s a n c xs:=Own.congr hO fun ha=>h.block _ (hO.lt ha) (hn ha)
theorem Kg.Dw0{ky:Nat->ByteArray}{l:List Nat}(h:Kg w1 w ob)(hE:bv0 w1 ky l)(hB:I0 w1 ob cs T)(hT:T≠127):bv0 w ky l:=
 ⟨fun b hl=>let⟨h1,nm,lt,us,h2⟩:=hE.all b hl;⟨h1,nm,lt,us,h.blk h2 (I0.ne h2 hB hT.symm)⟩⟩
end
end
structure Bd(N:Nat)(w:World):Prop where
 h:N <=w.heap.size
section
variable{N:Nat}{w w':World}
theorem Bd.j0(h:Bd N w)(hb:Below w.heap.size w w'):Bd N w':=⟨Nat.le_trans h.h hb.size⟩
theorem Bd.mod{B:Nat}{TS:List TypeId}(h:Bd N w)(hm:y5 w w' B TS)(_:true=true):Bd N w':=⟨Nat.le_trans h.h hm.size⟩
theorem WB.mod{w w':World}{N n' ob B:Nat}{sL:Nat->List Nat}{ja:Nat->Option Addr}{jc:Nat->Nat}{TS:List TypeId}(h:WB w N n' ob sL ja jc)(hm:y5 w w' B TS)(hT:(TS.contains 195 ||TS.contains 71)=false):WB w' N n' ob sL ja jc:=by
 simp only[Bool.or_eq_false_iff]at hT;exact⟨h.out.mod hm hT.1,fun j hj=>(h.inn j hj).mod hm hT.2,h.inj⟩
end
def wn(n k:Nat):Nat:=if 4*n<k+1 then 2*n else n
def flv(q:Nat->List Nat)(u v:Nat):List Nat:=fl q u++(q u).take v
section
variable{q sl:Nat->List Nat}{u v b m N n' ob n e:Nat}{ky:Nat->ByteArray}{ja ia:Nat->Option Addr}{jc ic:Nat->Nat}{w:World}
theorem Gu0(q:Nat->List Nat)(u:Nat):flv q u 0=fl q u:=by simp[flv]
theorem Wq0(h:(q u)[v]? =some b):flv q u (v+1)=flv q u v ++ [b]:=by
 obtain⟨h1,h2⟩:=List.getElem?_eq_some_iff.1 h;unfold flv;rw[List.take_succ_eq_append_getElem h1,h2,List.append_assoc]
theorem co1(q:Nat->List Nat)(u:Nat):flv q u (q u).length=fl q (u+1):=by rw[ce0,flv,List.take_length]
theorem ny0(q:Nat->List Nat)(h:u <=m):(fl q u).length <=(fl q m).length:=by
 induction m with
 |zero=>rw[Nat.le_zero.1 h];exact Nat.le_refl _
 |succ m ih=>
  rcases Nat.lt_or_eq_of_le h with h1|h1
  ·rw[ce0,List.length_append];have:=ih Uo;omega
  ·rw[h1];exact Nat.le_refl _
theorem Dx0(q:Nat->List Nat)(h:u<m):(flv q u v).length <=(fl q m).length:=by
 have h1:=ny0 q (u:=u+1) (m:=m) h;rw[ce0,List.length_append]at h1;unfold flv;rw[List.length_append,List.length_take];omega
theorem lp1(ky:Nat->ByteArray)(n:Nat)(l:List Nat)(b:Nat):at_ ky n (l ++ [b])=P3 (at_ ky n l) (slot n (ky b)) (at_ ky n l (slot n (ky b)) ++ [b]):=by
 funext j;rw[Ka0];by_cases e:slot n (ky b)=j
 ·subst e;rw[if_pos rfl,I1]
 ·rw[if_neg e,B1 (Ne.symm e)]
theorem WB.next{w':World}{c':Nat}{a':Option Addr}(hb:(q u)[v]? =some b)(h:WB w' N n' ob (P3 (at_ ky n' (flv q u v)) (slot n' (ky b)) (at_ ky n' (flv q u v) (slot n' (ky b)) ++ [b])) (P3 ja (slot n' (ky b)) a') (P3 jc (slot n' (ky b)) c')):WB w' N n' ob (at_ ky n' (flv q u (v+1))) (P3 ja (slot n' (ky b)) a') (P3 jc (slot n' (ky b)) c'):=by
 rw[Wq0 hb,lp1];exact h
theorem WB.round(h:WB w N n' ob (at_ ky n' (flv q u v)) ja jc)(hv:v=(q u).length):WB w N n' ob (at_ ky n' (fl q (u+1))) ja jc:=by
 rw[<- co1,<- hv];exact h
theorem Wr0(h:n <=1000000):n <=maxLen:=Nat.le_trans h Ud
theorem lq1{cL:Nat}{aL:Option Addr}(hL:Own w N 195 1 aL (n+1) cL (lst (fun j=>.slice (ia j) (sl j).length (ic j)) n ++ [.slice (pt b) 1 1])):Own w N 195 1 aL (n+1) cL (lst (fun j=>.slice (P3 ia n (pt b) j) (qs sl n e j).length (P3 ic n 1 j)) (n+1)):=by
 rw[aj1]at hL
 rwa [oo0 (g:=fun j=>Value.slice (P3 ia n (pt b) j) (qs sl n e j).length (P3 ic n 1 j))]at hL
 intro j hj;unfold upf P3 qs;by_cases h:j=n
 ·rw[if_pos h,if_pos h,if_pos h,if_neg Uo];rfl
 ·rw[if_neg h,if_neg h,if_neg h,if_pos Uo]
theorem lr1{Bl:Nat}(hI:∀j,j<n->Own w Bl 71 1 (ia j) (sl j).length (ic j) ((sl j).map ptr))(hB:I0 w b #[ptr e] 71)(hb:Bl <=b) :
  ∀j,j<n+1->Own w Bl 71 1 (P3 ia n (pt b) j) (qs sl n e j).length (P3 ic n 1 j) ((qs sl n e j).map ptr):=fun j hj=>by
 by_cases h:j=n
 ·subst h;rw[I1,I1];unfold qs;rw[if_neg (Nat.lt_irrefl _)];exact Own.Fm0 hB rfl hb (Nat.le_refl _) Ud
 ·rw[B1 h,B1 h];unfold qs;rw[if_pos Uo];exact hI j Uo
end
theorem uv1{n:Nat}(h:n <=1000000):IntKind.i64.wrap (4*(n:Int))=((4*n:Nat):Int):=by rw[IntKind.wrap_i64];omega
theorem uw1{n:Nat}(h:n <=1000000):IntKind.i64.wrap (2*(n:Int))=((2*n:Nat):Int):=by rw[IntKind.wrap_i64];omega
section
variable[Ctx prog]
end
section
theorem Ws0(x0:Option Addr)(x1:Nat)(x2:Nat)(x3:Int)(x4:Int):prog.built 97 [(0,.slice x0 x1 x2),(1,.i x3),(2,.i x4)]=some #[.slice x0 x1 x2,.i x3,.i x4]:=by kernel_rfl
end
section
variable[Ctx prog]
theorem ls1(ky:Nat->ByteArray)(Bl n c kc:Nat)(a:Option Addr)(md:Int)(sl:Nat->List Nat)(ia:Nat->Option Addr)(ic:Nat->Nat)(en:Nat)(h0:0<n)(hn:n <=400000)(hkc:kc <=900000)(hfl:(fl sl n).length <=900000)(hq:¬4*n<kc+1)(w0:World)(hBl:Bl <=w0.heap.size)(hB:Bk w0 Bl n a c sl ia ic)(hE:bv0 w0 ky (fl sl n ++ [en])):C prog 106 #[.agg #[.slice a n c,.i (kc:Int),.i md],.p en] w0 fun v w=>∃a1 c1 ia1 ic1,v= .agg #[.slice a1 n c1,.i ((kc:Int)+1),.i (IntKind.i64.wrap (md+1))]/\Bk w w0.heap.size n a1 c1 (at_ ky n (fl sl n ++ [en])) ia1 ic1/\Below w0.heap.size w0 w:=by
 refine C.enter (n:=74) func106 rfl rfl ?_;have hb:Below w0.heap.size w0 w0:=Below.refl _ _;have hB0:=hB;have hE0:=hE;refine U0 ?_;refine L.box (cs:=#[.slice a n c,.i (kc:Int),.i md]) rfl rfl (fun w b2 F2=>?_);refine U21 ?_;intro lt2 hb;have hB:=hB.j0 F2.below;have Y1:=F2.blk;refine U114 ?_;intro w b4 F4 lt4 hb;have hB:=hB.j0 F4.below;have Y1:=Y1.j0 F4.below;have L1:=F4.blk;refine U5 ?_;refine W.fl2 12 [3,11] 3 11 [0,1,2,4,5,6,7,8,9,3,10,11] [0,1,2,4,5,6,7,8,9,11,3,10] (fun w'=>I0 w' b2 #[.slice a n c,.i (kc:Int),.i md] 97) Uk Uk Uk Uk Uk Uk (Y1.j0 (Below.refl w.heap.size w).drew) ?_ ?_
 ·have G4:Below w.heap.size w w.drew:=(Below.refl w.heap.size w).drew;have hb:=B0 hb G4;refine U66 ?_;intro hB Y1;have L1:=L1.j0 G4;clear G4;generalize w.drew=w at *;refine U190 ?_;refine U171 ?_;refine U196 ?_;refine U181 ?_;intro w b14 F14;have Wt0:=F14.lq hb.size;refine U230 ?_;intro hb hB;refine U233 ?_;intro Y1 L1;have Dy0:=F14.blk;have hob:I0 w b14 (arr n fun _=>.slice none 0 0) 195:=by have h9:=Dy0;rw[rd0]at h9;exact h9
  clear Dy0;refine L.nil ⟨rfl,Y1,?_⟩;refine U410 ?_;refine U37 ?_;intro w b5 F5 lt5;have pa0:=F5.ne Y1;refine U43 ?_;intro n9 hb;have hB:=hB.j0 F5.below;refine U86 ?_;intro Y1 L1;have hob:=hob.j0 F5.below;have K2:=F5.blk;refine L.nil ⟨rfl,Y1,?_⟩;refine U9 ?_;refine U173 ?_;intro w G1 hg H2 o6;refine U236 ?_;intro hb hB Y1 L1;have hob:=hob.mod o6 rfl;have K2:=G1;refine U121 ?_;refine U176 ?_;refine U175 ?_;refine U499 ?_;refine U88 ?_;refine U0 ?_;refine U128 ?_;obtain⟨N7,hN7⟩:∃N7,N7=w.heap.size:=⟨_,rfl⟩
  have Kb0:b14<N7:=hN7▸(S3 hob).lt;have h07:w0.heap.size <=N7:=hN7▸hb.size;refine L.call (N2 rfl func98 rfl Tr0 rfl) (kr0 Bl n c a (lst (fun j=>.slice (ia j) (sl j).length (ic j)) n) Uo w hB.out (fun u hu=>nw0 hu)) ?_;rintro _ w ⟨a7,c7,rfl,hC,A1⟩;have h7:Bd N7 w:=⟨hN7▸A1.size⟩
  rw[<- hN7]at hC;have hb:=B0 hb A1;have L1:=L1.j0 A1;have hob:=hob.j0 A1;have K2:=K2.j0 A1;clear A1 hN7;refine U182 ?_;intro w b39 F39;have cp1:=F39.lq hb.size;refine U228 ?_;intro hb L1;have hob:=hob.j0 F39.below;have K2:=K2.j0 F39.below;refine U237 ?_;intro hC h7;have jc0:=F39.blk;refine U179 ?_;intro w b40 F40 Kc0;refine U229 ?_;intro hb L1;have hob:=hob.j0 F40.below;have K2:=K2.j0 F40.below;have hC:=hC.j0 F40.below;refine U234 ?_;intro h7 jc0;have pb0:=F40.blk;refine L.append (B:=N7) (m:=1) rfl rfl underlying95 qb0 rfl Ud hC (news:=[.slice (pt b39) 1 1]) rfl (fun j z hj=>by
   rw[Addr.add_lit]
   match j,hj with
   |0,hj=>cases hj;exact pb0.E0 0 rfl) (fun z hz=>by simp only[List.mem_cons,List.not_mem_nil,or_false]at hz;subst hz;rfl) Uo Uo h7.h (fun a41 c41 w hL hg A1 hnn=>?_)
  have hmA:=ib0 hC hg h7.h (TS:=[195]) rfl;have Kd0:=(A1.block b14 Kb0).trans hob;refine U59 ?_;intro L1 K2;have h7:=h7.mod hmA rfl;have jc0:=jc0.mod hmA rfl;have hob:I0 w b14 (arr n fun _=>.slice none 0 0) 195:=Kd0;refine U247 ?_;intro hb hL;refine U206 ?_;obtain⟨w1,hw1⟩:∃w1,w1=w:=⟨_,rfl⟩
  subst hw1;have hL1:=hL;have ub0:=hob;have Ke0:w0.heap.size <=b14:=Wt0;refine U551 ?_;intro hX1 hE1 Gv0;refine U202 ?_;intro Pm0 Wu0;have Pn0:=hb.size;have hN1:Bl <=w1.heap.size:=Nat.le_trans hBl hb.size;refine W.loop (fun k e w=>∃(u:Nat),∃(ja:Nat->Option Addr),∃(jc:Nat->Nat),k=n+1-u/\e 4= .p b4/\e 5= .p b5/\e 41= .slice a41 (n+1) c41/\e 42= .i ((n+1:Nat):Int)/\e 43= .i (u:Nat)/\u <=n+1/\Below w0.heap.size w0 w/\I0 w b4 #[.slice none 0 0,.i 0,.i 0] 97/\I0 w b5 #[.slice (pt b14) n n,.i ((kc:Int)+1),.i (IntKind.i64.wrap (md+1))] 97/\Kg w1 w b14/\WB w w1.heap.size n b14 (at_ ky n (fl (qs sl n en) u)) ja jc) _ ⟨0,(fun _=>none),(fun _=>0),rfl,rfl,rfl,rfl,rfl,rfl,Nat.zero_le _,hb,L1,K2,Kg.refl _ _,WB.start hob⟩ ?_;rintro k e w ⟨u,ja,jc,hk,s4,s5,s41,s42,s43,hu,hb,L1,K2,hK,hW⟩;refine U189 ?_;refine U12 ?_;refine W.m6 rfl (fun h44=>?_) (fun h44=>?_)
  ·have O1:u<n+1:=by omega
   have hxl:(qs sl n en u).length <=1000000:=by have h7:=ny0 (qs sl n en) (u:=u+1) (m:=n+1) O1;rw[ce0,List.length_append,ic0,List.length_append,List.length_singleton]at h7;omega
   refine U251 ?_;refine U357 ?_;rintro k e w ⟨v,ja,jc,hk,s4,s5,s41,s42,s43,s47,s48,s49,hv,hb,L1,K2,hK,hW⟩;refine U250 ?_;refine W.m6 rfl (fun h50=>?_) (fun h50=>?_)
   ·have hlv:v<(qs sl n en u).length:=by omega
    obtain⟨b,hb9⟩:∃b,(qs sl n en u)[v]? =some b:=⟨_,List.getElem?_eq_getElem hlv⟩
    refine U58 ?_;refine U180 ?_;intro hO9;refine L.va (q0 (v:=ptr b) rfl underlying71 rfl (by rw[hO9.off,Nat.zero_add,Nat.mul_one];exact hO9.cell (by rw[List.getElem?_map,hb9];rfl))) ?_;clear hO9;obtain⟨hkz,nm,lt,us,S7⟩:=(hK.Dw0 hE1 ub0 Ud).all b (ua0.2 ⟨u,O1,List.mem_of_getElem? hb9⟩);have hoc:=hW.out;refine U217 ?_;refine U408 ?_;refine U170 ?_;refine U60 ?_;intro w L2 hb;refine U62 ?_;intro L1 K2 hK hW hoc;refine U436 ?_;rintro _ w ⟨rfl,L2⟩;have hb:=B0 hb L2;refine U62 ?_;intro L1 K2 hK hW hoc;refine U7 ?_;refine U374 ?_;intro hi;refine U24 ?_;intro G4 hb;refine U158 ?_;intro L1 K2;have hK:=hK.j0 G4;have hW:=hW.j0 G4;have hoc:=hoc.j0 G4;clear G4;generalize w.drew=w at *;refine U406 ?_;refine U94 ?_;refine U426 ?_;refine U377 ?_;refine U98 ?_;refine U186 ?_;intro w b68 F68 Wv0;refine U223 ?_;intro hb L1;refine U231 ?_;intro K2 hK;refine U232 ?_;intro hW hoc;have Kf0:=F68.blk;refine L.nil ⟨rfl,⟨K2,hoc⟩,?_⟩;refine F.doo rfl rfl ?_;have hNo:=hK.size;have hWo:=hW;have Ww0:(at_ ky n (flv (qs sl n en) u v) (slot n (ky b))).length <=1000000:=by have h8:=qi0 ky n (flv (qs sl n en) u v) (slot n (ky b));have h7:=Dx0 (qs sl n en) (v:=v) O1;rw[ic0,List.length_append,List.length_singleton]at h7;omega
    refine L.ja0 (B:=w1.heap.size) (m:=1) rfl rfl underlying195 Tj0 rfl Ud (hW.inn _ hi) (news:=[ptr b]) rfl (fun j z hj=>by
     rw[Addr.add_lit]
     match j,hj with
     |0,hj=>cases hj;exact Kf0.E0 0 rfl) (fun z hz=>by simp only[List.mem_cons,List.not_mem_nil,or_false]at hz;subst hz;rfl) Uo Uo hNo (fun a69 c69 w Kg0 hga hwh=>?_)
    refine U201 ?_;intro hmA hb;refine U59 ?_;intro L1 K2;refine U246 ?_;intro hK hoc;refine L.nil ⟨rfl,⟨K2,hoc⟩,?_⟩;refine U9 ?_;refine U362 ?_;intro w G1 hg H2;obtain⟨hW2,-⟩:=WB.add hWo hi hNo hga hwh Kg0 G1 hg;refine U218 ?_;intro o6 hb;have hK:=hK.other hg;have L1:=L1.mod o6 rfl;refine U241 ?_;intro K2 hW;refine U213 ?_;exact U429
   ·exact W.exit<|U243
  ·refine W.exit<|U44 ?_;have hun:u=n+1:=by omega
   subst hun;rw[ic0]at hW;refine U380 ?_;intro w G1 hg H2;refine U83 ?_;intro o6 hb;have hW:=hW.mod o6 rfl;have L1:=G1;refine U151 ?_;exact U398
 ·have G4:Below w.heap.size w w.drew:=(Below.refl w.heap.size w).drew;have hb:=B0 hb G4;refine U66 ?_;intro hB Y1;have L1:=L1.j0 G4;clear G4;generalize w.drew=w at *;refine U190 ?_;refine U171 ?_;refine U196 ?_;refine F.doo rfl rfl<|U37 ?_;intro w b5 F5 lt5;have pa0:=F5.ne Y1;refine U43 ?_;intro n9 hb;have hB:=hB.j0 F5.below;refine U86 ?_;intro Y1 L1;have K2:=F5.blk;refine L.nil ⟨rfl,Y1,?_⟩;refine U181 ?_;intro w b14 F14;have Wt0:=F14.lq hb.size;refine U230 ?_;intro hb hB;refine U233 ?_;intro Y1 L1;have K2:=K2.j0 F14.below;have Dy0:=F14.blk;have hob:I0 w b14 (arr n fun _=>.slice none 0 0) 195:=by have h9:=Dy0;rw[rd0]at h9;exact h9
  clear Dy0;refine L.nil ⟨rfl,Y1,?_⟩;refine U420 ?_;refine U173 ?_;intro w G1 hg H2 o6;refine U236 ?_;intro hb hB Y1 L1;have hob:=hob.mod o6 rfl;have K2:=G1;refine U121 ?_;refine U176 ?_;refine U175 ?_;refine U499 ?_;refine U88 ?_;refine U0 ?_;refine U128 ?_;obtain⟨N7,hN7⟩:∃N7,N7=w.heap.size:=⟨_,rfl⟩
  have Kb0:b14<N7:=hN7▸(S3 hob).lt;have h07:w0.heap.size <=N7:=hN7▸hb.size;refine L.call (N2 rfl func98 rfl Tr0 rfl) (kr0 Bl n c a (lst (fun j=>.slice (ia j) (sl j).length (ic j)) n) Uo w hB.out (fun u hu=>nw0 hu)) ?_;rintro _ w ⟨a7,c7,rfl,hC,A1⟩;have h7:Bd N7 w:=⟨hN7▸A1.size⟩
  rw[<- hN7]at hC;have hb:=B0 hb A1;refine U157 ?_;intro L1 K2;have hob:=hob.j0 A1;clear A1 hN7;refine U182 ?_;intro w b39 F39;have cp1:=F39.lq hb.size;refine U228 ?_;intro hb L1;have K2:=K2.j0 F39.below;have hob:=hob.j0 F39.below;refine U237 ?_;intro hC h7;have jc0:=F39.blk;refine U179 ?_;intro w b40 F40 Kc0;refine U229 ?_;intro hb L1;have K2:=K2.j0 F40.below;have hob:=hob.j0 F40.below;have hC:=hC.j0 F40.below;refine U234 ?_;intro h7 jc0;have pb0:=F40.blk;refine L.append (B:=N7) (m:=1) rfl rfl underlying95 qb0 rfl Ud hC (news:=[.slice (pt b39) 1 1]) rfl (fun j z hj=>by
   rw[Addr.add_lit]
   match j,hj with
   |0,hj=>cases hj;exact pb0.E0 0 rfl) (fun z hz=>by simp only[List.mem_cons,List.not_mem_nil,or_false]at hz;subst hz;rfl) Uo Uo h7.h (fun a41 c41 w hL hg A1 hnn=>?_)
  have hmA:=ib0 hC hg h7.h (TS:=[195]) rfl;have Kd0:=(A1.block b14 Kb0).trans hob;refine U59 ?_;intro L1 K2;have h7:=h7.mod hmA rfl;have jc0:=jc0.mod hmA rfl;have hob:I0 w b14 (arr n fun _=>.slice none 0 0) 195:=Kd0;refine U247 ?_;intro hb hL;refine U206 ?_;obtain⟨w1,hw1⟩:∃w1,w1=w:=⟨_,rfl⟩
  subst hw1;have hL1:=hL;have ub0:=hob;have Ke0:w0.heap.size <=b14:=Wt0;refine U551 ?_;intro hX1 hE1 Gv0;refine U202 ?_;intro Pm0 Wu0;have Pn0:=hb.size;have hN1:Bl <=w1.heap.size:=Nat.le_trans hBl hb.size;refine W.loop (fun k e w=>∃(u:Nat),∃(ja:Nat->Option Addr),∃(jc:Nat->Nat),k=n+1-u/\e 4= .p b4/\e 5= .p b5/\e 41= .slice a41 (n+1) c41/\e 42= .i ((n+1:Nat):Int)/\e 43= .i (u:Nat)/\u <=n+1/\Below w0.heap.size w0 w/\I0 w b4 #[.slice none 0 0,.i 0,.i 0] 97/\I0 w b5 #[.slice (pt b14) n n,.i ((kc:Int)+1),.i (IntKind.i64.wrap (md+1))] 97/\Kg w1 w b14/\WB w w1.heap.size n b14 (at_ ky n (fl (qs sl n en) u)) ja jc) _ ⟨0,(fun _=>none),(fun _=>0),rfl,rfl,rfl,rfl,rfl,rfl,Nat.zero_le _,hb,L1,K2,Kg.refl _ _,WB.start hob⟩ ?_;rintro k e w ⟨u,ja,jc,hk,s4,s5,s41,s42,s43,hu,hb,L1,K2,hK,hW⟩;refine U189 ?_;refine U12 ?_;refine W.m6 rfl (fun h44=>?_) (fun h44=>?_)
  ·have O1:u<n+1:=by omega
   have hxl:(qs sl n en u).length <=1000000:=by have h7:=ny0 (qs sl n en) (u:=u+1) (m:=n+1) O1;rw[ce0,List.length_append,ic0,List.length_append,List.length_singleton]at h7;omega
   refine U251 ?_;refine U357 ?_;rintro k e w ⟨v,ja,jc,hk,s4,s5,s41,s42,s43,s47,s48,s49,hv,hb,L1,K2,hK,hW⟩;refine U250 ?_;refine W.m6 rfl (fun h50=>?_) (fun h50=>?_)
   ·have hlv:v<(qs sl n en u).length:=by omega
    obtain⟨b,hb9⟩:∃b,(qs sl n en u)[v]? =some b:=⟨_,List.getElem?_eq_getElem hlv⟩
    refine U58 ?_;refine U180 ?_;intro hO9;refine L.va (q0 (v:=ptr b) rfl underlying71 rfl (by rw[hO9.off,Nat.zero_add,Nat.mul_one];exact hO9.cell (by rw[List.getElem?_map,hb9];rfl))) ?_;clear hO9;obtain⟨hkz,nm,lt,us,S7⟩:=(hK.Dw0 hE1 ub0 Ud).all b (ua0.2 ⟨u,O1,List.mem_of_getElem? hb9⟩);have hoc:=hW.out;refine U217 ?_;refine U408 ?_;refine U170 ?_;refine U60 ?_;intro w L2 hb;refine U62 ?_;intro L1 K2 hK hW hoc;refine U436 ?_;rintro _ w ⟨rfl,L2⟩;have hb:=B0 hb L2;refine U62 ?_;intro L1 K2 hK hW hoc;refine U7 ?_;refine U374 ?_;intro hi;refine U24 ?_;intro G4 hb;refine U158 ?_;intro L1 K2;have hK:=hK.j0 G4;have hW:=hW.j0 G4;have hoc:=hoc.j0 G4;clear G4;generalize w.drew=w at *;refine U406 ?_;refine U94 ?_;refine U426 ?_;refine U377 ?_;refine U98 ?_;refine U186 ?_;intro w b68 F68 Wv0;refine U223 ?_;intro hb L1;refine U231 ?_;intro K2 hK;refine U232 ?_;intro hW hoc;have Kf0:=F68.blk;refine L.nil ⟨rfl,⟨K2,hoc⟩,?_⟩;refine F.doo rfl rfl ?_;have hNo:=hK.size;have hWo:=hW;have Ww0:(at_ ky n (flv (qs sl n en) u v) (slot n (ky b))).length <=1000000:=by have h8:=qi0 ky n (flv (qs sl n en) u v) (slot n (ky b));have h7:=Dx0 (qs sl n en) (v:=v) O1;rw[ic0,List.length_append,List.length_singleton]at h7;omega
    refine L.ja0 (B:=w1.heap.size) (m:=1) rfl rfl underlying195 Tj0 rfl Ud (hW.inn _ hi) (news:=[ptr b]) rfl (fun j z hj=>by
     rw[Addr.add_lit]
     match j,hj with
     |0,hj=>cases hj;exact Kf0.E0 0 rfl) (fun z hz=>by simp only[List.mem_cons,List.not_mem_nil,or_false]at hz;subst hz;rfl) Uo Uo hNo (fun a69 c69 w Kg0 hga hwh=>?_)
    refine U201 ?_;intro hmA hb;refine U59 ?_;intro L1 K2;refine U246 ?_;intro hK hoc;refine L.nil ⟨rfl,⟨K2,hoc⟩,?_⟩;refine U9 ?_;refine U362 ?_;intro w G1 hg H2;obtain⟨hW2,-⟩:=WB.add hWo hi hNo hga hwh Kg0 G1 hg;refine U218 ?_;intro o6 hb;have hK:=hK.other hg;have L1:=L1.mod o6 rfl;refine U241 ?_;intro K2 hW;refine U213 ?_;exact U429
   ·exact W.exit<|U243
  ·refine W.exit<|U44 ?_;have hun:u=n+1:=by omega
   subst hun;rw[ic0]at hW;refine U380 ?_;intro w G1 hg H2;refine U83 ?_;intro o6 hb;have hW:=hW.mod o6 rfl;have L1:=G1;refine U151 ?_;exact U398
theorem lu1(ky:Nat->ByteArray)(Bl n c kc:Nat)(a:Option Addr)(md:Int)(sl:Nat->List Nat)(ia:Nat->Option Addr)(ic:Nat->Nat)(en:Nat)(h0:0<n)(hn:n <=400000)(hkc:kc <=900000)(hfl:(fl sl n).length <=900000)(hq:4*n<kc+1)(w0:World)(hBl:Bl <=w0.heap.size)(hB:Bk w0 Bl n a c sl ia ic)(hE:bv0 w0 ky (fl sl n ++ [en])):C prog 106 #[.agg #[.slice a n c,.i (kc:Int),.i md],.p en] w0 fun v w=>∃a1 c1 ia1 ic1,v= .agg #[.slice a1 (2*n) c1,.i ((kc:Int)+1),.i (IntKind.i64.wrap (md+1))]/\Bk w w0.heap.size (2*n) a1 c1 (at_ ky (2*n) (fl sl n ++ [en])) ia1 ic1/\Below w0.heap.size w0 w:=by
 refine C.enter (n:=74) func106 rfl rfl ?_;have hb:Below w0.heap.size w0 w0:=Below.refl _ _;have hB0:=hB;have hE0:=hE;refine U0 ?_;refine L.box (cs:=#[.slice a n c,.i (kc:Int),.i md]) rfl rfl (fun w b2 F2=>?_);refine U21 ?_;intro lt2 hb;have hB:=hB.j0 F2.below;have Y1:=F2.blk;refine U114 ?_;intro w b4 F4 lt4 hb;have hB:=hB.j0 F4.below;have Y1:=Y1.j0 F4.below;have L1:=F4.blk;refine U5 ?_;refine W.fl2 12 [3,11] 3 11 [0,1,2,4,5,6,7,8,9,3,10,11] [0,1,2,4,5,6,7,8,9,11,3,10] (fun w'=>I0 w' b2 #[.slice a n c,.i (kc:Int),.i md] 97) Uk Uk Uk Uk Uk Uk (Y1.j0 (Below.refl w.heap.size w).drew) ?_ ?_
 ·have G4:Below w.heap.size w w.drew:=(Below.refl w.heap.size w).drew;have hb:=B0 hb G4;refine U66 ?_;intro hB Y1;have L1:=L1.j0 G4;clear G4;generalize w.drew=w at *;refine U190 ?_;refine U171 ?_;refine U196 ?_;refine U181 ?_;intro w b14 F14;have Wt0:=F14.lq hb.size;refine U230 ?_;intro hb hB;refine U233 ?_;intro Y1 L1;have Dy0:=F14.blk;clear Dy0;refine L.nil ⟨rfl,Y1,?_⟩;refine U410 ?_;refine U37 ?_;intro w b5 F5 lt5;have pa0:=F5.ne Y1;refine U43 ?_;intro n9 hb;have hB:=hB.j0 F5.below;refine U86 ?_;intro Y1 L1;have K2:=F5.blk;refine L.nil ⟨rfl,Y1,?_⟩;refine U9 ?_;refine U173 ?_;intro w G1 hg H2 o6;refine U236 ?_;intro hb hB Y1 L1;have K2:=G1;refine U121 ?_;refine U176 ?_;refine U175 ?_;refine U501 ?_;refine U107 ?_;refine U557 ?_;refine U478 ?_;intro w b33 F33;have lv1:=F33.lq hb.size;have hb:=B0 hb F33.below;have hB:=hB.j0 F33.below;have Y1:=Y1.j0 F33.below;have L1:=L1.j0 F33.below;have K2:=K2.j0 F33.below;have Wx0:=F33.blk;have hob:I0 w b33 (arr (2*n) fun _=>.slice none 0 0) 195:=by have h9:=Wx0;rw[rd0]at h9;exact h9
  clear Wx0;refine U437 ?_;intro w G1 hg H2;refine U104 ?_;intro o6 hb;refine U313 ?_;intro hB Y1 L1;have hob:=hob.mod o6 rfl;have K2:=G1;refine U121 ?_;refine U128 ?_;obtain⟨N7,hN7⟩:∃N7,N7=w.heap.size:=⟨_,rfl⟩
  have Kb0:b33<N7:=hN7▸(S3 hob).lt;have h07:w0.heap.size <=N7:=hN7▸hb.size;refine L.call (N2 rfl func98 rfl Tr0 rfl) (kr0 Bl n c a (lst (fun j=>.slice (ia j) (sl j).length (ic j)) n) Uo w hB.out (fun u hu=>nw0 hu)) ?_;rintro _ w ⟨a7,c7,rfl,hC,A1⟩;have h7:Bd N7 w:=⟨hN7▸A1.size⟩
  rw[<- hN7]at hC;have hb:=B0 hb A1;refine U157 ?_;intro L1 K2;have hob:=hob.j0 A1;clear A1 hN7;refine U182 ?_;intro w b39 F39;have cp1:=F39.lq hb.size;refine U228 ?_;intro hb L1;have K2:=K2.j0 F39.below;have hob:=hob.j0 F39.below;refine U237 ?_;intro hC h7;have jc0:=F39.blk;refine U179 ?_;intro w b40 F40 Kc0;refine U229 ?_;intro hb L1;have K2:=K2.j0 F40.below;have hob:=hob.j0 F40.below;have hC:=hC.j0 F40.below;refine U234 ?_;intro h7 jc0;have pb0:=F40.blk;refine L.append (B:=N7) (m:=1) rfl rfl underlying95 qb0 rfl Ud hC (news:=[.slice (pt b39) 1 1]) rfl (fun j z hj=>by
   rw[Addr.add_lit]
   match j,hj with
   |0,hj=>cases hj;exact pb0.E0 0 rfl) (fun z hz=>by simp only[List.mem_cons,List.not_mem_nil,or_false]at hz;subst hz;rfl) Uo Uo h7.h (fun a41 c41 w hL hg A1 hnn=>?_)
  have hmA:=ib0 hC hg h7.h (TS:=[195]) rfl;have Kd0:=(A1.block b33 Kb0).trans hob;refine U59 ?_;intro L1 K2;have h7:=h7.mod hmA rfl;have jc0:=jc0.mod hmA rfl;have hob:I0 w b33 (arr (2*n) fun _=>.slice none 0 0) 195:=Kd0;refine U247 ?_;intro hb hL;refine U206 ?_;obtain⟨w1,hw1⟩:∃w1,w1=w:=⟨_,rfl⟩
  subst hw1;have hL1:=hL;have ub0:=hob;have Ke0:w0.heap.size <=b33:=lv1;refine U552 ?_;intro hX1 hE1 Gv0;refine U202 ?_;intro Pm0 Wu0;have Pn0:=hb.size;have hN1:Bl <=w1.heap.size:=Nat.le_trans hBl hb.size;refine W.loop (fun k e w=>∃(u:Nat),∃(ja:Nat->Option Addr),∃(jc:Nat->Nat),k=n+1-u/\e 4= .p b4/\e 5= .p b5/\e 41= .slice a41 (n+1) c41/\e 42= .i ((n+1:Nat):Int)/\e 43= .i (u:Nat)/\u <=n+1/\Below w0.heap.size w0 w/\I0 w b4 #[.slice none 0 0,.i 0,.i 0] 97/\I0 w b5 #[.slice (pt b33) (2*n) (2*n),.i ((kc:Int)+1),.i (IntKind.i64.wrap (md+1))] 97/\Kg w1 w b33/\WB w w1.heap.size (2*n) b33 (at_ ky (2*n) (fl (qs sl n en) u)) ja jc) _ ⟨0,(fun _=>none),(fun _=>0),rfl,rfl,rfl,rfl,rfl,rfl,Nat.zero_le _,hb,L1,K2,Kg.refl _ _,WB.start hob⟩ ?_;rintro k e w ⟨u,ja,jc,hk,s4,s5,s41,s42,s43,hu,hb,L1,K2,hK,hW⟩;refine U189 ?_;refine U12 ?_;refine W.m6 rfl (fun h44=>?_) (fun h44=>?_)
  ·have O1:u<n+1:=by omega
   have hxl:(qs sl n en u).length <=1000000:=by have h7:=ny0 (qs sl n en) (u:=u+1) (m:=n+1) O1;rw[ce0,List.length_append,ic0,List.length_append,List.length_singleton]at h7;omega
   refine U251 ?_;refine U356 ?_;rintro k e w ⟨v,ja,jc,hk,s4,s5,s41,s42,s43,s47,s48,s49,hv,hb,L1,K2,hK,hW⟩;refine U250 ?_;refine W.m6 rfl (fun h50=>?_) (fun h50=>?_)
   ·have hlv:v<(qs sl n en u).length:=by omega
    obtain⟨b,hb9⟩:∃b,(qs sl n en u)[v]? =some b:=⟨_,List.getElem?_eq_getElem hlv⟩
    refine U58 ?_;refine U180 ?_;intro hO9;refine L.va (q0 (v:=ptr b) rfl underlying71 rfl (by rw[hO9.off,Nat.zero_add,Nat.mul_one];exact hO9.cell (by rw[List.getElem?_map,hb9];rfl))) ?_;clear hO9;obtain⟨hkz,nm,lt,us,S7⟩:=(hK.Dw0 hE1 ub0 Ud).all b (ua0.2 ⟨u,O1,List.mem_of_getElem? hb9⟩);have hoc:=hW.out;refine U217 ?_;refine U397 ?_;refine U170 ?_;refine U60 ?_;intro w L2 hb;refine U62 ?_;intro L1 K2 hK hW hoc;refine U430 ?_;rintro _ w ⟨rfl,L2⟩;have hb:=B0 hb L2;refine U62 ?_;intro L1 K2 hK hW hoc;refine U7 ?_;refine U371 ?_;intro hi;refine U24 ?_;intro G4 hb;refine U158 ?_;intro L1 K2;have hK:=hK.j0 G4;have hW:=hW.j0 G4;have hoc:=hoc.j0 G4;clear G4;generalize w.drew=w at *;refine U396 ?_;refine U94 ?_;refine U415 ?_;refine U375 ?_;refine U98 ?_;refine U186 ?_;intro w b68 F68 Wv0;refine U223 ?_;intro hb L1;refine U231 ?_;intro K2 hK;refine U232 ?_;intro hW hoc;have Kf0:=F68.blk;refine L.nil ⟨rfl,⟨K2,hoc⟩,?_⟩;refine F.doo rfl rfl ?_;have hNo:=hK.size;have hWo:=hW;have Ww0:(at_ ky (2*n) (flv (qs sl n en) u v) (slot (2*n) (ky b))).length <=1000000:=by have h8:=qi0 ky (2*n) (flv (qs sl n en) u v) (slot (2*n) (ky b));have h7:=Dx0 (qs sl n en) (v:=v) O1;rw[ic0,List.length_append,List.length_singleton]at h7;omega
    refine L.ja0 (B:=w1.heap.size) (m:=1) rfl rfl underlying195 Tj0 rfl Ud (hW.inn _ hi) (news:=[ptr b]) rfl (fun j z hj=>by
     rw[Addr.add_lit]
     match j,hj with
     |0,hj=>cases hj;exact Kf0.E0 0 rfl) (fun z hz=>by simp only[List.mem_cons,List.not_mem_nil,or_false]at hz;subst hz;rfl) Uo Uo hNo (fun a69 c69 w Kg0 hga hwh=>?_)
    refine U201 ?_;intro hmA hb;refine U59 ?_;intro L1 K2;refine U246 ?_;intro hK hoc;refine L.nil ⟨rfl,⟨K2,hoc⟩,?_⟩;refine U9 ?_;refine U359 ?_;intro w G1 hg H2;obtain⟨hW2,-⟩:=WB.add hWo hi hNo hga hwh Kg0 G1 hg;refine U218 ?_;intro o6 hb;have hK:=hK.other hg;have L1:=L1.mod o6 rfl;refine U241 ?_;intro K2 hW;refine U213 ?_;exact U416
   ·exact W.exit<|U243
  ·refine W.exit<|U44 ?_;have hun:u=n+1:=by omega
   subst hun;rw[ic0]at hW;refine U376 ?_;intro w G1 hg H2;refine U83 ?_;intro o6 hb;have hW:=hW.mod o6 rfl;have L1:=G1;refine U151 ?_;exact U392
 ·have G4:Below w.heap.size w w.drew:=(Below.refl w.heap.size w).drew;have hb:=B0 hb G4;refine U66 ?_;intro hB Y1;have L1:=L1.j0 G4;clear G4;generalize w.drew=w at *;refine U190 ?_;refine U171 ?_;refine U196 ?_;refine F.doo rfl rfl<|U37 ?_;intro w b5 F5 lt5;have pa0:=F5.ne Y1;refine U43 ?_;intro n9 hb;have hB:=hB.j0 F5.below;refine U86 ?_;intro Y1 L1;have K2:=F5.blk;refine L.nil ⟨rfl,Y1,?_⟩;refine U181 ?_;intro w b14 F14;have Wt0:=F14.lq hb.size;refine U230 ?_;intro hb hB;refine U233 ?_;intro Y1 L1;have K2:=K2.j0 F14.below;have Dy0:=F14.blk;clear Dy0;refine L.nil ⟨rfl,Y1,?_⟩;refine U420 ?_;refine U173 ?_;intro w G1 hg H2 o6;refine U236 ?_;intro hb hB Y1 L1;have K2:=G1;refine U121 ?_;refine U176 ?_;refine U175 ?_;refine U501 ?_;refine U107 ?_;refine U557 ?_;refine U478 ?_;intro w b33 F33;have lv1:=F33.lq hb.size;have hb:=B0 hb F33.below;have hB:=hB.j0 F33.below;have Y1:=Y1.j0 F33.below;have L1:=L1.j0 F33.below;have K2:=K2.j0 F33.below;have Wx0:=F33.blk;have hob:I0 w b33 (arr (2*n) fun _=>.slice none 0 0) 195:=by have h9:=Wx0;rw[rd0]at h9;exact h9
  clear Wx0;refine U437 ?_;intro w G1 hg H2;refine U104 ?_;intro o6 hb;refine U313 ?_;intro hB Y1 L1;have hob:=hob.mod o6 rfl;have K2:=G1;refine U121 ?_;refine U128 ?_;obtain⟨N7,hN7⟩:∃N7,N7=w.heap.size:=⟨_,rfl⟩
  have Kb0:b33<N7:=hN7▸(S3 hob).lt;have h07:w0.heap.size <=N7:=hN7▸hb.size;refine L.call (N2 rfl func98 rfl Tr0 rfl) (kr0 Bl n c a (lst (fun j=>.slice (ia j) (sl j).length (ic j)) n) Uo w hB.out (fun u hu=>nw0 hu)) ?_;rintro _ w ⟨a7,c7,rfl,hC,A1⟩;have h7:Bd N7 w:=⟨hN7▸A1.size⟩
  rw[<- hN7]at hC;have hb:=B0 hb A1;refine U157 ?_;intro L1 K2;have hob:=hob.j0 A1;clear A1 hN7;refine U182 ?_;intro w b39 F39;have cp1:=F39.lq hb.size;refine U228 ?_;intro hb L1;have K2:=K2.j0 F39.below;have hob:=hob.j0 F39.below;refine U237 ?_;intro hC h7;have jc0:=F39.blk;refine U179 ?_;intro w b40 F40 Kc0;refine U229 ?_;intro hb L1;have K2:=K2.j0 F40.below;have hob:=hob.j0 F40.below;have hC:=hC.j0 F40.below;refine U234 ?_;intro h7 jc0;have pb0:=F40.blk;refine L.append (B:=N7) (m:=1) rfl rfl underlying95 qb0 rfl Ud hC (news:=[.slice (pt b39) 1 1]) rfl (fun j z hj=>by
   rw[Addr.add_lit]
   match j,hj with
   |0,hj=>cases hj;exact pb0.E0 0 rfl) (fun z hz=>by simp only[List.mem_cons,List.not_mem_nil,or_false]at hz;subst hz;rfl) Uo Uo h7.h (fun a41 c41 w hL hg A1 hnn=>?_)
  have hmA:=ib0 hC hg h7.h (TS:=[195]) rfl;have Kd0:=(A1.block b33 Kb0).trans hob;refine U59 ?_;intro L1 K2;have h7:=h7.mod hmA rfl;have jc0:=jc0.mod hmA rfl;have hob:I0 w b33 (arr (2*n) fun _=>.slice none 0 0) 195:=Kd0;refine U247 ?_;intro hb hL;refine U206 ?_;obtain⟨w1,hw1⟩:∃w1,w1=w:=⟨_,rfl⟩
  subst hw1;have hL1:=hL;have ub0:=hob;have Ke0:w0.heap.size <=b33:=lv1;refine U552 ?_;intro hX1 hE1 Gv0;refine U202 ?_;intro Pm0 Wu0;have Pn0:=hb.size;have hN1:Bl <=w1.heap.size:=Nat.le_trans hBl hb.size;refine W.loop (fun k e w=>∃(u:Nat),∃(ja:Nat->Option Addr),∃(jc:Nat->Nat),k=n+1-u/\e 4= .p b4/\e 5= .p b5/\e 41= .slice a41 (n+1) c41/\e 42= .i ((n+1:Nat):Int)/\e 43= .i (u:Nat)/\u <=n+1/\Below w0.heap.size w0 w/\I0 w b4 #[.slice none 0 0,.i 0,.i 0] 97/\I0 w b5 #[.slice (pt b33) (2*n) (2*n),.i ((kc:Int)+1),.i (IntKind.i64.wrap (md+1))] 97/\Kg w1 w b33/\WB w w1.heap.size (2*n) b33 (at_ ky (2*n) (fl (qs sl n en) u)) ja jc) _ ⟨0,(fun _=>none),(fun _=>0),rfl,rfl,rfl,rfl,rfl,rfl,Nat.zero_le _,hb,L1,K2,Kg.refl _ _,WB.start hob⟩ ?_;rintro k e w ⟨u,ja,jc,hk,s4,s5,s41,s42,s43,hu,hb,L1,K2,hK,hW⟩;refine U189 ?_;refine U12 ?_;refine W.m6 rfl (fun h44=>?_) (fun h44=>?_)
  ·have O1:u<n+1:=by omega
   have hxl:(qs sl n en u).length <=1000000:=by have h7:=ny0 (qs sl n en) (u:=u+1) (m:=n+1) O1;rw[ce0,List.length_append,ic0,List.length_append,List.length_singleton]at h7;omega
   refine U251 ?_;refine U356 ?_;rintro k e w ⟨v,ja,jc,hk,s4,s5,s41,s42,s43,s47,s48,s49,hv,hb,L1,K2,hK,hW⟩;refine U250 ?_;refine W.m6 rfl (fun h50=>?_) (fun h50=>?_)
   ·have hlv:v<(qs sl n en u).length:=by omega
    obtain⟨b,hb9⟩:∃b,(qs sl n en u)[v]? =some b:=⟨_,List.getElem?_eq_getElem hlv⟩
    refine U58 ?_;refine U180 ?_;intro hO9;refine L.va (q0 (v:=ptr b) rfl underlying71 rfl (by rw[hO9.off,Nat.zero_add,Nat.mul_one];exact hO9.cell (by rw[List.getElem?_map,hb9];rfl))) ?_;clear hO9;obtain⟨hkz,nm,lt,us,S7⟩:=(hK.Dw0 hE1 ub0 Ud).all b (ua0.2 ⟨u,O1,List.mem_of_getElem? hb9⟩);have hoc:=hW.out;refine U217 ?_;refine U397 ?_;refine U170 ?_;refine U60 ?_;intro w L2 hb;refine U62 ?_;intro L1 K2 hK hW hoc;refine U430 ?_;rintro _ w ⟨rfl,L2⟩;have hb:=B0 hb L2;refine U62 ?_;intro L1 K2 hK hW hoc;refine U7 ?_;refine U371 ?_;intro hi;refine U24 ?_;intro G4 hb;refine U158 ?_;intro L1 K2;have hK:=hK.j0 G4;have hW:=hW.j0 G4;have hoc:=hoc.j0 G4;clear G4;generalize w.drew=w at *;refine U396 ?_;refine U94 ?_;refine U415 ?_;refine U375 ?_;refine U98 ?_;refine U186 ?_;intro w b68 F68 Wv0;refine U223 ?_;intro hb L1;refine U231 ?_;intro K2 hK;refine U232 ?_;intro hW hoc;have Kf0:=F68.blk;refine L.nil ⟨rfl,⟨K2,hoc⟩,?_⟩;refine F.doo rfl rfl ?_;have hNo:=hK.size;have hWo:=hW;have Ww0:(at_ ky (2*n) (flv (qs sl n en) u v) (slot (2*n) (ky b))).length <=1000000:=by have h8:=qi0 ky (2*n) (flv (qs sl n en) u v) (slot (2*n) (ky b));have h7:=Dx0 (qs sl n en) (v:=v) O1;rw[ic0,List.length_append,List.length_singleton]at h7;omega
    refine L.ja0 (B:=w1.heap.size) (m:=1) rfl rfl underlying195 Tj0 rfl Ud (hW.inn _ hi) (news:=[ptr b]) rfl (fun j z hj=>by
     rw[Addr.add_lit]
     match j,hj with
     |0,hj=>cases hj;exact Kf0.E0 0 rfl) (fun z hz=>by simp only[List.mem_cons,List.not_mem_nil,or_false]at hz;subst hz;rfl) Uo Uo hNo (fun a69 c69 w Kg0 hga hwh=>?_)
    refine U201 ?_;intro hmA hb;refine U59 ?_;intro L1 K2;refine U246 ?_;intro hK hoc;refine L.nil ⟨rfl,⟨K2,hoc⟩,?_⟩;refine U9 ?_;refine U359 ?_;intro w G1 hg H2;obtain⟨hW2,-⟩:=WB.add hWo hi hNo hga hwh Kg0 G1 hg;refine U218 ?_;intro o6 hb;have hK:=hK.other hg;have L1:=L1.mod o6 rfl;refine U241 ?_;intro K2 hW;refine U213 ?_;exact U416
   ·exact W.exit<|U243
  ·refine W.exit<|U44 ?_;have hun:u=n+1:=by omega
   subst hun;rw[ic0]at hW;refine U376 ?_;intro w G1 hg H2;refine U83 ?_;intro o6 hb;have hW:=hW.mod o6 rfl;have L1:=G1;refine U151 ?_;exact U392
theorem mm0(ky:Nat->ByteArray)(Bl n c kc:Nat)(a:Option Addr)(md:Int)(sl:Nat->List Nat)(ia:Nat->Option Addr)(ic:Nat->Nat)(en:Nat)(h0:0<n)(hn:n <=400000)(hkc:kc <=900000)(hfl:(fl sl n).length <=900000)(w0:World)(hBl:Bl <=w0.heap.size)(hB:Bk w0 Bl n a c sl ia ic)(hE:bv0 w0 ky (fl sl n ++ [en])):C prog 106 #[.agg #[.slice a n c,.i (kc:Int),.i md],.p en] w0 fun v w=>∃a1 c1 ia1 ic1,v= .agg #[.slice a1 (wn n kc) c1,.i ((kc:Int)+1),.i (IntKind.i64.wrap (md+1))]/\Bk w w0.heap.size (wn n kc) a1 c1 (at_ ky (wn n kc) (fl sl n ++ [en])) ia1 ic1/\Below w0.heap.size w0 w:=by
 unfold wn;by_cases hq:4*n<kc+1
 ·rw[if_pos hq];exact lu1 ky Bl n c kc a md sl ia ic en h0 hn hkc hfl hq w0 hBl hB hE
 ·rw[if_neg hq];exact ls1 ky Bl n c kc a md sl ia ic en h0 hn hkc hfl hq w0 hBl hB hE
end
end Go.Vy.Sc
end
section
namespace Go.Vy
open Go Go.Conc Go.Yc
open Go.Vc (Env upd V3 ev)
open Go.RowKit Go.Proofs
section
variable{P:Program}{ρ:Operand->Value}{d:Option Nat}{ty:TypeId}{ps:String}{af:Array Edge}{g:Option (Nat×Bool)}{x y:Operand}{w:World}
theorem _root_.Go.Vc.ud0{f:FuncId}{fn:Func}{aT:Array TypeId}{a:Addr}{k:IntKind}{z:Int}{u:Value}(hx:ρ x= .pointer (some a))(hy:ρ y= .int k z)(hf:P.funcs[f]? =some fn)(J4:Ue fn)(hb:fn.body.isNone=true)(hn:Extern.findNext fn=none)
  (he:Extern.find fn=some Extern.Atomic.storeT) (hc:w.cell? a=some u) (hz:w.frozen? a=false) (hρ:ρ (.func f)= .func (.func f) #[] #[]) :
  (execOp ρ ⟨d,.call ⟨.value (.func f),#[x,y],aT⟩,ty,ps,af,g⟩).run P w= .ok (.value (.tuple #[])) (w.setCell a (.int k z)):=by
 have h1:(callFunc f #[.pointer (some a),.int k z]).run P w= .ok (.value (.tuple #[])) (w.setCell a (.int k z)):=by
  rw[run_callFunc_extern hf J4 hb hn he];change (Sem.run P (do
   store (<- asAddr (.pointer (some a))) (.int k z) .atomic
   pure Extern.Atomic.none_) w).andThen _=_
  simp[asAddr,hc,hz,run_store P w a (.int k z) .atomic rfl,Result.andThen,Extern.Atomic.none_]
 simp[execOp,resolve,hρ,Deferred.ofValue,invoke,hx,hy,h1]
theorem ud0{f:FuncId}{fn:Func}{aT:Array TypeId}{a:Addr}{k:IntKind}{z:Int}{u:Value}(hx:ρ x= .pointer (some a))(hy:ρ y= .int k z)(hf:P.funcs[f]? =some fn)(J4:Ue fn)(hb:fn.body.isNone=true)(hn:Extern.findNext fn=none)
  (he:Extern.find fn=some Extern.Atomic.storeT) (hc:w.cell? a=some u) (hz:w.frozen? a=false) (hρ:ρ (.func f)= .func (.func f) #[] #[]) :
  Does P (execOp ρ ⟨d,.call ⟨.value (.func f),#[x,y],aT⟩,ty,ps,af,g⟩) w (.val (.tuple #[])) (w.setCell a (.int k z)):=
 .N0 (by
  show S0 P (do let d <- Deferred.ofValue (ρ (.func f)) (#[x,y].map ρ);invoke d.target d.args);rw[hρ];show S0 P (callFunc f (#[] ++ #[x,y].map ρ ++ #[]));refine Vt0 hf J4 hb hn he ?_;have e1:(#[] ++ #[x,y].map ρ ++ #[]:Array Value)=#[.pointer (some a),.int k z]:=by simp[hx,hy]
  rw[e1];show S0 P (do store (<- asAddr (.pointer (some a))) (.int k z) .atomic;pure Extern.Atomic.none_);exact O0 (v9 _) fun b=>O0 (aj0 _ _ _) fun _=>M0 _) rfl rfl fun τ dd=>Go.Vc.ud0 hx hy hf J4 hb hn he hc hz hρ
end
end Go.Vy
namespace Go.Vy.Sc
open Go Go.Conc Go.Yc Go.RowKit Go.Proofs Go.Proofs.YtinppmaojmdmhaaGreat Tryz
open Go.Vc Go.Wg
theorem exI:Extern.find Tryz.f154=some Extern.Atomic.storeT:=by kernel_rfl
theorem enI:Extern.findNext Tryz.f154=none:=by kernel_rfl
theorem buM(x:Option Addr):prog.built 187 [(0,.iface 242 (.pointer x))]=some #[.iface 242 (.pointer x)]:=by kernel_rfl
theorem buR(x:Option Addr):prog.built 160 [(0,.iface 242 (.pointer x))]=some #[.iface 242 (.pointer x)]:=by kernel_rfl
section
variable[Ctx prog]
end
section
theorem Wy0(x0:Int)(x1:Int):prog.built 162 [(0,.i x0),(1,.i x1)]=some #[.i x0,.i x1]:=by kernel_rfl
theorem lw1(x0:Int)(x1:Int):prog.built 244 [(0,.agg #[.i x0,.i x1])]=some #[.i x0,.i x1,.bool false,.i 0]:=by kernel_rfl
theorem lx1(x0:Int)(x1:Int)(x2:Option Addr)(x3:Int):prog.built 191 [(0,.agg #[.i x0,.i x1]),(1,.pointer x2),(2,.i x3)]=some #[.i x0,.i x1,.pointer x2,.i x3,.i 0]:=by kernel_rfl
theorem ly1(x0:Option Addr)(x1:Nat)(x2:Nat):prog.built 97 [(0,.slice x0 x1 x2)]=some #[.slice x0 x1 x2,.i 0,.i 0]:=by kernel_rfl
end
section
variable[Ctx prog]
theorem Po0(wb:Nat)(obj num:Int)(w0:World)(hW:I0 w0 wb #[.bool false] 99):C prog 68 #[.p wb,.i obj,.i num] w0 fun v w=>∃sb,v= .iface 242 (.p sb)/\w0.heap.size <=sb/\I0 w sb #[.i obj,.i num,.bool false,.i 0] 244/\Below w0.heap.size w0 w:=by
 refine C.enter (n:=18) func68 rfl rfl<|U2 ?_;intro hb;refine L.va Q5<|U5 ?_;refine U16 ?_;refine L.call (N2 rfl func69 rfl rf1 rfl) (Gj0 wb _ hW) ?_;rintro _ w1 ⟨rfl,hw⟩;refine U29 ?_;refine U77 ?_;refine U345 ?_;refine L.va (P2 (parts:=[(0,.tmp 12),(1,.tmp 13)]) rfl (Wy0 obj num))<|L.va (P2 (parts:=[(0,.tmp 14)]) rfl (lw1 obj num))<|L.box (cs:=#[.i obj,.i num,.bool false,.i 0]) rfl rfl (fun w b16 F16=>?_);have cq1:=F16.lq hb.size;have hb:=B0 hb F16.below;have es0:=F16.blk;refine L.va (cj0 (v:=.p b16) rfl underlying242 rfl)<|U154 ?_;exact⟨b16,rfl,cq1,es0,hb⟩
theorem Wz0(wb:Nat)(obj num:Int)(w0:World)(hW:I0 w0 wb #[.bool false] 99):C prog 104 #[.p wb,.i obj,.i num] w0 fun v w=>∃mb sb,v= .p mb/\w0.heap.size <=mb/\w0.heap.size <=sb/\I0 w mb #[.iface 242 (.p sb)] 187/\I0 w sb #[.i obj,.i num,.bool false,.i 0] 244/\Below w0.heap.size w0 w:=by
 refine C.enter (n:=13) func104 rfl rfl<|U2 ?_;intro hb;refine U64 ?_;refine U18 ?_;refine U471 ?_;rintro _ w ⟨sb,rfl,lts,hS,L2⟩;have lts:=Nat.le_trans hb.size lts;have hb:=B0 hb L2;refine L.va (P2 (vs:=[(0,(.iface 242 (.p sb)))]) rfl (buM _))<|L.box (cs:=#[(.iface 242 (.p sb))]) rfl rfl (fun w b12 F12=>?_);have cr1:=F12.lq hb.size;have hb:=B0 hb F12.below;have hS:=hS.j0 F12.below;have di0:=F12.blk;refine U117 ?_;exact⟨b12,sb,rfl,cr1,lts,di0,hS,hb⟩
theorem Kh0(wb:Nat)(obj num:Int)(w0:World)(hW:I0 w0 wb #[.bool false] 99):C prog 37 #[.p wb,.i obj,.i num] w0 fun v w=>∃mb sb,v= .p mb/\w0.heap.size <=mb/\w0.heap.size <=sb/\I0 w mb #[.iface 242 (.p sb)] 160/\I0 w sb #[.i obj,.i num,.bool false,.i 0] 244/\Below w0.heap.size w0 w:=by
 refine C.enter (n:=13) func37 rfl rfl<|U2 ?_;intro hb;refine U64 ?_;refine U18 ?_;refine U471 ?_;rintro _ w ⟨sb,rfl,lts,hS,L2⟩;have lts:=Nat.le_trans hb.size lts;have hb:=B0 hb L2;refine L.va (P2 (vs:=[(0,(.iface 242 (.p sb)))]) rfl (buR _))<|L.box (cs:=#[(.iface 242 (.p sb))]) rfl rfl (fun w b12 F12=>?_);have cr1:=F12.lq hb.size;have hb:=B0 hb F12.below;have hS:=hS.j0 F12.below;have di0:=F12.blk;refine U117 ?_;exact⟨b12,sb,rfl,cr1,lts,di0,hS,hb⟩
theorem Pp0(cb:Nat)(a b c d e:Value)(x:Int)(w0:World)(hC:I0 w0 cb #[a,b,c,d,e] 191):C prog 135 #[.pointer (some ⟨cb,4,none⟩),.i x] w0 fun _ w=>I0 w cb #[a,b,c,d,.i x] 191/\w0.grownBy w (some cb):=by
 refine C.enter (n:=9) func135 rfl rfl<|W.region rfl<|U11 ?_;refine L.va (A0 rfl underlying189 rfl sz2 Ud)<|L.va (N3 rfl)<|L.va (ud0 (u:=e) rfl rfl func154 sq1 rfl enI exI (hC.E0 4 rfl) hC.frozen rfl)<|U97 ?_;exact⟨hC.set (o:=4) (.i x),ft0 w0 ⟨cb,4,none⟩ _⟩
theorem Ki0(wb:Nat)(obj num:Int)(x:Int)(w0:World)(hW:I0 w0 wb #[.bool false] 99):C prog 105 #[.p wb,.i obj,.i num,.i x] w0 fun v w=>∃cb sa,v= .p cb/\w0.heap.size <=cb/\I0 w cb #[.i obj,.i num,.p wb,.i x,sa] 191/\Below w0.heap.size w0 w:=by
 refine C.enter (n:=23) func105 rfl rfl<|U2 ?_;intro hb;refine U73 ?_;refine U345 ?_;refine L.va (P2 (parts:=[(0,.tmp 10),(1,.tmp 11)]) rfl (Wy0 obj num))<|U18 ?_;refine L.va (P2 (parts:=[(0,.tmp 12),(1,.tmp 13),(2,.tmp 14)]) rfl (lx1 obj num ((pt wb)) x))<|L.box (cs:=#[.i obj,.i num,.p wb,.i x,.i 0]) rfl rfl (fun w b16 F16=>?_);have cq1:=F16.lq hb.size;have hb:=B0 hb F16.below;have es0:=F16.blk;refine U64 ?_;refine U11 ?_;refine L.va (A0 rfl underlying191 rfl qo1 Ud)<|L.va (N3 rfl)<|L.call (B2 rfl rfl func135 rfl sc1 rfl) (Pp0 b16 _ _ _ _ _ x _ es0) ?_;rintro _ w ⟨G1,hg⟩;have o6:=y5.gk0 es0 hg;have hb:=W3 hb hb.size hg cq1;have es0:=G1;refine U111 ?_;refine U16 ?_;refine U117 ?_;exact⟨b16,_,rfl,cq1,es0,hb⟩
theorem lz1(b:Nat)(q:ByteArray)(nm:Int)(lt us:Option Addr)(w0:World)(hB:I0 w0 b #[.string q,.i nm,.pointer lt,.pointer us] 127):C prog 30 #[.p b] w0 fun v w=>v= .string q/\w=w0:=by
 refine C.enter (n:=9) func30 rfl rfl<|U224 ?_;refine U5 ?_;refine U203 ?_;refine U34 ?_;refine U531 ?_;refine L.va (q0 rfl underlying9 rfl (hB.E0 0 (v:=.string q) rfl))<|U54 ?_;exact U33
theorem ma1(b:Nat)(q:ByteArray)(nm:Int)(lt us:Option Addr)(w0:World)(hB:I0 w0 b #[.string q,.i nm,.pointer lt,.pointer us] 127):C prog 31 #[.p b] w0 fun v w=>v= .i nm/\w=w0:=by
 refine C.enter (n:=9) func31 rfl rfl<|U0 ?_;refine U17 ?_;refine U203 ?_;refine U34 ?_;refine U11 ?_;refine L.va (A0 rfl underlying127 rfl sz3 Ud)<|L.va (q0 rfl underlying3 rfl (hB.E0 1 (v:=.i nm) rfl))<|U7 ?_;exact U33
theorem Xa0(w0:World):C prog 30 #[.pointer none] w0 fun v w=>v= .string ⟨#[]⟩/\w=w0:=by
 refine C.enter (n:=9) func30 rfl rfl<|U224 ?_;refine U5 ?_;refine U203 ?_;refine U110 ?_;refine U0 ?_;refine U54 ?_;exact U33
theorem Xb0(w0:World):C prog 31 #[.pointer none] w0 fun v w=>v= .i (-1)/\w=w0:=by
 refine C.enter (n:=9) func31 rfl rfl<|U0 ?_;refine U17 ?_;refine U203 ?_;refine U110 ?_;refine U0 ?_;refine U7 ?_;exact U33
def bg0(wb:Nat)(obj:Int)(n:Nat)(rl cl:Nat->Nat)(u v:Nat)(j:Nat):Value:=
 if j=0 then .p wb else if j=1 then .i obj else if j=2 then .i (n:Int) else if j<67 then(if j-3<u then .pointer (some ⟨rl (j-3),0,none⟩) else .pointer none) else(if j-67<v then .pointer (some ⟨cl (j-67),0,none⟩) else .pointer none)
section
variable{N i wb n:Nat}{f:Nat->Value}{obj:Int}{rl cl:Nat->Nat}
omit [Ctx prog] in
theorem I0.at_{w:World}{b:Nat}{T:TypeId}(h:I0 w b (arr N f) T)(hi:i<N):w.cell? ⟨b,i,none⟩=some (f i):=by
 have h1:=I0.Gt0 h hi
 rwa [show 0+i*1=i by omega]at h1
theorem Gw0(tb wb:Nat)(obj:Int)(n:Nat)(rl cl:Nat->Nat)(u v:Nat)(q:ByteArray)(hk:q.size <=1000000000000)(h0:0<n)(hn:n <=64)(w0:World)(hT:I0 w0 tb (arr 131 (bg0 wb obj n rl cl u v)) 92):C prog 51 #[.p tb,.string q] w0 fun x w=>x= .i (jb0 n q:Int)/\w=w0:=by
 refine C.enter (n:=11) func51 rfl rfl<|U0 ?_;refine U7 ?_;refine U85 ?_;refine U540 ?_;refine L.va (q0 (v:=.i (n:Int)) rfl underlying3 rfl (I0.at_ hT (i:=2) Uo))<|L.call (B2 rfl rfl func91 rfl yq1 rfl) (ck1 q n hk h0 hn _) ?_;rintro _ w9 ⟨rfl,hw9⟩;refine U35 ?_;refine U7 ?_;exact U33
omit [Ctx prog] in
theorem Gx0{o:Nat}{g:Nat->Value}{v:Value}(ho:o<N)(hv:g o=v)(hg:∀j,j≠o->g j=f j):setRow (arr N f) o [v]=arr N g:=by
 have h1:=nx0 (i:=o) (f:=f) (g:=g) ho hv hg
 rwa [show 0+o*1=o by omega]at h1
omit [Ctx prog] in
theorem Xc0{v mb:Nat}(hi:i<64):setRow (arr 131 (bg0 wb obj n rl cl i v)) (3+i*1) [.p mb]=arr 131 (bg0 wb obj n (P3 rl i mb) cl (i+1) v):=by
 refine Gx0 Uo ?_ fun j hj=>?_
 ·unfold bg0;rw[if_neg Uo,if_neg Uo,if_neg Uo,if_pos Uo,show 3+i*1-3=i by omega,if_pos Uo,I1]
 ·unfold bg0;by_cases h0:j=0
  ·rw[if_pos h0,if_pos h0]
  by_cases h1:j=1
  ·rw[if_neg h0,if_neg h0,if_pos h1,if_pos h1]
  by_cases h2:j=2
  ·rw[if_neg h0,if_neg h0,if_neg h1,if_neg h1,if_pos h2,if_pos h2]
  rw[if_neg h0,if_neg h0,if_neg h1,if_neg h1,if_neg h2,if_neg h2];by_cases h3:j<67
  ·rw[if_pos h3,if_pos h3];by_cases h4:j-3<i
   ·rw[if_pos h4,if_pos Uo,B1 Uo]
   ·rw[if_neg h4,if_neg Uo]
  ·rw[if_neg h3,if_neg h3]
omit [Ctx prog] in
theorem Xd0{u cb:Nat}(hi:i<64):setRow (arr 131 (bg0 wb obj n rl cl u i)) (67+i*1) [.p cb]=arr 131 (bg0 wb obj n rl (P3 cl i cb) u (i+1)):=by
 refine Gx0 Uo ?_ fun j hj=>?_
 ·unfold bg0;rw[if_neg Uo,if_neg Uo,if_neg Uo,if_neg Uo,show 67+i*1-67=i by omega,if_pos Uo,I1]
 ·unfold bg0;by_cases h0:j=0
  ·rw[if_pos h0,if_pos h0]
  by_cases h1:j=1
  ·rw[if_neg h0,if_neg h0,if_pos h1,if_pos h1]
  by_cases h2:j=2
  ·rw[if_neg h0,if_neg h0,if_neg h1,if_neg h1,if_pos h2,if_pos h2]
  rw[if_neg h0,if_neg h0,if_neg h1,if_neg h1,if_neg h2,if_neg h2];by_cases h3:j<67
  ·rw[if_pos h3,if_pos h3]
  ·rw[if_neg h3,if_neg h3];by_cases h4:j-67<i
   ·rw[if_pos h4,if_pos Uo,B1 Uo]
   ·rw[if_neg h4,if_neg Uo]
end
structure TLk(w:World)(B:Nat)(obj:Int)(rl ls:Nat->Nat)(u:Nat):Prop where
 all:∀j,j<u->B <=rl j/\B <=ls j/\I0 w (rl j) #[.iface 242 (.pointer (some ⟨ls j,0,none⟩))] 160/\I0 w (ls j) #[.i obj,.i (j:Nat),.bool false,.i 0] 244
structure TCl(w:World)(B wb:Nat)(obj:Int)(cl bk:Nat->Nat)(v:Nat):Prop where
 all:∀j,j<v->B <=cl j/\B <=bk j/\I0 w (cl j) #[.i obj,.i (j:Nat),.p wb,.slice (some ⟨bk j,0,none⟩) 1 1,.i 0,.i 0] 164/\I0 w (bk j) #[.slice none 0 0] 195
section
omit [Ctx prog]
variable{w w':World}{B wb u:Nat}{obj:Int}{rl ls cl bk:Nat->Nat}
theorem TLk.j0(h:TLk w B obj rl ls u)(hb:Below w.heap.size w w'):TLk w' B obj rl ls u:=⟨fun j hj=>let⟨a,b,c,d⟩:=h.all j hj;⟨a,b,c.j0 hb,d.j0 hb⟩⟩
theorem TCl.j0(h:TCl w B wb obj cl bk u)(hb:Below w.heap.size w w'):TCl w' B wb obj cl bk u:=⟨fun j hj=>let⟨a,b,c,d⟩:=h.all j hj;⟨a,b,c.j0 hb,d.j0 hb⟩⟩
theorem TLk.mod{N:Nat}{TS:List TypeId}(h:TLk w B obj rl ls u)(hm:y5 w w' N TS)(hT:(TS.contains 160 ||TS.contains 244)=false):TLk w' B obj rl ls u:=by
 simp only[Bool.or_eq_false_iff]at hT;exact⟨fun j hj=>let⟨a,b,c,d⟩:=h.all j hj;⟨a,b,c.mod hm hT.1,d.mod hm hT.2⟩⟩
theorem TCl.mod{N:Nat}{TS:List TypeId}(h:TCl w B wb obj cl bk u)(hm:y5 w w' N TS)(hT:(TS.contains 164 ||TS.contains 195)=false):TCl w' B wb obj cl bk u:=by
 simp only[Bool.or_eq_false_iff]at hT;exact⟨fun j hj=>let⟨a,b,c,d⟩:=h.all j hj;⟨a,b,c.mod hm hT.1,d.mod hm hT.2⟩⟩
theorem TLk.add{mb sb:Nat}(h:TLk w B obj rl ls u)(h1:B <=mb)(h2:B <=sb)(hM:I0 w mb #[.iface 242 (.p sb)] 160)(hS:I0 w sb #[.i obj,.i (u:Nat),.bool false,.i 0] 244):TLk w B obj (P3 rl u mb) (P3 ls u sb) (u+1):=⟨fun j hj=>by
 by_cases e:j=u
 ·subst e;rw[I1,I1];exact⟨h1,h2,hM,hS⟩
 ·rw[B1 e,B1 e];exact h.all j Uo⟩
theorem TCl.add{cb sb:Nat}(h:TCl w B wb obj cl bk u)(h1:B <=cb)(h2:B <=sb)(hC:I0 w cb #[.i obj,.i (u:Nat),.p wb,.slice (pt sb) 1 1,.i 0,.i 0] 164)(hS:I0 w sb #[.slice none 0 0] 195):TCl w B wb obj (P3 cl u cb) (P3 bk u sb) (u+1):=⟨fun j hj=>by
 by_cases e:j=u
 ·subst e;rw[I1,I1];exact⟨h1,h2,hC,hS⟩
 ·rw[B1 e,B1 e];exact h.all j Uo⟩
theorem TLk.none:TLk w B obj rl ls 0:=⟨fun _j hj=>absurd hj (Nat.not_lt_zero _)⟩
theorem TCl.none:TCl w B wb obj cl bk 0:=⟨fun _j hj=>absurd hj (Nat.not_lt_zero _)⟩
end
omit [Ctx prog] in
theorem ux1(wb:Nat)(obj:Int)(n:Nat):prog.built 92 [(0,.p wb),(1,.i obj),(2,.i (n:Int))]=some (arr 131 (bg0 wb obj n (fun _=>0) (fun _=>0) 0 0)):=by kernel_rfl
theorem ct1(wb:Nat)(obj:Int)(n:Nat)(h0:0<n)(hn:n <=64)(w0:World)(hW:I0 w0 wb #[.bool false] 99):C prog 12 #[.p wb,.i obj,.i (n:Int)] w0 fun v w=>∃tb rl ls cl bk,v= .tuple #[.p tb,.i 0]/\w0.heap.size <=tb/\I0 w tb (arr 131 (bg0 wb obj n rl cl n n)) 92/\TLk w w0.heap.size obj rl ls n/\TCl w w0.heap.size wb (IntKind.i64.wrap (obj+1)) cl bk n/\Below w0.heap.size w0 w:=by
 refine C.enter (n:=48) func12 rfl rfl<|U2 ?_;intro hb;refine L.va (Z9 rfl)<|U118 ?_;refine U500 ?_;refine U26 ?_;refine U486 ?_;refine U34 ?_;refine U18 ?_;refine L.va (N3 rfl)<|L.va (P2 (vs:=[(0,.p wb),(1,.i obj),(2,.i (n:Int))]) rfl (ux1 wb obj n))<|L.box (cs:=arr 131 (bg0 wb obj n (fun _=>0) (fun _=>0) 0 0)) rfl rfl (fun w b20 F20=>?_);have mb1:=F20.lq hb.size;have hb:=B0 hb F20.below;have hW:=hW.j0 F20.below;have hT:=F20.blk;refine L.va (Z9 rfl)<|U5 ?_;refine U20 ?_;refine U22 ?_;refine W.loop (fun k e w=>∃(i:Nat),∃(rl:Nat->Nat),∃(ls:Nat->Nat),∃(cl:Nat->Nat),∃(bk:Nat->Nat),k=n-i/\e 0= .p wb/\e 1= .i obj/\e 2= .i (n:Int)/\e 8= .p b20/\e 21= .i (n:Int)/\e 22= .i (i:Nat)/\i <=n/\Below w0.heap.size w0 w/\I0 w wb #[.bool false] 99/\I0 w b20 (arr 131 (bg0 wb obj n rl cl i i)) 92/\TLk w w0.heap.size obj rl ls i/\TCl w w0.heap.size wb (IntKind.i64.wrap (obj+1)) cl bk i) _ ⟨0,(fun _=>0),(fun _=>0),(fun _=>0),(fun _=>0),rfl,rfl,rfl,rfl,rfl,rfl,rfl,Nat.zero_le _,hb,hW,hT,TLk.none,TCl.none⟩ ?_;rintro k e w ⟨i,rl,ls,cl,bk,hk,s0,s1,s2,s8,s21,s22,hi,hb,hW,hT,hL,hQ⟩;rw[L0 s0,L0 s1,L0 s2,L0 s8,L0 s21,L0 s22];clear s0 s1 s2 s8 s21 s22;refine U12 ?_;refine W.m6 rfl (fun h23=>?_) (fun h23=>?_)
 ·have O1:i<n:=by omega
  refine U39 ?_;refine U20 ?_;refine U17 ?_;refine W.fl 8 [5] [0,1,2,3,4,6,7,5] (fun w'=>True) Uk Uk Uk Uk Uk trivial<|U24 ?_;intro G4 hb;have hW:=hW.j0 G4;have hT:=hT.j0 G4;have hL:=hL.j0 G4;have hQ:=hQ.j0 G4;clear G4;generalize w.drew=w at *;refine U72 ?_;refine U72 ?_;refine F.va rfl rfl (fun w' W0=>(N3 rfl))<|F.va rfl rfl (fun w' W0=>(j1 rfl))<|F.va rfl rfl (fun w' W0=>(A0 rfl underlying92 rfl qh1 Ud))<|F.doo rfl rfl<|L.call (D6 rfl rfl rfl func37 rfl xu1 rfl) (Kh0 wb obj i w hW) ?_;rintro _ w ⟨mb,sb,rfl,l1,l2,hM,hS,A1⟩;have l1:=Nat.le_trans hb.size l1;have l2:=Nat.le_trans hb.size l2;have hb:=B0 hb A1;have hW:=hW.j0 A1;have hT:=hT.j0 A1;have hL:=hL.j0 A1;have hQ:=hQ.j0 A1;have hL:=hL.add l1 l2 hM hS;clear A1;refine L.nil ⟨rfl,trivial,?_⟩;refine U9 ?_;refine L.va (p7 (i:=i) (n:=64) rfl rfl underlying88 jp1 Uo)<|L.put (b:=b20) (o:=3+i*1) (vs:=[.p mb]) (arr 131 (bg0 wb obj n (P3 rl i mb) cl (i+1) i)) rfl rfl rfl jp1 rfl rfl hT (by rw[I4];omega) (Xc0 Uo) (fun w G1 hg H2=>?_);have o6:=y5.gk0 hT hg;have hb:=W3 hb hb.size hg mb1;have hW:=hW.mod o6 rfl;have hL:=hL.mod o6 rfl;have hQ:=hQ.mod o6 rfl;have hT:=G1;clear o6 hg G1;refine U1 ?_;refine W.fl 11 [6,8] [0,1,2,3,4,5,9,10,6,7,8] (fun w'=>True) Uk Uk Uk Uk Uk trivial<|U24 ?_;intro G4 hb;have hW:=hW.j0 G4;have hL:=hL.j0 G4;have hQ:=hQ.j0 G4;have hT:=hT.j0 G4;clear G4;generalize w.drew=w at *;refine U72 ?_;refine U72 ?_;refine U289 ?_;refine U276 ?_;refine F.doo rfl rfl<|L.ar1 (m:=1) (c:=1) rfl rfl underlying95 qb0 rfl Ud Ud Ud Ud (fun w b40 F40=>?_);have Kc0:=F40.lq hb.size;have hb:=B0 hb F40.below;have hW:=hW.j0 F40.below;have hL:=hL.j0 F40.below;have hQ:=hQ.j0 F40.below;have hT:=hT.j0 F40.below;have pb0:=F40.blk;have pb0:I0 w b40 #[.slice none 0 0] 195:=pb0;refine L.nil ⟨rfl,trivial,?_⟩;refine F.va rfl rfl (fun w' W0=>(P2 (parts:=[(0,.tmp 40)]) rfl (ly1 (pt b40) 1 1)))<|F.doo rfl rfl<|L.call (fe0 rfl rfl rfl rfl func38 rfl xv1 rfl) (um1 wb (IntKind.i64.wrap (obj+1)) i (pt b40) 1 1 0 0 w) ?_;rintro _ w ⟨cb,rfl,l1,hC,A1⟩;have l1:=Nat.le_trans hb.size l1;have hb:=B0 hb A1;have hW:=hW.j0 A1;have hL:=hL.j0 A1;have hQ:=hQ.j0 A1;have hT:=hT.j0 A1;have pb0:=pb0.j0 A1;have hQ:=hQ.add l1 Kc0 hC pb0;clear A1;refine L.nil ⟨rfl,trivial,?_⟩;refine U9 ?_;refine L.va (p7 (i:=i) (n:=64) rfl rfl underlying90 Tk0 Uo)<|L.put (b:=b20) (o:=67+i*1) (vs:=[.p cb]) (arr 131 (bg0 wb obj n (P3 rl i mb) (P3 cl i cb) (i+1) (i+1))) rfl rfl rfl Tk0 rfl rfl hT (by rw[I4];omega) (Xd0 Uo) (fun w G1 hg H2=>?_);have o6:=y5.gk0 hT hg;have hb:=W3 hb hb.size hg mb1;have hW:=hW.mod o6 rfl;have hL:=hL.mod o6 rfl;have hQ:=hQ.mod o6 rfl;have hT:=G1;clear o6 hg G1;refine U235 ?_;exact⟨_,by omega,⟨i+1,(P3 rl i mb),(P3 ls i sb),(P3 cl i cb),(P3 bk i b40),rfl,rfl,rfl,rfl,rfl,rfl,rfl,O1,hb,hW,hT,hL,hQ⟩⟩
 ·refine W.exit<|U143 ?_;refine U16 ?_;refine L.va (Z9 rfl)<|U7 ?_;refine U212 ?_;have hin:i=n:=by omega
  subst hin;exact⟨b20,rl,ls,cl,bk,rfl,mb1,hT,hL,hQ,hb⟩
end
end Go.Vy.Sc
end
