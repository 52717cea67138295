/- What the claim leans on, part 4. Laws. -/
import Derived.Test.YtinppmaojmdmhaaGreatKO3
import Derived.Conc.LeavingOf
import Derived.ProofKit
import Derived.Deep.Slices
import Derived.SizedLaws
import Derived.Conc.SmallLaws
import Derived.Laws.LoneSync
import Derived.FollowTie
import Derived.LaidEqlPtr
set_option linter.unusedVariables false
section
namespace Go.Vy.Sc
open Go Go.Conc Go.Yc Go.RowKit Go.Proofs Go.Proofs.YtinppmaojmdmhaaGreat Tryz
open Go.Vc Go.Wg
attribute [local irreducible] KK
def tpT (w:World) (t n s:Nat) (m:Gm):Tape:=fun j q=>if 3 <=j then m (j-3) else(ez0 (ez0 (ez0 w 0 t) 1 n) 2 s).tape j q
theorem tpm (U w:World) (t n s d:Nat) (m:Gm):gm (Yc.V2 U (tpT w t n s m) d)=m:=funext fun i=>by
 show(if 3 <=i+3 then m (i+3-3) else(ez0 (ez0 (ez0 w 0 t) 1 n) 2 s).tape (i+3) (.sched 0))=m i;rw[if_pos (by omega),Nat.add_sub_cancel]
theorem tp1 (U w:World) (t n s d:Nat) (m:Gm):gh (Yc.V2 U (tpT w t n s m) d) 1=n:=rfl
structure Fn0 {P:Program} (K:Y9 P) (beg:K.S->k6 K.S K.L) (u:World) (F:Nat->Prop):Prop where
 inv:K.Inv (K.sOf (gh u 0)) (gm u) u F
 nts:gh u 1=0
 on:gh u 2=0
 out:K.out (gh u 0)=beg (K.sOf (gh u 0))
 os:u.os=K.base.os
 output:u.output=K.base.output
 at_:K.BAt (gh u 0)
structure ob0 (Y:Sys) (fb:Nat->FuncId) (caps:Nat->Array Value) (fv:Nat->Value) (ba sa:Option Addr) (sn:Nat) (sc:Nat->Int):Prop where
 sys:qm0 Y
 m1:Y.m <=16
 sn1:sn <=262144
 bsl:SL ba Y.m
 ssl:SL sa sn
 fn:∀i,i<Y.m->(Y.nil i=true/\fv i= .nilFunc)\/(Y.nil i=false/\fv i= .func (.func (fb i)) #[] (caps i)/\∃fn,prog.funcs[fb i]? =some fn/\fn.body.isSome=true/\(fn.name== "runtime.NumGoroutine")=false)
 nts:(Y.pn sc sn).nts.length <=1000000000
 body:∀(base:World) (i cb:Nat) (top:List Frame) (u:World) (F:Nat->Prop),i<Y.m->Y.nil i=false->Fn0 (Y.cfg fb (Y.pn sc sn) base i cb top) (Y.beg i) u F->ah0 (Y.cfg fb (Y.pn sc sn) base i cb top) (G (Frame.enter prog (fb i) (#[] ++ #[.p cb]++caps i) .normal) top) u
def ec0 {L:Type}:Option (L ⊕ Nat)->Int
 |some (.inr x)=>x
 |_=>0
def dp1 (Y:Sys) (j:Nat):Option (Y.L ⊕ Nat)->Stp
 |some (.inl l)=>Y.stp j l
 |_=>sp0
def ba0 {L:Type}:Option (L ⊕ Nat)->Option (L ⊕ Nat)
 |some (.inl _)=>some (.inr 0)
 |x=>x
structure Tie (Y:Sys) (rb0:Nat) (p:PR Y) (R:Rn):Prop where
 rb:R.rb=rb0
 evs:R.evs=p.evs
 nts:R.nts=p.nts
 used:R.used=p.used
 len:R.cl.length=p.ft.length
 Z1:∀j c,R.cl[j]? =some c->c.Z1=p.who.count (some j)
 ends:∀j,j<Y.m->R.ends[j]? =some (ec0 p.ft[j]?)
namespace Sys
section
variable {Y:Sys}
theorem Wf0 (p:PR Y):p.nts <+: (Y.bgn p).nts:=by
 unfold bgn;split
 ·exact List.prefix_refl _
 ·exact List.prefix_append _ _
theorem Qe0 (p:PR Y) (i:Nat):p.nts <+: (Y.V4 p i).nts:=by
 unfold V4;split
 ·exact List.prefix_append _ _
 ·exact List.prefix_refl _
theorem Qf0 (p:PR Y) (e:Int):p.nts <+: (Y.step p e).nts:=by
 unfold step;split
 ·exact Qe0 _ _
 ·exact List.prefix_refl _
theorem Qg0 {n k:Nat}:(Y.D3 n).nts <+: (Y.D3 (n+k)).nts:=by
 induction k with
 |zero=>exact List.prefix_refl _
 |succ k ih=>exact ih.trans (Wf0 _)
theorem Qh0 {sc:Nat->Int} {n k:Nat}:(Y.pn sc n).nts <+: (Y.pn sc (n+k)).nts:=by
 induction k with
 |zero=>exact List.prefix_refl _
 |succ k ih=>exact ih.trans (Qf0 _ _)
theorem ir0:∀(n j:Nat),(Y.D3 n).who.count (some j)=0
 |0,_=>rfl
 |n+1,j=>by
  show(Y.bgn (Y.D3 n)).who.count (some j)=0;unfold bgn;split
  ·exact ir0 n j
  ·simp[ir0 n j]
theorem Ci0:∀n,(Y.D3 n).evs=[]/\(Y.D3 n).used=0
 |0=>⟨rfl,rfl⟩
 |n+1=>by
  show(Y.bgn (Y.D3 n)).evs=[]/\(Y.bgn (Y.D3 n)).used=0;unfold bgn;split <;> exact Ci0 n
theorem mq0:∀n,(Y.D3 n).outs.length <=n
 |0=>Nat.le_refl _
 |n+1=>by
  show(Y.bgn (Y.D3 n)).outs.length <=n+1;have:=mq0 n;unfold bgn;split <;> simp <;> omega
theorem Qi0 (p:PR Y) (e:Int):(Y.step p e).evs.length <=p.evs.length+1/\(Y.step p e).outs.length <=p.outs.length+1:=by
 unfold step;split
 ·unfold V4;split <;> simp
 ·simp
theorem qn0 (sc:Nat->Int):∀n,(Y.pn sc n).evs.length <=n/\(Y.pn sc n).outs.length <=Y.m+n
 |0=>by
  have h1:=(Ci0 (Y:=Y) Y.m).1;have h2:=mq0 (Y:=Y) Y.m;show(Y.D3 Y.m).evs.length <=0/\_;rw[h1];exact⟨Nat.le_refl _,by simpa [pn]using h2⟩
 |n+1=>by
  have h1:=qn0 sc n;have h2:=Qi0 (Y:=Y) (Y.pn sc n) (sc n);show(Y.step (Y.pn sc n) (sc n)).evs.length <=_/\(Y.step (Y.pn sc n) (sc n)).outs.length <=_;omega
theorem Cj0 {sc:Nat->Int} {n:Nat} (h:Y.rds (Y.pn sc n)=[]):∀k,Y.pn sc (n+k)=Y.pn sc n
 |0=>rfl
 |k+1=>by
  show Y.step (Y.pn sc (n+k)) (sc (n+k))=_;rw[Cj0 h k];unfold step;rw[h];rfl
theorem zr0 {p:PR Y} {j i:Nat} (h:(Y.rds p)[j]? =some i):i<Y.m/\Y.gz0 p i=true:=by
 have:=List.mem_of_getElem? h;simpa [rds]using this
end
end Sys
section
variable {Y:Sys}{fb:Nat->FuncId}{caps:Nat->Array Value}{fv:Nat->Value}{ba sa:Option Addr}{sn:Nat}{sc:Nat->Int}{Mn:Nat->Option Obj}{w0:World}{rb0:Nat}
variable (Y fb sn sc Mn w0 rb0) in
def JB (i:Nat) (X:Gh) (R:Rn) (w:World):Prop :=
 i <=Y.m/\(∃Γ,Main Y fb (Y.pn sc sn) w0 Γ X R w Mn (fun j=>(Y.D3 i).ft[j]?) (Y.D3 i).s)/\Tie Y rb0 (Y.D3 i) R/\R.wts=List.replicate Y.m sp0/\R.stuck=false
variable (Y fb sn sc Mn w0 rb0) in
def J2 (n:Nat) (X:Gh) (R:Rn) (w:World):Prop :=
 n <=sn/\(∃Γ,Main Y fb (Y.pn sc sn) w0 Γ X R w Mn (fun j=>(Y.pn sc n).ft[j]?) (Y.pn sc n).s)/\Tie Y rb0 (Y.pn sc n) R/\R.wts=List.replicate Y.m sp0/\R.stuck=false
variable (Y fb sn sc Mn w0 rb0) in
def JE (i:Nat) (X:Gh) (R:Rn) (w:World):Prop :=
 i <=Y.m/\(∃Γ,Main Y fb (Y.pn sc sn) w0 Γ X R w Mn (fun j=>if j<i then ba0 ((Y.pn sc sn).ft[j]?) else(Y.pn sc sn).ft[j]?) (Y.pn sc sn).s)/\Tie Y rb0 (Y.pn sc sn) R /\
  (∀j,j<Y.m->R.wts[j]? =some (if j<i then dp1 Y j ((Y.pn sc sn).ft[j]?) else sp0))/\R.stuck=((Y.pn sc sn).ft.any (·.isLeft)&&(Y.rds (Y.pn sc sn)).isEmpty)
theorem Main.get {Γ:Geo} {X:Gh} {R:Rn} {w:World} {q:PR Y} {ft:Nat->Option (Y.L ⊕ Nat)} {s:Y.S} (h:Main Y fb q w0 Γ X R w Mn ft s):∀b,Mn b≠none->w.heap[b]? =Mn b:=fun b hb=>(h.fix.mn b hb).1
theorem xq0 {i:Nat} (hi:i <=Y.m):Y.Le (Y.D3 i) (Y.pn sc sn):=by
 have h1:Y.Le (Y.D3 i) (Y.D3 Y.m):=by
  have:=Sys.Vz0 (Y:=Y) (n:=i) (k:=Y.m-i)
  rwa [Nat.add_sub_cancel' hi]at this
 have h2:Y.Le (Y.pn sc 0) (Y.pn sc (0+sn)):=Sys.ah1;rw[Nat.zero_add]at h2;exact h1.trans h2
theorem zs0 {n:Nat} (hi:n <=sn):Y.Le (Y.pn sc n) (Y.pn sc sn):=by
 have:=Sys.ah1 (Y:=Y) (sc:=sc) (n:=n) (k:=sn-n)
 rwa [Nat.add_sub_cancel' hi]at this
theorem Fo0 {i:Nat} (hi:i <=Y.m):(Y.D3 i).nts <+: (Y.pn sc sn).nts:=by
 have h1:(Y.D3 i).nts <+: (Y.D3 Y.m).nts:=by
  have:=Sys.Qg0 (Y:=Y) (n:=i) (k:=Y.m-i)
  rwa [Nat.add_sub_cancel' hi]at this
 have h2:(Y.pn sc 0).nts <+: (Y.pn sc (0+sn)).nts:=Sys.Qh0;rw[Nat.zero_add]at h2;exact h1.trans h2
theorem Qj0 {n:Nat} (hi:n <=sn):(Y.pn sc n).nts <+: (Y.pn sc sn).nts:=by
 have:=Sys.Qh0 (Y:=Y) (sc:=sc) (n:=n) (k:=sn-n)
 rwa [Nat.add_sub_cancel' hi]at this
theorem os0 {p:PR Y} {i:Nat} (hi:p.ft.length=i) (x:Y.L ⊕ Nat):(fun j=>if j=i then some x else p.ft[j]?)=fun j=>(p.ft ++ [x])[j]?:=by
 funext j;subst hi;rcases Nat.lt_trichotomy j p.ft.length with h|h|h
 ·rw[if_neg (by omega),List.getElem?_append_left h]
 ·subst h;simp
 ·rw[if_neg (by omega),List.getElem?_eq_none (by omega),List.getElem?_eq_none (by simp;omega)]
theorem Ij0 {p:PR Y} {i:Nat} (hi:i<p.ft.length) (x:Y.L ⊕ Nat):(fun j=>if j=i then some x else p.ft[j]?)=fun j=>(p.ft.set i x)[j]?:=by
 funext j;by_cases h:j=i
 ·subst h;simp[hi]
 ·rw[if_neg h,List.getElem?_set_ne (Ne.symm h)]
theorem mr0 {e:List Int} {i:Nat} {f:Y.L ⊕ Nat} {g:Nat->Option (Y.L ⊕ Nat)} {m:Nat} (h:∀j,j<m->e[j]? =some (ec0 (g j))) (hl:e.length=m) (h0:ec0 (g i)=0) (j:Nat) (hj:j<m):(mo0 e i f)[j]? =some (ec0 (if j=i then some f else g j)):=by
 cases f with
 |inl l=>
  show e[j]? =_;by_cases O3:j=i
  ·subst O3;rw[h j hj,h0,if_pos rfl];rfl
  ·rw[h j hj,if_neg O3]
 |inr x=>
  show(e.set i (x:Int))[j]? =_;by_cases O3:j=i
  ·subst O3;rw[if_pos rfl];simp[hl,hj];rfl
  ·rw[List.getElem?_set_ne (Ne.symm O3),h j hj,if_neg O3]
set_option maxRecDepth 20000 in
theorem dq1 (hO:ob0 Y fb caps fv ba sa sn sc) {Post:Value->World->Prop} {i:Nat} {X:Gh} {R:Rn} {w w':World} {a:Option Addr} {n cb rc:Nat} (hi:i<Y.m) (hJ:JB Y fb sn sc Mn w0 rb0 i X R w) (hf:fv i≠.nilFunc) (hcb:w.heap.size <=cb) (hrc:w.heap.size <=rc) (N3:cb≠rc) (hch:ChanAt w' rc)
  (hg:Rg R.fp w.heap.size w w' w0.heap.size {R with ca:=a,cc:=n,cl:=R.cl ++ [T4 cb rc]}) {me0:Goroutine} (hk:∀X' R' u v,JB Y fb sn sc Mn w0 rb0 (i+1) X' R' u->Fin prog Post X' 0 (Go.Conc.served me0 v) u) :
  Fin prog Post (Gh.hire {X.lower cb with pend:=1,cap:=X.cap+1,dn:=0} ⟨R.yb,.i 0,me0⟩) X.n (born prog (dcall 128 #[.p cb,fv i])) w':=by
 obtain⟨_,⟨Γ,hM⟩,hT,cy0,dg0⟩:=hJ;obtain⟨hn,hfv,fn,hfn,hbd,hnm⟩:Y.nil i=false/\fv i= .func (.func (fb i)) #[] (caps i)/\∃fn,prog.funcs[fb i]? =some fn/\fn.body.isSome=true/\(fn.name== "runtime.NumGoroutine")=false:=by
  rcases hO.fn i hi with h|h
  ·exact absurd h.2 hf
  ·exact h
 have hF:=hM.fix;have hlen:R.cl.length=i:=hT.len.trans (Sys.m7 i);have hok:=Sys.zo0 (Y:=Y) i;have hle:Y.Le (Y.D3 (i+1)) (Y.pn sc sn):=xq0 (by omega);have hbg:Y.D3 (i+1)={Y.D3 i with s:=(Y.beg i (Y.D3 i).s).s,ft:=(Y.D3 i).ft ++ [(Y.beg i (Y.D3 i).s).N1],nts:=(Y.D3 i).nts++tell i (Y.D3 i).evs.length (Y.beg i (Y.D3 i).s).nts,outs:=(Y.D3 i).outs ++ [Y.beg i (Y.D3 i).s],who:=(Y.D3 i).who ++ [none]}:=by
  show Y.bgn (Y.D3 i)=_;unfold Sys.bgn;rw[Sys.m7 i,hn];rfl
 generalize hp:Y.D3 i=p at *;have hs:Y.sAt (Y.pn sc sn) p.outs.length=p.s:=Sys.Wa0 hok (by rw[<- hp];exact xq0 (by omega));have ho:Y.S4 (Y.pn sc sn) p.outs.length=Y.beg i p.s:=Sys.Pz0 (p':=Y.D3 (i+1)) (by rw[hbg]) hle;obtain⟨F,hinv,hFf⟩:=hM.inv;have bn0:=hO.sys.vis _ _ _ _ hinv;refine Fin.chan (b:=rc) (k:=0) ⟨fun j x hx=>?_,(hF.under.ju0 hrc).y5,(hF.under.ju0 hrc).chs,(hF.under.ju0 hrc).J4⟩ (fun z=>?_) (hF.w7 rc hrc) hch ?_
 ·exact(hF.under.ju0 hrc).stay j x hx
 ·rcases z with z|z
  ·have:=hF.under.low rc z;omega
  ·exact N3 z.symm
 have hrl:=hch.lt;have sf1:O1 w' cb ((T4 cb rc).cells R.rb i) 248 (0,3):=hg.m.blk i (T4 cb rc) (by show(R.cl ++ [T4 cb rc])[i]? =_;rw[<- hlen];simp);have Pg0:∀b,b≠rc->(X2 w' rc nothing).heap[b]? =w'.heap[b]?:=fun b hb=>z7 _ _ (Ne.symm hb);have mt1:O1 (X2 w' rc nothing) cb ((T4 cb rc).cells R.rb i) 248 (0,3):=(Pg0 cb N3).trans sf1;have mg1:(X2 w' rc nothing).heap.size=w'.heap.size:=by simp[X2]
 have sg1:¬Rn.fp {R with ca:=a,cc:=n,cl:=R.cl ++ [T4 cb rc]} rc:=fun z=>by
  have hx:=hch;have own:∀{E:TypeId} {s n c:Nat} {a:Option Addr} {xs:List Value},Own w' w0.heap.size E s a n c xs->a≠none->rc=ab a->False:=fun h ha e=>by
   obtain⟨cur,hB,_⟩:=h.row ha;unfold ChanAt at hx;rw[e]at hx;unfold K0 at hB;rw[hx]at hB;cases hB
  have blk:∀{b:Nat} {cs:Array Value} {T:TypeId} {f:Nat×Nat},O1 w' b cs T f->rc=b->False:=fun h e=>by
   unfold ChanAt at hx;rw[e]at hx;unfold O1 at h;rw[hx]at h;cases h
  rcases z with e|e|e|⟨ha,e⟩|⟨ha,e⟩|⟨ha,e⟩|⟨j,c,hc,e⟩
  ·exact blk hg.m.run e
  ·exact blk hg.m.ends e
  ·exact blk hg.m.wts e
  ·exact own hg.m.cls ha e
  ·exact own hg.m.evs ha e
  ·exact own hg.m.nts ha e
  ·exact blk (hg.m.blk j c hc) e
 have hM2:w5 (X2 w' rc nothing) w0.heap.size {R with ca:=a,cc:=n,cl:=R.cl ++ [T4 cb rc]}:=hg.m.congr fun b hb=>Pg0 b fun e=>sg1 (e▸hb);refine Fin.stay (l:=[(⟨cb,2,none⟩,.chan (some rc))]) (fun x hx=>?_) ?_
 ·simp at hx;subst hx;exact⟨mt1.q0 2 rfl,by rw[mt1.frozen];rfl⟩
 show Fin prog Post (Cf0 X cb rc ⟨R.yb,.i 0,me0⟩) X.n _ _;rw[hfv];refine Pm0 (i:=i) (c:=T4 cb rc) hfn hbd hnm hM2 (by show(R.cl ++ [T4 cb rc])[i]? =_;rw[<- hlen];simp) fun w1 top M8 Y7 O7 lA lE hA hE sh1=>?_;have dg1:w.heap.size <=w1.heap.size:=Nat.le_trans hg.md.size (by have:=O7.size;omega);have J1:∀b,b<w.heap.size->¬R.fp b->w1.heap[b]? =w.heap[b]?:=fun b hb hf=>by
  rw[O7.block b (by have:=hg.md.size;omega),Pg0 b (by omega)];exact hg.md.block b hb hf
 have hM1:=hM2.j0 O7;have mu1:∀b,Rn.fp {R with ca:=a,cc:=n,cl:=R.cl ++ [T4 cb rc]} b->b<(X2 w' rc nothing).heap.size:=fun b hb=>hM2.lt hb;have hsA:w.heap.size <=(X2 w' rc nothing).heap.size:=by rw[mg1];exact hg.md.size
 have oh0:=hF.hire hO.sys.toLeOk (s:=⟨R.yb,.i 0,me0⟩) (top:=top) hn hlen rfl hM1 dg1 ⟨O7.os.trans hg.md.os,O7.output.trans hg.md.output⟩ J1 hg.fp hcb ⟨hrc,by have:=O7.size;omega⟩ (by omega) (by omega) hA hE (fun z=>by have:=mu1 _ z;omega) (fun z=>by have:=mu1 _ z;omega) sh1;refine bz0 _ _ fun nv=>?_;haveI:DecidablePred F:=fun _=>Classical.propDecidable _;refine lh0 F (cu0 (τ:=tpT w1 p.outs.length 0 0 Γ.gm) (d:=w1.drawn) ?_);have mv1:∀b,(Rn.fp {R with ca:=a,cc:=n,cl:=R.cl ++ [T4 cb rc]} b\/Kept Y (Γ.add i X.n M8 Y7 top) {R with ca:=a,cc:=n,cl:=R.cl ++ [T4 cb rc]} Mn b)->¬F b:=fun b hb hFb=>by
  have hv:=bn0 b hFb;have hff:=hFf b hFb;rcases hb with hb|hb|⟨k,hk,hnk,hb⟩|⟨j,hb⟩
  ·rcases hg.fp b hb with z|z
   ·exact hff.1 z
   ·omega
  ·exact hff.2 (.inl hb)
  ·by_cases hki:k=i
   ·subst hki;have h1:(Γ.add k X.n M8 Y7 top).ab k=M8:=Y0;have h2:(Γ.add k X.n M8 Y7 top).eb k=Y7:=Y0;rw[h1,h2]at hb;omega
   ·have h1:(Γ.add i X.n M8 Y7 top).ab k=Γ.ab k:=Z0 hki;have h2:(Γ.add i X.n M8 Y7 top).eb k=Γ.eb k:=Z0 hki;rw[h1,h2]at hb;refine hff.2 (.inr (.inl ⟨k,?_,hnk,hb⟩));have hk':k<(R.cl ++ [T4 cb rc]).length:=hk;rw[List.length_append,List.length_singleton]at hk';omega
  ·by_cases O3:j=i
   ·subst O3;have h1:(Γ.add j X.n M8 Y7 top).pv j=fun _=>False:=Y0;rw[h1]at hb;exact hb
   ·have h1:(Γ.add i X.n M8 Y7 top).pv j=Γ.pv j:=Z0 O3;rw[h1]at hb;exact hff.2 (.inr (.inr ⟨j,hb⟩))
 have hgi:(Γ.add i X.n M8 Y7 top).gi i=X.n:=Y0;have hti:(Γ.add i X.n M8 Y7 top).top i=top:=Y0;have Cg0:(Γ.add i X.n M8 Y7 top).eb i=Y7:=Y0;have hpk:Y.Z1 (Y.pn sc sn) i p.outs.length=0:=by
  unfold Sys.Z1;obtain⟨l,hl⟩:=hle.who;have hw:=hok.who;rw[<- hl,hbg];rw[List.take_append_of_le_length (by simp[hw]),List.take_of_length_le (by simp[hw])];have:=Sys.ir0 (Y:=Y) i i;rw[hp]at this;simp[this]
 have K3:=bs0.enter (q:=Y.pn sc sn) (i:=i) (t:=p.outs.length) (at_:=p.evs.length) (cb:=cb) (n0:=p.nts) (R0:={R with ca:=a,cc:=n,cl:=R.cl ++ [T4 cb rc]}) (τ:=tpT w1 p.outs.length 0 0 Γ.gm) (d:=w1.drawn) hO.sys.toLeOk F oh0 mv1 nv rfl (tpm _ _ _ _ _ _ _) (congrArg List.length hT.evs) ⟨T4 cb rc,by show(R.cl ++ [T4 cb rc])[i]? =_;rw[<- hlen];simp,rfl,.inl ⟨rfl,rfl,by
  show R.nts=_;rw[tp1,hT.nts];simp[tell],hpk.symm⟩⟩ ⟨R.na,R.nc,R.nts,rfl⟩ hn (by rw[Cg0];exact hE)
 have S2:Fn0 (Y.cfg fb (Y.pn sc sn) w0 i cb top) (Y.beg i) (Yc.V2 (S3 F w1) (tpT w1 p.outs.length 0 0 Γ.gm) w1.drawn) F:=by
  refine⟨?_,rfl,rfl,?_,?_,?_,⟨show p.outs.length <=300000 by have h1:=Sys.mq0 (Y:=Y) i;rw[hp]at h1;have h2:=hO.m1;omega,p,.inl ⟨i,by omega,hp.symm⟩,rfl,hs.symm,by rw[<- hp];exact Sys.m7 i⟩⟩
  ·show Y.Inv (Y.sAt (Y.pn sc sn) p.outs.length) (gm (Yc.V2 (S3 F w1) (tpT w1 p.outs.length 0 0 Γ.gm) w1.drawn)) _ _;rw[hs,tpm];refine hO.sys.loc _ _ w _ F hinv fun b hb=>?_;show(S3 F w1).heap[b]? =_;rw[ci0 _ hb,J1 b (bn0 b hb).1 (hFf b hb).1]
  ·show Y.S4 (Y.pn sc sn) p.outs.length=Y.beg i (Y.sAt (Y.pn sc sn) p.outs.length);rw[hs,ho]
  ·exact(O7.os.trans hg.md.os).trans (hF.os rfl)
  ·exact(O7.output.trans hg.md.output).trans (hF.output rfl)
 have hpr:=hO.body w0 i cb top _ F hi hn S2;have key:=kf0 (Post:=Post) (z0:=.i 0) (me0:=me0) (st:=false) (X:=Cf0 X cb rc ⟨R.yb,.i 0,me0⟩) (Γ:=Γ.add i X.n M8 Y7 top) (Mn:=Mn) (ft:=fun j=>p.ft[j]?) (t:=p.outs.length) (at_:=p.evs.length) (n0:=p.nts) (R0:={R with ca:=a,cc:=n,cl:=R.cl ++ [T4 cb rc]}) hO.sys (show Go.ConcN.upd X.W1 0 _ 0=_ from Go.ConcN.upd_same _ _ _) (by
   have h1:=(Fo0 (Y:=Y) (sc:=sc) (sn:=sn) (i:=i+1) (by omega)).length_le;have h2:=hO.nts;rw[hbg]at h1;rw[ho];simp[tell]at h1;omega) (fun Γ' X' R' w2 hA=>?_) (by rw[hti];exact hpr) _ _ K3 (fun c hc=>by
    have H8:(R.cl ++ [T4 cb rc])[i]? =some c:=hc;rw[<- hlen]at H8;simp at H8;rw[<- H8])
 ·rw[hgi]at key;exact key
 ·rcases hA with⟨_,hM',na,nc,c,c',hc,hcp,hR⟩|⟨z,_⟩
  ·have hc:(R.cl ++ [T4 cb rc])[i]? =some c:=hc;have hc0:c=T4 cb rc:=by rw[<- hlen]at hc;simp at hc;exact hc.symm
   rw[ho,os0 (by rw[<- hp];exact Sys.m7 i)]at hM';refine hk X' R' w2 _ ?_;subst hR;refine⟨by omega,⟨Γ',by rw[hbg];exact hM'⟩,?_,cy0,dg0⟩;rw[hbg];refine⟨hT.rb,hT.evs,?_,hT.used,?_,fun j d hd=>?_,fun j hj=>?_⟩
   ·show p.nts++tell i R.evs.length (Y.S4 (Y.pn sc sn) p.outs.length).nts=_;rw[hT.evs,ho]
   ·show((R.cl ++ [T4 cb rc]).set i c').length=_;simp[hT.len]
   ·have L6:((R.cl ++ [T4 cb rc]).set i c')[j]? =some d:=hd;show d.Z1=(p.who ++ [none]).count (some j);have hz:p.who.count (some j)=0:=by rw[<- hp];exact Sys.ir0 i j
    rw[List.getElem?_set]at L6;by_cases O3:i=j
    ·subst O3;rw[if_pos rfl,if_pos (by simp[hlen])]at L6;obtain rfl:=Option.some.inj L6;rw[hcp,hc0];simp[hz]
    ·rw[if_neg O3]at L6;rcases ac0 L6 with z|⟨z,_⟩
     ·rw[hT.Z1 j d z];simp
     ·omega
   ·show(mo0 R.ends i (Y.S4 (Y.pn sc sn) p.outs.length).N1)[j]? =some (ec0 ((p.ft ++ [(Y.beg i p.s).N1])[j]?));have hpl:p.ft.length=i:=by rw[<- hp];exact Sys.m7 i
    have h0:=mr0 (Y:=Y) (f:=(Y.beg i p.s).N1) (g:=fun j=>p.ft[j]?) (i:=i) hT.ends (by rw[hF.mem.hw0,hF.m]) (by show ec0 p.ft[i]? =0;rw[List.getElem?_eq_none (by omega)];rfl) j hj;rw[ho,h0];exact congrArg (fun f:Nat->Option (Y.L ⊕ Nat)=>some (ec0 (f j))) (os0 hpl (Y.beg i p.s).N1)
  ·cases z
end
end Go.Vy.Sc
end
section
namespace Go.Vy.Sc
open Go Go.Conc Go.Yc Go.RowKit Go.Proofs Go.Proofs.YtinppmaojmdmhaaGreat Tryz
open Go.Vc Go.Wg
section
attribute [local irreducible] KK
theorem Wg0 {Post:Value->World->Prop} {X:Gh} {h:Nat} {H:Hid} {cs:List Frame} {cb:Nat} {df:Value} {me:Goroutine} {u:World} {K:World->Prop} (h0:(h==0)=false) {num:Nat} (hme:qh0 cs cb df me) (hd:Jt0 prog (I5 prog 172 cb num) df u K)
  (si1:Nt0 prog 172->∀cs2 u2,Evo u u2->u2.tape=u.tape->(∀fr,fr.fn=172->Leaves prog fr u2 (.returned (.i num))->la0 prog Post X h H (G fr cs2) u2)->la0 prog Post X h H (G (Frame.enter prog 172 #[.p cb] .normal) cs2) u2)
  (hk:∀u2 fr,Evo u u2->u2.tape=u.tape->K u2->fr.fn=126->Leaves prog fr u2 (.returned (.tuple #[]))->la0 prog Post X h H (G fr cs) u2):la0 prog Post X h H (Go.Conc.served me (.bool true)) u:=by
 have r7:Cl prog false (fun g x=>Evo u x->x.tape=u.tape->la0 prog Post X h H g x):=⟨fun g x hr hs he ht=>pv0 hr fun τ d=>by
  obtain⟨g',u',d',hF,hz⟩:=hs τ d;exact⟨g',u',by rw[h0];exact hF,fun x9=>cu0 (hz (he.trans ⟨x9.size,x9.obj⟩) ht)⟩⟩
 exact hme.yes (I5 prog 172 cb num) (fun g x=>Evo u x->x.tape=u.tape->la0 prog Post X h H g x) ⟨⟨r7,fun g x hz he ht=>Ib0.2 _ _ fun hv=>hz hv he ht⟩,fun hN cs2 u2 hz he ht=>si1 hN cs2 u2 he ht fun fr h3 h4=>hz fr h3 h4 he ht⟩ u K hd (fun u2 fr h1 h2 h3 he ht=>hk u2 fr he ht h1 h2 h3) (Evo.refl u) rfl
section
variable {Y:Sys}{fb:Nat->FuncId}{caps:Nat->Array Value}{fv:Nat->Value}{ba sa:Option Addr}{sn:Nat}{sc:Nat->Int}{Mn:Nat->Option Obj}{w0:World}{rb0:Nat}
theorem Wh0 {Γ:Geo} {i:Nat} {N:Nat->Prop}:(Γ.put i N).pv i=N:=by funext b;simp[Geo.put]
theorem xr0 {q:PR Y} {Γ:Geo} {X:Gh} {R R1:Rn} {w:World} {ft:Nat->Option (Y.L ⊕ Nat)} {i:Nat} (hF:Fix Y fb q w0 Γ X R w Mn none ft) (hfp:∀b,R1.fp b->R.fp b\/w.heap.size <=b) (hlen:R1.cl.length=R.cl.length) {F:Nat->Prop} (hFf:∀b,F b->¬R.fp b/\¬Kept Y Γ R Mn b) (hFs:∀b,F b->b<w.heap.size) (b:Nat)
  (hb:R1.fp b\/Kept Y (Γ.put i fun _=>False) R1 Mn b):¬(Γ.pv i b\/F b):=by
 intro hV;have hl:b<w.heap.size/\¬R.fp b:=by
  rcases hV with h|h
  ·exact⟨(hF.pv i b h).1,(hF.pv i b h).2.1⟩
  ·exact⟨hFs b h,(hFf b h).1⟩
 rcases hb with hb|hb|⟨k,hk,hnk,hb⟩|⟨j,hb⟩
 ·rcases hfp b hb with z|z
  ·exact hl.2 z
  ·omega
 ·rcases hV with h|h
  ·exact(hF.pv i b h).2.2.1 hb
  ·exact(hFf b h).2 (.inl hb)
 ·rw[hlen]at hk;rcases hV with h|h
  ·have:=(hF.pv i b h).2.2.2.1 k hk hnk;rcases hb with hb|hb
   ·exact this.1 hb
   ·exact this.2 hb
  ·exact(hFf b h).2 (.inr (.inl ⟨k,hk,hnk,hb⟩))
 ·by_cases O3:j=i
  ·subst O3;rw[Wh0]at hb;exact hb
  ·rw[zp0 O3]at hb;rcases hV with h|h
   ·exact(hF.pv i b h).2.2.2.2 j O3 hb
   ·exact(hFf b h).2 (.inr (.inr ⟨j,hb⟩))
theorem Fix.waits {q:PR Y} {Γ:Geo} {X:Gh} {R:Rn} {w:World} {ft:Nat->Option (Y.L ⊕ Nat)} (hF:Fix Y fb q w0 Γ X R w Mn none ft) {i:Nat} {c:CB} (hc:R.cl[i]? =some c):(c.wt=true/\Y.nil i=false/\∃l,ft i=some (.inl l)/\Wt Y fb q w0 Γ X w i c l)\/(c.wt=false/\∃x,ft i=some (.inr x)/\(Y.nil i=true\/X.W1 (Γ.gi i)=none)):=by
 obtain⟨f,h1,h2⟩:=hF.cl i c hc (by simp);rcases h2 with⟨h3,h4,h5,h6⟩|⟨h3,h4⟩
 ·exact .inr ⟨h5,1,by rw[h1,h4],.inl h3⟩
 ·cases f with
  |inl l=>exact .inl ⟨h4.wt,h3,l,h1,h4⟩
  |inr x=>exact .inr ⟨h4.1,x,h1,.inr h4.2.2⟩
theorem Wt.j4 (hY:qm0 Y) {q:PR Y} {Γ:Geo} {X:Gh} {R:Rn} {w:World} {i:Nat} {c:CB} {l:Y.L} {F:Nat->Prop} {s:Y.S} {wn:World} {mn:Gm} {Fn:Nat->Prop} (hpv:∀b,Γ.pv i b↔b<wn.heap.size/\wn.heap[b]? ≠some nothing/\¬Fn b) (cx0:∀b,Γ.pv i b->w.heap[b]? =wn.heap[b]?) (hos:wn.os=w0.os) (gl0:wn.output=w0.output) (N2:wn.heap.size <=w.heap.size) (Fp0:Y.le i mn Γ.gm)
  (hinv:Y.Inv s Γ.gm w F) (hFf:∀b,F b->¬Γ.pv i b) {u:World} (hu:∀b,Γ.pv i b\/F b->u.heap[b]? =w.heap[b]?) (sj1:w.heap.size <=u.heap.size) (sk1:u.os=w0.os) (mw1:u.output=w0.output) (hs:Y.sAt q (gh u 0)=s) (hgm:gm u=Γ.gm) {cb:Nat} {top:List Frame}:(Y.cfg fb q w0 i cb top).y6 wn mn Fn u F:=by
 refine⟨Nat.le_trans N2 sj1,fun b hb h1 h2=>?_,?_,by rw[hgm];exact Fp0,sk1.trans hos.symm,mw1.trans gl0.symm⟩
 ·have hp:=(hpv b).2 ⟨hb,h1,h2⟩;exact⟨(hu b (.inl hp)).trans (cx0 b hp),fun z=>hFf b z hp⟩
 ·show Y.Inv (Y.sAt q (gh u 0)) (gm u) u F;rw[hs,hgm];exact hY.loc _ _ w u F hinv fun b hb=>hu b (.inr hb)
set_option maxRecDepth 20000 in
theorem Wi0 (hO:ob0 Y fb caps fv ba sa sn sc) {Post:Value->World->Prop} {n:Nat} {X:Gh} {R:Rn} {w:World} {i:Nat} {c:CB} (hJ:J2 Y fb sn sc Mn w0 rb0 n X R w) (hn:n<sn) (ak1:(Y.rds (Y.pn sc n))[aa0 (sc n) (Y.rds (Y.pn sc n)).length]? =some i) (hc:R.cl[i]? =some c) :
  ∃g z1 me1,g≠0/\X.W1 g=some ⟨c.rc,z1,me1⟩/\X.dn=0/\X.stay 0=[(⟨R.rb,7,none⟩,.chan (some R.yb))]/\(X.chs R.yb/\∀i s2,i≠g->X.W1 i=some s2->s2.ch≠R.yb) /\
  ∀w' a nn me0,Rg R.fp w.heap.size w w' w0.heap.size {R with ea:=a,ec:=nn,evs:=R.evs ++ [(i,c.sp)],used:=R.used+1,cl:=R.cl.set i {c with Z1:=c.Z1+1,wt:=false}}->(∀X' R' u v,J2 Y fb sn sc Mn w0 rb0 (n+1) X' R' u->Fin prog Post X' 0 (Go.Conc.served me0 v) u)->Fin prog Post (X.pass 0 g (some ⟨R.yb,.i 0,me0⟩)) g (Go.Conc.served me1 (.bool true)) w':=by
 obtain⟨_,⟨Γ,hM⟩,hT,cy0,dg0⟩:=hJ;have hF:=hM.fix;obtain⟨him,hri⟩:=Sys.zr0 ak1;have hle:Y.Le (Y.pn sc (n+1)) (Y.pn sc sn):=zs0 (by omega);have dr1:Y.Le (Y.pn sc n) (Y.pn sc sn):=zs0 (by omega);have hok:=Sys.Cb0 (Y:=Y) sc n;have hlp:(Y.pn sc n).ft.length=Y.m:=Sys.br0 sc n;have bi0:Y.pn sc (n+1)=Y.V4 (Y.pn sc n) i:=by
  show Y.step (Y.pn sc n) (sc n)=_;unfold Sys.step;rw[ak1]
 have al1:=(Qj0 (Y:=Y) (sc:=sc) (sn:=sn) (n:=n+1) (by omega)).length_le;generalize hp:Y.pn sc n=p at *;obtain⟨l,hl,hrl⟩:∃l,p.ft[i]? =some (.inl l)/\Y.rdy i l p.s=true:=by
  unfold Sys.gz0 at hri;cases hx:p.ft[i]? with
  |none=>rw[hx]at hri;cases hri
  |some f=>
   cases f with
   |inl l=>rw[hx]at hri;exact⟨l,rfl,hri⟩
   |inr x=>rw[hx]at hri;cases hri
 obtain⟨hwt,hnl,l',J7,hW⟩:c.wt=true/\Y.nil i=false/\∃l,p.ft[i]? =some (.inl l)/\Wt Y fb (Y.pn sc sn) w0 Γ X w i c l:=by
  rcases hF.waits hc with h|⟨_,x,h,_⟩
  ·exact h
  ·have h:p.ft[i]? =some (.inr x):=h;rw[hl]at h;cases h
 obtain rfl:l=l':=by rw[hl]at J7;exact Sum.inl.inj (Option.some.inj J7)
 have htn:Y.V4 p i={p with s:=(Y.go i l p.s).s,ft:=p.ft.set i (Y.go i l p.s).N1,evs:=p.evs ++ [(i,Y.stp i l)],nts:=p.nts++tell i (p.evs.length+1) (Y.go i l p.s).nts,outs:=p.outs ++ [Y.go i l p.s],who:=p.who ++ [some i],used:=p.used+1}:=by
  unfold Sys.V4;rw[hl]
 have hs:Y.sAt (Y.pn sc sn) p.outs.length=p.s:=Sys.Wa0 hok dr1;have ho:Y.S4 (Y.pn sc sn) p.outs.length=Y.go i l p.s:=Sys.Pz0 (p':=Y.pn sc (n+1)) (by rw[bi0,htn]) hle;obtain⟨h1,S2,hsp,heb,me,cs,wn,mn,Fn,Rdo,S7,hme,hrf,hdf,hpv,cx0,hos,gl0,N2,Fp0,hdo,hgo,pd0⟩:=hW;have hgp:=(hF.ck i c hc hnl).fi0;have hg0:(Γ.gi i==0)=false:=by simp;omega
 refine⟨Γ.gi i,.bool false,me,by omega,S7,hF.dn,hF.nz0,⟨hF.chy,fun j s2 hj hs2=>?_⟩,fun w' a nn me0 hg hk=>?_⟩
 ·by_cases hj0:j=0
  ·subst hj0;rw[hF.ql0 rfl]at hs2;cases hs2
  ·obtain⟨k,d,h2,h3,_,h4,_⟩:=hF.L4 j s2 hj0 hs2;rw[h4];exact hF.ry k d h2 h3
 have M7:=(List.getElem?_eq_some_iff.1 hc).1;obtain⟨F,hinv,hFf⟩:=hM.inv;have bn0:=hO.sys.vis _ _ _ _ hinv;have J1:∀b,b<w.heap.size->¬R.fp b->w'.heap[b]? =w.heap[b]?:=hg.md.block;have oh0:=(hF.mm1 hO.sys.toLeOk hnl hc (s0:=⟨R.yb,.i 0,me0⟩)).V4 hO.sys.toLeOk (w':=w') (R':={R with ea:=a,ec:=nn,evs:=R.evs ++ [(i,c.sp)],used:=R.used+1,cl:=R.cl.set i {c with Z1:=c.Z1+1,wt:=false}}) hg.m rfl rfl rfl hg.fp (by simp) (fun j d hd=>by
  have L6:(R.cl.set i {c with Z1:=c.Z1+1,wt:=false})[j]? =some d:=hd;rw[List.getElem?_set]at L6;by_cases hj:i=j
  ·subst hj;rw[if_pos rfl,if_pos M7]at L6;obtain rfl:=Option.some.inj L6;exact⟨c,hc,rfl,rfl,fun z=>absurd rfl z⟩
  ·rw[if_neg hj]at L6;exact⟨d,L6,rfl,rfl,fun _=>⟨rfl,rfl⟩⟩) hg.md.size (fun b hb hf _=>.inl (J1 b hb hf)) (fun z=>by cases z)
 refine bz0 _ _ fun nv=>?_;haveI:DecidablePred fun b=>Γ.pv i b\/F b:=fun _=>Classical.propDecidable _;refine lh0 (fun b=>Γ.pv i b\/F b) (cu0 (τ:=tpT w' p.outs.length 0 0 Γ.gm) (d:=w'.drawn) ?_);have Mb0:=xr0 (i:=i) (R1:={R with ea:=a,ec:=nn,evs:=R.evs ++ [(i,c.sp)],used:=R.used+1,cl:=R.cl.set i {c with Z1:=c.Z1+1,wt:=false}}) hF hg.fp (by simp) hFf (fun b hb=>(bn0 b hb).1);have hpk:Y.Z1 (Y.pn sc sn) i p.outs.length=c.Z1+1:=by
  unfold Sys.Z1;obtain⟨l',J7⟩:=hle.who;have hw:=hok.who;rw[<- J7,bi0,htn];rw[List.take_append_of_le_length (by simp[hw]),List.take_of_length_le (by simp[hw])];rw[hT.Z1 i c hc];simp
 have K3:=bs0.enter (q:=Y.pn sc sn) (i:=i) (t:=p.outs.length) (at_:=p.evs.length+1) (cb:=c.cb) (n0:=p.nts) (R0:={R with ea:=a,ec:=nn,evs:=R.evs ++ [(i,c.sp)],used:=R.used+1,cl:=R.cl.set i {c with Z1:=c.Z1+1,wt:=false}}) (τ:=tpT w' p.outs.length 0 0 Γ.gm) (d:=w'.drawn) hO.sys.toLeOk (fun b=>Γ.pv i b\/F b) oh0 Mb0 nv rfl (tpm _ _ _ _ _ _ _) (by show(R.evs ++ [(i,c.sp)]).length=_;rw[hT.evs];simp)
  ⟨{c with Z1:=c.Z1+1,wt:=false},by show(R.cl.set i _)[i]? =_;simp[M7],rfl,.inl ⟨rfl,S2,by
   show R.nts=_;rw[tp1,hT.nts];simp[tell],hpk.symm⟩⟩ ⟨R.na,R.nc,R.nts,rfl⟩ hnl ((J1 _ heb.lt (hF.side i M7 hnl).2.2.2).trans heb)
 have qo0:∀b,Γ.pv i b\/F b->b<w.heap.size/\¬R.fp b:=fun b hb=>by
  rcases hb with h|h
  ·exact⟨(hF.pv i b h).1,(hF.pv i b h).2.1⟩
  ·exact⟨(bn0 b h).1,(hFf b h).1⟩
 have am1:(Y.cfg fb (Y.pn sc sn) w0 i c.cb (Γ.top i)).Goes wn mn Fn l (Yc.V2 (S3 (fun b=>Γ.pv i b\/F b) w') (tpT w' p.outs.length 0 0 Γ.gm) w'.drawn) F:=by
  refine⟨Wt.j4 (u:=Yc.V2 (S3 (fun b=>Γ.pv i b\/F b) w') (tpT w' p.outs.length 0 0 Γ.gm) w'.drawn) (q:=Y.pn sc sn) (X:=X) (R:=R) (c:=c) (l:=l) hO.sys hpv cx0 hos gl0 N2 Fp0 hinv (fun b hb z=>(hFf b hb).2 (.inr (.inr ⟨i,z⟩))) (fun b hb=>?_) ?_ (hg.md.os.trans (hF.os rfl)) (hg.md.output.trans (hF.output rfl)) hs (tpm _ _ _ _ _ _ _),rfl,rfl,?_,?_,⟨show p.outs.length <=300000 by have h1:=(Sys.qn0 (Y:=Y) sc n).2;rw[hp]at h1;have h2:=hO.m1;have h3:=hO.sn1;omega,p,.inr ⟨sc,n,hp.symm⟩,rfl,hs.symm,hl⟩⟩
  ·show(S3 (fun b=>Γ.pv i b\/F b) w').heap[b]? =_;rw[ci0 (V:=fun b=>Γ.pv i b\/F b) w' hb,J1 b (qo0 b hb).1 (qo0 b hb).2]
  ·show w.heap.size <=(S3 (fun b=>Γ.pv i b\/F b) w').heap.size;rw[aq0];exact hg.md.size
  ·show Y.S4 (Y.pn sc sn) p.outs.length=Y.go i l (Y.sAt (Y.pn sc sn) p.outs.length);rw[hs,ho]
  ·show Y.rdy i l (Y.sAt (Y.pn sc sn) p.outs.length)=true;rw[hs];exact hrl
 refine Wg0 hg0 hme (hdo _ F am1) (fun hN=>by
  obtain⟨fn,h1,h2⟩:=hN;have h1:prog.funcs[172]? =some fn:=h1;rw[func172]at h1;cases h1;exact absurd h2 (by rw[show Tryz.f172.body.isSome=false by kernel_rfl];exact fun h=>by cases h)) fun u2 fr he ht hr hfn hlv=>?_
 refine kf0 (z0:=.i 0) (me0:=me0) (st:=false) (cb:=c.cb) (Γ:=Γ.put i fun _=>False) (Mn:=Mn) (ft:=fun j=>p.ft[j]?) (t:=p.outs.length) (at_:=p.evs.length+1) (n0:=p.nts) (R0:={R with ea:=a,ec:=nn,evs:=R.evs ++ [(i,c.sp)],used:=R.used+1,cl:=R.cl.set i {c with Z1:=c.Z1+1,wt:=false}}) hO.sys bm0 ?_ (fun Γ' X' R' w2 hA=>?_) (hgo _ F u2 am1 hr ht fr hfn hlv) _ _ (K3.evo hO.sys.toLeOk he ht) (fun d hd=>?_)
 ·rw[bi0,htn]at al1;have:=hO.nts;rw[ho];simp[tell]at al1;omega
 ·rcases hA with⟨_,hM',na,nc,c0,c',hc0,hcp,hR⟩|⟨z,_⟩
  ·have hc0:(R.cl.set i {c with Z1:=c.Z1+1,wt:=false})[i]? =some c0:=hc0;have ds1:c0.Z1=c.Z1+1:=by simp[M7]at hc0;rw[<- hc0]
   rw[ho,Ij0 (by omega)]at hM';refine hk X' R' w2 _ ?_;subst hR;refine⟨by omega,⟨Γ',by rw[bi0,htn];exact hM'⟩,?_,cy0,dg0⟩;rw[bi0,htn];refine⟨hT.rb,?_,?_,?_,?_,fun j d hd=>?_,fun j hj=>?_⟩
   ·show R.evs ++ [(i,c.sp)]=p.evs ++ [(i,Y.stp i l)];rw[hT.evs,hsp]
   ·show p.nts++tell i (R.evs ++ [(i,c.sp)]).length (Y.S4 (Y.pn sc sn) p.outs.length).nts=p.nts++tell i (p.evs.length+1) (Y.go i l p.s).nts;rw[hT.evs,ho];simp
   ·show R.used+1=p.used+1;rw[hT.used]
   ·show((R.cl.set i {c with Z1:=c.Z1+1,wt:=false}).set i c').length=(p.ft.set i _).length;simp[hT.len]
   ·have L6:((R.cl.set i {c with Z1:=c.Z1+1,wt:=false}).set i c')[j]? =some d:=hd;show d.Z1=(p.who ++ [some i]).count (some j);rw[List.getElem?_set]at L6;by_cases O3:i=j
    ·subst O3;rw[if_pos rfl,if_pos (by simp[M7])]at L6;obtain rfl:=Option.some.inj L6;rw[hcp,ds1,hT.Z1 i c hc];simp
    ·rw[if_neg O3,List.getElem?_set_ne O3]at L6;rw[hT.Z1 j d L6];simp[O3]
   ·show(mo0 R.ends i (Y.S4 (Y.pn sc sn) p.outs.length).N1)[j]? =some (ec0 ((p.ft.set i (Y.go i l p.s).N1)[j]?));have h0:=mr0 (Y:=Y) (f:=(Y.go i l p.s).N1) (g:=fun j=>p.ft[j]?) (i:=i) hT.ends (by rw[hF.mem.hw0,hF.m]) (by show ec0 p.ft[i]? =0;rw[hl];rfl) j hj;rw[ho,h0];exact congrArg (fun f:Nat->Option (Y.L ⊕ Nat)=>some (ec0 (f j))) (Ij0 (by omega) (Y.go i l p.s).N1)
  ·cases z
 ·have L6:(R.cl.set i {c with Z1:=c.Z1+1,wt:=false})[i]? =some d:=hd;simp[M7]at L6;rw[<- L6];exact S2
set_option maxRecDepth 20000 in
theorem Wj0 (hO:ob0 Y fb caps fv ba sa sn sc) {Post:Value->World->Prop} {X:Gh} {R:Rn} {w:World} {i:Nat} {c:CB} (hJ:JE Y fb sn sc Mn w0 rb0 i X R w) (hc:R.cl[i]? =some c) (hwt:c.wt=true) :
  ∃g z1 me1,g≠0/\X.W1 g=some ⟨c.rc,z1,me1⟩/\X.dn=0/\X.stay 0=[(⟨R.rb,7,none⟩,.chan (some R.yb))]/\(X.chs R.yb/\∀i s2,i≠g->X.W1 i=some s2->s2.ch≠R.yb) /\
  ∀w' me0,Rg R.fp w.heap.size w w' w0.heap.size {R with wts:=R.wts.set i c.sp}->(∀X' R' u v,JE Y fb sn sc Mn w0 rb0 (i+1) X' R' u/\R'.ca=R.ca/\R'.cc=R.cc->Fin prog Post X' 0 (Go.Conc.served me0 v) u)->Fin prog Post (X.pass 0 g (some ⟨R.yb,.i 0,me0⟩)) g (Go.Conc.served me1 (.bool false)) w':=by
 obtain⟨_,⟨Γ,hM⟩,hT,cy0,dg0⟩:=hJ;have hF:=hM.fix;have M7:=(List.getElem?_eq_some_iff.1 hc).1;have hlp:(Y.pn sc sn).ft.length=Y.m:=Sys.br0 sc sn;have him:i<Y.m:=by have:=hT.len;omega
 have hok:=Sys.Cb0 (Y:=Y) sc sn;have hs:Y.sAt (Y.pn sc sn) (Y.pn sc sn).outs.length=(Y.pn sc sn).s:=Sys.Wa0 hok (Sys.Le.refl Y _);obtain⟨hnl,l,hl,hW⟩:Y.nil i=false/\∃l,(Y.pn sc sn).ft[i]? =some (.inl l)/\Wt Y fb (Y.pn sc sn) w0 Γ X w i c l:=by
  rcases hF.waits hc with⟨_,h1,l,h2,h3⟩|⟨h,_⟩
  ·exact⟨h1,l,by simpa using h2,h3⟩
  ·rw[hwt]at h;cases h
 generalize hq:Y.pn sc sn=q at *;obtain⟨h1,S2,hsp,heb,me,cs,wn,mn,Fn,Rdo,S7,hme,hrf,hdf,hpv,cx0,hos,gl0,N2,Fp0,hdo,hgo,pd0⟩:=hW;have hgp:=(hF.ck i c hc hnl).fi0;have hg0:(Γ.gi i==0)=false:=by simp;omega
 refine⟨Γ.gi i,.bool false,me,by omega,S7,hF.dn,hF.nz0,⟨hF.chy,fun j s2 hj hs2=>?_⟩,fun w' me0 hg hk=>?_⟩
 ·by_cases hj0:j=0
  ·subst hj0;rw[hF.ql0 rfl]at hs2;cases hs2
  ·obtain⟨k,d,h2,h3,_,h4,_⟩:=hF.L4 j s2 hj0 hs2;rw[h4];exact hF.ry k d h2 h3
 obtain⟨F,hinv,hFf⟩:=hM.inv;have bn0:=hO.sys.vis _ _ _ _ hinv;refine hme.no _ (by have:=@E6 prog Post (X.pass 0 (Γ.gi i) (some ⟨R.yb,.i 0,me0⟩)) (Γ.gi i);rw[hg0]at this;exact this) w' R.fp w.heap.size w w0.heap.size {R with wts:=R.wts.set i c.sp} i c hg hc rfl fun u2 fr ch hg2 hfn l7 hlv=>?_;have J1:∀b,b<w.heap.size->¬R.fp b->u2.heap[b]? =w.heap[b]?:=hg2.md.block;have oh0:=(hF.mm1 hO.sys.toLeOk hnl hc (s0:=⟨R.yb,.i 0,me0⟩)).V4 hO.sys.toLeOk (w':=u2) (R':={R with wts:=R.wts.set i c.sp,cl:=R.cl.set i {c with st:=true}}) hg2.m rfl rfl rfl hg2.fp (by simp) (fun j d hd=>by
  have L6:(R.cl.set i {c with st:=true})[j]? =some d:=hd;rw[List.getElem?_set]at L6;by_cases hj:i=j
  ·subst hj;rw[if_pos rfl,if_pos M7]at L6;obtain rfl:=Option.some.inj L6;exact⟨c,hc,rfl,rfl,fun z=>absurd rfl z⟩
  ·rw[if_neg hj]at L6;exact⟨d,L6,rfl,rfl,fun _=>⟨rfl,rfl⟩⟩) hg2.md.size (fun b hb hf _=>.inl (J1 b hb hf)) (fun z=>by cases z)
 refine bz0 _ _ fun nv=>?_;haveI:DecidablePred fun b=>Γ.pv i b\/F b:=fun _=>Classical.propDecidable _;refine lh0 (fun b=>Γ.pv i b\/F b) (cu0 (τ:=tpT u2 q.outs.length 0 1 Γ.gm) (d:=u2.drawn) ?_);have Mb0:=xr0 (i:=i) (R1:={R with wts:=R.wts.set i c.sp,cl:=R.cl.set i {c with st:=true}}) hF hg2.fp (by simp) hFf (fun b hb=>(bn0 b hb).1);have K3:=bs0.enter (q:=q) (i:=i) (t:=q.outs.length) (at_:=R.evs.length) (cb:=c.cb) (n0:=q.nts) (R0:={R with wts:=R.wts.set i c.sp,cl:=R.cl.set i {c with st:=true}}) (τ:=tpT u2 q.outs.length 0 1 Γ.gm) (d:=u2.drawn) hO.sys.toLeOk (fun b=>Γ.pv i b\/F b) oh0 Mb0 nv rfl (tpm _ _ _ _ _ _ _) rfl
  ⟨{c with st:=true},by show(R.cl.set i _)[i]? =_;simp[M7],rfl,.inr ⟨rfl,rfl,hT.nts⟩⟩ ⟨R.na,R.nc,R.nts,rfl⟩ hnl ((J1 _ heb.lt (hF.side i M7 hnl).2.2.2).trans heb)
 have qo0:∀b,Γ.pv i b\/F b->b<w.heap.size/\¬R.fp b:=fun b hb=>by
  rcases hb with h|h
  ·exact⟨(hF.pv i b h).1,(hF.pv i b h).2.1⟩
  ·exact⟨(bn0 b h).1,(hFf b h).1⟩
 have dt1:(Y.cfg fb q w0 i c.cb (Γ.top i)).y6 wn mn Fn (Yc.V2 (S3 (fun b=>Γ.pv i b\/F b) u2) (tpT u2 q.outs.length 0 1 Γ.gm) u2.drawn) F:=by
  refine Wt.j4 (u:=Yc.V2 (S3 (fun b=>Γ.pv i b\/F b) u2) (tpT u2 q.outs.length 0 1 Γ.gm) u2.drawn) (q:=q) (X:=X) (R:=R) (c:=c) (l:=l) hO.sys hpv cx0 hos gl0 N2 Fp0 hinv (fun b hb z=>(hFf b hb).2 (.inr (.inr ⟨i,z⟩))) (fun b hb=>?_) ?_ (hg2.md.os.trans (hF.os rfl)) (hg2.md.output.trans (hF.output rfl)) hs (tpm _ _ _ _ _ _ _)
  ·show(S3 (fun b=>Γ.pv i b\/F b) u2).heap[b]? =_;rw[ci0 (V:=fun b=>Γ.pv i b\/F b) u2 hb,J1 b (qo0 b hb).1 (qo0 b hb).2]
  ·show w.heap.size <=(S3 (fun b=>Γ.pv i b\/F b) u2).heap.size;rw[aq0];exact hg2.md.size
 refine kf0 (z0:=.i 0) (me0:=me0) (st:=true) (cb:=c.cb) (Γ:=Γ.put i fun _=>False) (Mn:=Mn) (ft:=fun j=>if j<i then ba0 (q.ft[j]?) else q.ft[j]?) (t:=q.outs.length) (at_:=R.evs.length) (n0:=q.nts) (R0:={R with wts:=R.wts.set i c.sp,cl:=R.cl.set i {c with st:=true}}) hO.sys bm0 ?_ (fun Γ' X' R' w2 hA=>?_) (pd0 _ F dt1 rfl fr ch hfn l7 hlv) _ _ K3 (fun d hd=>?_)
 ·have h2:=hO.nts;rw[hq]at h2;have h3:Y.S4 q q.outs.length=Y.o0:=by unfold Sys.S4;rw[List.getElem?_eq_none (Nat.le_refl _)];rfl
  rw[h3];show q.nts.length+0 <=_;omega
 ·rcases hA with⟨z,_⟩|⟨_,hM',na,nc,c0,c',hc0,hcp,hR⟩
  ·cases z
  ·have hc0:(R.cl.set i {c with st:=true})[i]? =some c0:=hc0;have ds1:c0.Z1=c.Z1:=by simp[M7]at hc0;rw[<- hc0]
   have du1:(fun j=>if j=i then some (.inr 0) else if j<i then ba0 (q.ft[j]?) else q.ft[j]?)=fun j=>if j<i+1 then ba0 (q.ft[j]?) else q.ft[j]?:=by
    funext j;by_cases O3:j=i
    ·subst O3;rw[if_pos rfl,if_pos (by omega),hl];rfl
    ·rw[if_neg O3];by_cases h3:j<i
     ·rw[if_pos h3,if_pos (by omega)]
     ·rw[if_neg h3,if_neg (by omega)]
   have hM2:Main Y fb q w0 Γ' X' R' w2 Mn (fun j=>if j=i then some (.inr 0) else if j<i then ba0 (q.ft[j]?) else q.ft[j]?) (Y.sAt q q.outs.length):=hM';rw[du1,hs]at hM2;refine hk X' R' w2 _ ?_;subst hR;refine⟨⟨by omega,⟨Γ',by rw[hq];exact hM2⟩,?_,fun j hj=>?_,by rw[hq];exact dg0⟩,rfl,rfl⟩
   ·rw[hq];refine⟨hT.rb,hT.evs,rfl,hT.used,?_,fun j d hd=>?_,fun j hj=>?_⟩
    ·show((R.cl.set i {c with st:=true}).set i c').length=_;simp[hT.len]
    ·have L6:((R.cl.set i {c with st:=true}).set i c')[j]? =some d:=hd;rw[List.getElem?_set]at L6;by_cases O3:i=j
     ·subst O3;rw[if_pos rfl,if_pos (by simp[M7])]at L6;obtain rfl:=Option.some.inj L6;rw[hcp,ds1];exact hT.Z1 i c hc
     ·rw[if_neg O3,List.getElem?_set_ne O3]at L6;exact hT.Z1 j d L6
    ·show(R.ends.set i 0)[j]? =_;have hel:R.ends.length=Y.m:=by rw[hF.mem.hw0,hF.m]
     by_cases O3:i=j
     ·subst O3;rw[hl];simp[hel,him];rfl
     ·rw[List.getElem?_set_ne O3];exact hT.ends j hj
   ·rw[hq];show(R.wts.set i c.sp)[j]? =_;have hwl:R.wts.length=Y.m:=by rw[hF.mem.mj0,hF.m]
    by_cases O3:i=j
    ·subst O3;rw[if_pos (by omega),hl];simp[hwl,him];exact hsp
    ·rw[List.getElem?_set_ne O3,cy0 j hj];by_cases h3:j<i
     ·rw[if_pos h3,if_pos (by omega)]
     ·rw[if_neg h3,if_neg (by omega)]
 ·have L6:(R.cl.set i {c with st:=true})[i]? =some d:=hd;simp[M7]at L6;rw[<- L6]
end
end
end Go.Vy.Sc
end
section
namespace Go.Vy
open Go Go.Conc Go.Yc Go.RowKit
section
variable {P:Program}{main:Bool}{f:FuncId}{args:Array Value}{R:Ending->World->Prop}
theorem qp0 {fr:Frame} {w:World} {e:Ending} {τ:Tape} {d:Nat} (h:Leaves P fr w e):Leaves P fr (Yc.V2 w τ d) e:=by
 cases e with
 |returned v=>exact h
 |panicked ch=>exact h
 |outgrown=>exact h
theorem Calls.V2 {u:World} {τ:Tape} {d:Nat} (h:@Calls P (B2 P main) f args (Yc.V2 u τ d) R):@Calls P (B2 P main) f args u (fun e w'=>∃w2 d2,w'=Yc.V2 w2 u.tape d2/\R e w2):=by
 intro Z hZ cs hk;obtain⟨hc,hi⟩:=hZ;have r7:Cl P main (fun g x=>∀d0,Z g (Yc.V2 x u.tape d0)):=⟨fun g x hr hs d0=>by
  refine hc.own g _ hr fun τ' d'=>?_;obtain⟨g',u',d2,hF,hz⟩:=hs τ' d';exact⟨g',u',0,hF,hz 0⟩⟩
 have:=h (fun g x=>∀d0,Z g (Yc.V2 x u.tape d0)) ⟨r7,fun g x hz d0=>hi g _ fun hv=>hz hv d0⟩ cs (fun e w' fr he hf hl d0=>hk e _ fr ⟨w',d0,rfl,he⟩ hf (qp0 hl)) u.drawn;exact this
end
end Go.Vy
namespace Go.Vy.Sc
open Go Go.Conc Go.Yc Go.RowKit Go.Proofs Go.Proofs.YtinppmaojmdmhaaGreat Tryz
open Go.Vc Go.Wg
attribute [local irreducible] KK
structure Lone (X:Gh) (w:World):Prop where
 W1:∀i,X.W1 i=none
 cap:X.cap=0
 pend:X.pend=0
 dn:X.dn=0
 under:X.ev0 w.heap.size
 w7:∀b,w.heap.size <=b->X.w7 b= .all
 qk0:0<X.n
theorem Lone.mono {X:Gh} {w w':World} (h:Lone X w) (hs:w.heap.size <=w'.heap.size):Lone X w':=⟨h.W1,h.cap,h.pend,h.dn,h.under.mono hs,fun b hb=>h.w7 b (Nat.le_trans hs hb),h.qk0⟩
section
variable {Y:Sys}{fb:Nat->FuncId}{caps:Nat->Array Value}{fv:Nat->Value}{ba sa:Option Addr}{sn:Nat}{sc:Nat->Int}{Mn:Nat->Option Obj}{w0:World}{rb0:Nat}
theorem Ik0 {q:PR Y} {Γ:Geo} {X:Gh} {R:Rn} {w:World} {p:PR Y} (hF:Fix Y fb q w0 Γ X R w Mn none (fun j=>p.ft[j]?)) (hlen:R.cl.length=Y.m):rdl R.cl (Y.gz0 p) Y.m=Y.rds p:=by
 unfold rdl Sys.rds;apply List.filter_congr;intro i hi;have hi:i<Y.m:=by simpa using hi
 obtain⟨c,hc⟩:∃c,R.cl[i]? =some c:=⟨_,List.getElem?_eq_getElem (by omega)⟩
 rw[hc];rcases hF.waits hc with⟨h1,_⟩|⟨h1,x,h2,_⟩
 ·simp[h1]
 ·have h2:p.ft[i]? =some (.inr x):=h2;simp[h1,Sys.gz0,h2]
theorem Qk0 {q:PR Y} {Γ:Geo} {X:Gh} {R:Rn} {w:World} {p:PR Y} (hF:Fix Y fb q w0 Γ X R w Mn none (fun j=>p.ft[j]?)) (hlen:R.cl.length=p.ft.length):R.cl.any (·.wt)=p.ft.any (·.isLeft):=by
 rw[Bool.eq_iff_iff,List.any_eq_true,List.any_eq_true];constructor
 ·rintro⟨c,hc,hw⟩;obtain⟨i,hi⟩:=List.mem_iff_getElem?.1 hc;rcases hF.waits hi with⟨h1,_,l,h2,_⟩|⟨h1,_⟩
  ·exact⟨.inl l,List.mem_iff_getElem?.2 ⟨i,h2⟩,rfl⟩
  ·rw[hw]at h1;cases h1
 ·rintro⟨f,hf,hw⟩;obtain⟨i,hi⟩:=List.mem_iff_getElem?.1 hf;have M7:=(List.getElem?_eq_some_iff.1 hi).1;obtain⟨c,hc⟩:∃c,R.cl[i]? =some c:=⟨_,List.getElem?_eq_getElem (by omega)⟩
  rcases hF.waits hc with⟨h1,_⟩|⟨h1,x,h2,_⟩
  ·exact⟨c,List.mem_iff_getElem?.2 ⟨i,hc⟩,h1⟩
  ·have h2:p.ft[i]? =some (.inr x):=h2;rw[hi]at h2;cases h2;cases hw
theorem Main.V4 {q:PR Y} {Γ:Geo} {X:Gh} {R R':Rn} {w w':World} {ft:Nat->Option (Y.L ⊕ Nat)} {s:Y.S} (hY:qm0 Y) (h:Main Y fb q w0 Γ X R w Mn ft s) (hg:Rg R.fp w.heap.size w w' w0.heap.size R') (hrb:R'.rb=R.rb) (hyb:R'.yb=R.yb) (hm:R'.m=R.m) (r7:R'.cl=R.cl) (he:R'.ends=R.ends):Main Y fb q w0 Γ X R' w' Mn ft s:=by
 obtain⟨F,hinv,hFf⟩:=h.inv;have bn0:=hY.vis _ _ _ _ hinv;refine⟨h.fix.V4 hY.toLeOk hg.m hrb hyb hm hg.fp (by rw[r7]) (fun j c hc=>⟨c,by rw[<- r7];exact hc,rfl,rfl,fun _=>⟨rfl,by rw[he]⟩⟩) hg.md.size (fun b hb hf _=>.inl (hg.md.block b hb hf)) (fun _=>⟨hg.md.os,hg.md.output⟩),F,hY.loc _ _ w w' F hinv fun b hb=>hg.md.block b (bn0 b hb).1 (hFf b hb).1,fun b hb=>⟨fun z=>(hg.fp b z).elim (hFf b hb).1 (Nat.not_le_of_lt (bn0 b hb).1),fun z=>(hFf b hb).2 ?_⟩⟩;rcases z with z|⟨k,hk,z⟩|z
 ·exact .inl z
 ·exact .inr (.inl ⟨k,by rw[<- r7];exact hk,z⟩)
 ·exact .inr (.inr z)
theorem dv1 (hO:ob0 Y fb caps fv ba sa sn sc) {n:Nat} {X:Gh} {R:Rn} {w:World} (hJ:J2 Y fb sn sc Mn w0 rb0 n X R w) {i:Nat} {c:CB} (hc:R.cl[i]? =some c) (hwt:c.wt=true):@zi0 (B2 prog true) w c.rf (Y.gz0 (Y.pn sc n) i):=by
 obtain⟨hn,⟨Γ,hM⟩,hT,cy0,dg0⟩:=hJ;have hF:=hM.fix;have dr1:Y.Le (Y.pn sc n) (Y.pn sc sn):=zs0 hn;have hok:=Sys.Cb0 (Y:=Y) sc n;generalize hp:Y.pn sc n=p at *;obtain⟨hnl,l,hl,hW⟩:Y.nil i=false/\∃l,p.ft[i]? =some (.inl l)/\Wt Y fb (Y.pn sc sn) w0 Γ X w i c l:=by
  rcases hF.waits hc with⟨_,h1,l,h2,h3⟩|⟨h,_⟩
  ·exact⟨h1,l,h2,h3⟩
  ·rw[hwt]at h;cases h
 have hs:Y.sAt (Y.pn sc sn) p.outs.length=p.s:=Sys.Wa0 hok dr1;have hr:Y.gz0 p i=Y.rdy i l p.s:=by unfold Sys.gz0;rw[hl]
 obtain⟨h1,S2,hsp,heb,me,cs,wn,mn,Fn,Rdo,S7,hme,hrf,hdf,hpv,cx0,hos,gl0,N2,Fp0,hdo,hgo,pd0⟩:=hW;obtain⟨F,hinv,hFf⟩:=hM.inv;have bn0:=hO.sys.vis _ _ _ _ hinv;have qo0:∀b,Γ.pv i b\/F b->b<w.heap.size:=fun b hb=>by
  rcases hb with h|h
  ·exact(hF.pv i b h).1
  ·exact(bn0 b h).1
 rcases hrf with⟨hrf,de0⟩|⟨f,cps,⟨hrf,fn,h2,h3,h4⟩,By0⟩
 ·exact .inl ⟨hrf,by rw[hr];exact de0 _⟩
 ·refine .inr ⟨f,fn,cps,hrf,h2,h3,h4,fun u hb=>?_⟩;haveI:DecidablePred fun b=>Γ.pv i b\/F b:=fun _=>Classical.propDecidable _;have dt1:(Y.cfg fb (Y.pn sc sn) w0 i c.cb (Γ.top i)).y6 wn mn Fn (Yc.V2 (S3 (fun b=>Γ.pv i b\/F b) u) (tpT u p.outs.length 0 0 Γ.gm) u.drawn) F:=by
   refine Wt.j4 (u:=Yc.V2 (S3 (fun b=>Γ.pv i b\/F b) u) (tpT u p.outs.length 0 0 Γ.gm) u.drawn) (q:=Y.pn sc sn) (X:=X) (R:=R) (c:=c) (l:=l) hO.sys hpv cx0 hos gl0 N2 Fp0 hinv (fun b hb z=>(hFf b hb).2 (.inr (.inr ⟨i,z⟩))) (fun b p7=>?_) ?_ (hb.os.trans (hF.os rfl)) (hb.output.trans (hF.output rfl)) hs (tpm _ _ _ _ _ _ _)
   ·show(S3 (fun b=>Γ.pv i b\/F b) u).heap[b]? =_;rw[ci0 (V:=fun b=>Γ.pv i b\/F b) u p7,hb.block b (qo0 b p7)]
   ·show w.heap.size <=(S3 (fun b=>Γ.pv i b\/F b) u).heap.size;rw[aq0];exact hb.size
  have h5:=Calls.seen (fun b=>Γ.pv i b\/F b) (Calls.V2 (By0 _ F dt1));refine @Calls.mono _ (B2 prog true) f cps u _ _ h5 fun e w' he=>?_;obtain⟨u',rfl,hH,w2,d2,rfl,he⟩:=he;cases e with
  |panicked ch=>exact he.elim
  |outgrown=>exact he.elim
  |returned v=>
   obtain⟨hv,G1⟩:=he;refine⟨?_,⟨G1.os,rfl,G1.output,?_,fun b p7=>?_⟩⟩
   ·rw[hv,hr];show Value.bool (Y.rdy i l (Y.sAt (Y.pn sc sn) p.outs.length))=_;rw[hs]
   ·rw[o5];have:=G1.size;have h6:(S3 (fun b=>Γ.pv i b\/F b) u).heap.size <=w2.heap.size:=this;rw[aq0]at h6;exact h6
   ·have h6:b<(S3 (fun b=>Γ.pv i b\/F b) u).heap.size:=by rw[aq0];exact p7
    have h7:=G1.block b h6;by_cases hV:Γ.pv i b\/F b
    ·rw[G6 (Yc.V2 w2 _ d2) (by simp[X9,hV])];show w2.heap[b]? =_;refine h7.trans ?_;show(S3 (fun b=>Γ.pv i b\/F b) u).heap[b]? =_;rw[ci0 (V:=fun b=>Γ.pv i b\/F b) u hV]
    ·have h8:X9 (fun b=>Γ.pv i b\/F b) u b=some u.heap[b]:=by
      simp only[X9,hV,if_false];exact Array.getElem?_eq_getElem p7
     rw[bj0 h8 (by
      show b<w2.heap.size;have:=G1.size;have h9:(S3 (fun b=>Γ.pv i b\/F b) u).heap.size <=w2.heap.size:=this;omega),Array.getElem?_eq_getElem p7]
theorem ring (hO:ob0 Y fb caps fv ba sa sn sc) {tb:Nat} {Post:Value->World->Prop} (htb:Mn tb=some (.cells #[.slice none 0 0,.slice none 0 0,.slice none 0 0,.slice none 0 0,.bool false,.i 0] 45 (0,0)))
  (hbc:∀w:World,(∀b,Mn b≠none->w.heap[b]? =Mn b)->∀j,j<Y.m->w.cell? ⟨ab ba,ao ba+j*1,none⟩=some (fv j)) (hsc:∀w:World,(∃s m F,Y.Inv s m w F)->(∀b,Mn b≠none->w.heap[b]? =Mn b)->∀j,j<sn->w.cell? ⟨ab sa,ao sa+j*1,none⟩=some (.i (sc j))) :
  Pr0 rb0 Y.m sn tb ba sa fv sc w0.heap.size Post (JB Y fb sn sc Mn w0 rb0) (J2 Y fb sn sc Mn w0 rb0) (JE Y fb sn sc Mn w0 rb0) (fun n=>Y.gz0 (Y.pn sc n)):=by
 have hm1:=hO.m1;have hsn:=hO.sn1;refine⟨fun cs dd0=>⟨hO.bsl,fun i hi=>?_,fun i X R w hJ=>?_,fun i X R w w' a n cb rc hi hJ hf hcb hrc hg=>?_,fun i X R w w' a n cb rc hi hJ hf hcb hrc N3 hch hg=>?_,dd0⟩,fun X R w hJ=>?_,hO.ssl,fun n X R w hJ=>?_,fun n X R w w' hJ hb=>?_,fun n X R w hJ i c hc hwt=>dv1 hO hJ hc hwt,fun n X R w i c hJ hn hp hc=>?_,fun n X R w w' b hJ hn hb hg=>?_,fun ca cc cs dd0=>⟨fun i X R w hJ=>?_,fun i X R w c hJ hc hwt=>?_,fun i X R w c hJ hc hwt=>?_,fun X R w hJ=>?_⟩,fun X R w hJ=>?_⟩
 ·rcases hO.fn i hi with h|⟨_,h,fn,h1,h2,h3⟩
  ·exact .inl h.2
  ·exact .inr ⟨fb i,fn,caps i,h,h1,h2,h3⟩
 ·obtain⟨_,⟨Γ,hM⟩,hT,cy0,dg0⟩:=hJ;exact⟨hM.fix.mem,hT.rb,hT.len.trans (Sys.m7 i),hM.fix.m,hM.fix.size,hM.fix.under,hbc w hM.get⟩
 ·obtain⟨_,⟨Γ,hM⟩,hT,cy0,dg0⟩:=hJ;have hnl:Y.nil i=true:=by
   rcases hO.fn i hi with h|h
   ·exact h.1
   ·rw[hf]at h;exact absurd h.2.1 (by simp)
  have hlen:R.cl.length=i:=hT.len.trans (Sys.m7 i);have hbg:Y.D3 (i+1)={Y.D3 i with ft:=(Y.D3 i).ft ++ [.inr 1]}:=by
   show Y.bgn (Y.D3 i)=_;unfold Sys.bgn;rw[Sys.m7 i,hnl];rfl
  have hpl:=Sys.m7 (Y:=Y) i;generalize hp:Y.D3 i=p at *;have oh0:=hM.fix.do1 hO.sys.toLeOk hnl hlen (by rw[hM.fix.m];exact hi) hcb hg (by show p.ft[i]? =none;rw[List.getElem?_eq_none (by omega)]);rw[os0 hpl]at oh0;obtain⟨F,hinv,hFf⟩:=hM.inv;have bn0:=hO.sys.vis _ _ _ _ hinv;have hM':Main Y fb (Y.pn sc sn) w0 Γ (X.lower cb) {R with ca:=a,cc:=n,cl:=R.cl ++ [T4 cb rc],ends:=R.ends.set i 1} w' Mn (fun j=>(p.ft ++ [.inr 1])[j]?) p.s:=by
   refine⟨oh0,F,hO.sys.loc _ _ w w' F hinv fun b hb=>hg.md.block b (bn0 b hb).1 (hFf b hb).1,fun b hb=>⟨fun z=>(hg.fp b z).elim (hFf b hb).1 (Nat.not_le_of_lt (bn0 b hb).1),fun z=>(hFf b hb).2 ?_⟩⟩;rcases z with z|⟨k,hk,hnk,z⟩|z
   ·exact .inl z
   ·refine .inr (.inl ⟨k,?_,hnk,z⟩);have hk:k<(R.cl ++ [T4 cb rc]).length:=hk;rw[List.length_append,List.length_singleton]at hk;rcases Nat.lt_or_ge k R.cl.length with y|y
    ·exact y
    ·have:k=i:=by omega
     rw[this,hnl]at hnk;cases hnk
   ·exact .inr (.inr z)
  refine⟨by omega,⟨Γ,by rw[hbg];exact hM'⟩,?_,cy0,dg0⟩
  ·rw[hbg];refine⟨hT.rb,hT.evs,hT.nts,hT.used,by simp[hT.len],fun j d hd=>?_,fun j hj=>?_⟩
   ·rcases ac0 hd with z|⟨z,rfl⟩
    ·exact hT.Z1 j d z
    ·show 0=p.who.count (some j);rw[<- hp];exact(Sys.ir0 i j).symm
   ·have h0:=mr0 (Y:=Y) (f:=.inr 1) (g:=fun j=>p.ft[j]?) (i:=i) hT.ends (by rw[hM.fix.mem.hw0,hM.fix.m]) (by show ec0 p.ft[i]? =0;rw[List.getElem?_eq_none (by omega)];rfl) j hj;exact h0.trans (congrArg (fun f:Nat->Option (Y.L ⊕ Nat)=>some (ec0 (f j))) (os0 hpl (.inr 1)))
 ·have hF:∃Γ,Fix Y fb (Y.pn sc sn) w0 Γ X R w Mn none (fun j=>(Y.D3 i).ft[j]?):=by obtain⟨_,⟨Γ,hM⟩,_⟩:=hJ;exact⟨Γ,hM.fix⟩
  obtain⟨Γ,hF⟩:=hF;have hT:Tie Y rb0 (Y.D3 i) R:=hJ.2.2.1;have hlen:R.cl.length=i:=hT.len.trans (Sys.m7 i);refine⟨by rw[<- hT.rb];exact hF.J4,hF.pend,by have:=hF.cap;omega,hF.dn,hF.nz0,⟨hF.chy,fun j s2 hs2=>?_⟩,fun me0 hk=>dq1 hO hi hJ hf hcb hrc N3 hch hg hk⟩;by_cases hj0:j=0
  ·subst hj0;rw[hF.ql0 rfl]at hs2;cases hs2
  ·obtain⟨k,d,h2,h3,_,h4,_⟩:=hF.L4 j s2 hj0 hs2;rw[h4];exact hF.ry k d h2 h3
 ·obtain⟨_,hM,hT,cy0,dg0⟩:=hJ;exact⟨Nat.zero_le _,hM,hT,cy0,dg0⟩
 ·obtain⟨hn,⟨Γ,hM⟩,hT,cy0,dg0⟩:=hJ;have h1:=Sys.qn0 (Y:=Y) sc n;have h2:=Sys.Cb0 (Y:=Y) sc n;refine⟨hM.fix.mem,hT.rb,hT.len.trans (Sys.br0 sc n),hM.fix.size,by rw[hT.evs];omega,by rw[hT.used,<- h2.used];omega,fun i c hc=>?_,hsc w ⟨_,_,_,hM.inv.choose_spec.1⟩ hM.get⟩;rw[hT.Z1 i c hc];have h3:=List.count_le_length (a:=some i) (l:=(Y.pn sc n).who);rw[h2.who]at h3;omega
 ·obtain⟨hn,⟨Γ,hM⟩,hT,cy0,dg0⟩:=hJ;exact⟨hn,⟨Γ,hM.V4 hO.sys (hM.fix.mem.rg.j0 hb) rfl rfl rfl rfl rfl⟩,hT,cy0,dg0⟩
 ·have hlen:R.cl.length=Y.m:=hJ.2.2.1.len.trans (Sys.br0 sc n);obtain⟨Γ,hM⟩:=hJ.2.1;rw[Ik0 hM.fix hlen]at hp;exact Wi0 hO hJ hn hp hc
 ·obtain⟨hn',⟨Γ,hM⟩,hT,cy0,dg0⟩:=hJ;have hlen:R.cl.length=Y.m:=hT.len.trans (Sys.br0 sc n);rw[Ik0 hM.fix hlen]at hn hb;have hq:Y.pn sc sn=Y.pn sc n:=by
   rcases hn with rfl|h
   ·rfl
   ·have:=Sys.Cj0 h (sn-n)
    rwa [Nat.add_sub_cancel' hn']at this
  rw[Qk0 hM.fix hT.len]at hb;have hM':=hM.V4 hO.sys hg rfl rfl rfl rfl rfl;rw[<- hq]at hM' hT hb;refine⟨Nat.zero_le _,⟨Γ,?_⟩,⟨hT.rb,hT.evs,hT.nts,hT.used,hT.len,hT.Z1,hT.ends⟩,fun j hj=>?_,hb⟩
  ·have:(fun j=>if j<0 then ba0 ((Y.pn sc sn).ft[j]?) else(Y.pn sc sn).ft[j]?)=fun j=>(Y.pn sc sn).ft[j]?:=by funext j;rw[if_neg (Nat.not_lt_zero j)]
   rw[this];exact hM'
  ·show R.wts[j]? =_;rw[cy0,if_neg (Nat.not_lt_zero j)];simp[hj]
 ·obtain⟨⟨hi,⟨Γ,hM⟩,hT,cy0,dg0⟩,h1,h2⟩:=hJ;exact⟨hM.fix.mem,hT.rb,hT.len.trans (Sys.br0 sc sn),h1,h2⟩
 ·obtain⟨⟨hi,⟨Γ,hM⟩,hT,cy0,dg0⟩,h1,h2⟩:=hJ;have M7:=(List.getElem?_eq_some_iff.1 hc).1;have hlen:R.cl.length=Y.m:=hT.len.trans (Sys.br0 sc sn);obtain⟨x,hx⟩:∃x,(Y.pn sc sn).ft[i]? =some (.inr x):=by
   rcases hM.fix.waits hc with⟨h,_⟩|⟨_,x,h,_⟩
   ·rw[hwt]at h;cases h
   ·exact⟨x,by simpa using h⟩
  have du1:(fun j=>if j<i then ba0 ((Y.pn sc sn).ft[j]?) else(Y.pn sc sn).ft[j]?)=fun j=>if j<i+1 then ba0 ((Y.pn sc sn).ft[j]?) else(Y.pn sc sn).ft[j]?:=by
   funext j;by_cases O3:j=i
   ·subst O3;rw[if_neg (by omega),if_pos (by omega),hx];rfl
   ·by_cases h3:j<i
    ·rw[if_pos h3,if_pos (by omega)]
    ·rw[if_neg h3,if_neg (by omega)]
  rw[du1]at hM;refine⟨⟨by omega,⟨Γ,hM⟩,hT,fun j hj=>?_,dg0⟩,h1,h2⟩;rw[cy0 j hj];by_cases O3:j=i
  ·subst O3;rw[if_neg (by omega),if_pos (by omega),hx];rfl
  ·by_cases h3:j<i
   ·rw[if_pos h3,if_pos (by omega)]
   ·rw[if_neg h3,if_neg (by omega)]
 ·obtain⟨hJ,h1,h2⟩:=hJ;obtain⟨g,z1,me1,h3,h4,h5,h6,h7,h8⟩:=Wj0 (Post:=Post) hO hJ hc hwt;exact⟨g,z1,me1,h3,h4,h5,h6,h7,fun w' me0 hg hk=>h8 w' me0 hg fun X' R' u v hJ'=>hk X' R' u v ⟨hJ'.1,hJ'.2.1.trans h1,hJ'.2.2.trans h2⟩⟩
 ·have hJ0:=hJ;obtain⟨⟨hi,⟨Γ,hM⟩,hT,cy0,dg0⟩,h1,h2⟩:=hJ;have hF:=hM.fix;have hlen:R.cl.length=Y.m:=hT.len.trans (Sys.br0 sc sn);refine⟨fun i=>?_,by rw[<- hT.rb];exact hF.J4,hF.pend,hF.dn,by have:=hF.cap;omega,fun fr h3 h4=>dd0 X R w hJ0.1 h1 h2 fr h3 h4⟩;by_cases h0:i=0
  ·subst h0;exact hF.ql0 rfl
  ·cases hs:X.W1 i with
   |none=>rfl
   |some s=>
    obtain⟨j,c,h5,h6,h7,_⟩:=hF.L4 i s h0 hs;have hjl:=(List.getElem?_eq_some_iff.1 h5).1;rcases hF.waits h5 with⟨_,_,l,h8,_⟩|⟨_,x,_,h8⟩
    ·have h8:(if j<Y.m then ba0 ((Y.pn sc sn).ft[j]?) else(Y.pn sc sn).ft[j]?)=some (.inl l):=h8;rw[if_pos (by omega)]at h8;cases hx:(Y.pn sc sn).ft[j]? with
     |none=>rw[hx]at h8;cases h8
     |some f=>cases f <;> (rw[hx]at h8;cases h8)
    ·rcases h8 with h8|h8
     ·rw[h6]at h8;cases h8
     ·rw[<- h7,hs]at h8;cases h8
 ·obtain⟨hi,⟨Γ,hM⟩,hT,cy0,dg0⟩:=hJ;exact⟨hM.fix.mem,hT.rb,(hM.get tb (by rw[htb];simp)).trans htb⟩
end
end Go.Vy.Sc
end
section
namespace Go.Vy.Sc
open Go Go.Conc Go.Yc Go.RowKit Go.Proofs Go.Proofs.YtinppmaojmdmhaaGreat Tryz
open Go.Vc Go.Wg
section
attribute [local irreducible] KK
def Ql0 (lb:Nat) (pl:Nat->C7) (Post:Value->World->Prop) (g:Goroutine) (u:World):Prop:=∀X,Lone X u->lb <=u.heap.size->(∀b,X.low b->lb <=b)->X.w7=pl->Fin prog Post X 0 g u
theorem Qm0 (lb:Nat) (pl:Nat->C7) (Post:Value->World->Prop):Cl prog true (Ql0 lb pl Post):=⟨fun g u hr hs X hX h1 h2 h3=>Fin.ja1 hr fun τ d=>by
 obtain⟨g',u',d',hF,hz⟩:=hs τ d;refine⟨g',u',hF,fun⟨ρ,w,mc0⟩=>?_⟩;have he:=(hF.2 ρ w mc0).1;have hX':Lone X (Yc.V2 u' u.tape d'):=(hX.mono he.size:Lone X u')|> fun h=>⟨h.W1,h.cap,h.pend,h.dn,h.under,h.w7,h.qk0⟩
 exact on0 (hz X hX' (Nat.le_trans h1 he.size) h2 h3)⟩
theorem Kj0 (lb:Nat) (pl:Nat->C7) (Post:Value->World->Prop):Ign (Ql0 lb pl Post):=fun _g _u hz X hX h1 h2 h3=>bz0 _ _ fun hv=>hz hv X hX h1 h2 h3
@[reducible] def j9 (lb:Nat) (pl:Nat->C7):Ctx prog:=⟨true,fun Z=>∃Post,Z=Ql0 lb pl Post,fun Z h=>by obtain⟨Post,rfl⟩:=h;exact Qm0 lb pl Post⟩
structure Wk0 (Y:Sys) (q:PR Y) (Mn:Nat->Option Obj) (w0 w:World) (R:Rn):Prop where
 mem:w5 w w0.heap.size R
 m:R.m=Y.m
 evs:R.evs=q.evs
 nts:R.nts=q.nts
 used:R.used=q.used
 ends:∀j,j<Y.m->R.ends[j]? =some (ec0 q.ft[j]?)
 wts:∀j,j<Y.m->R.wts[j]? =some (dp1 Y j (q.ft[j]?))
 stuck:R.stuck=(q.ft.any (·.isLeft)&&(Y.rds q).isEmpty)
 inv:∃m F,Y.Inv q.s m w F/\∀b,F b->¬R.fp b
 fp:∀b,R.fp b->w0.heap.size <=b
 j0:∀b,Mn b≠none->w.heap[b]? =Mn b
 size:w0.heap.size <=w.heap.size
 os:w.os=w0.os
 output:w.output=w0.output
 tape:w.tape=w0.tape
section
variable {Y:Sys}{fb:Nat->FuncId}{caps:Nat->Array Value}{fv:Nat->Value}{ba sa:Option Addr}{sn:Nat}{sc:Nat->Int}{Mn:Nat->Option Obj}{w0:World}
theorem mx1 (hO:ob0 Y fb caps fv ba sa sn sc) (hmn:∀b o,Mn b=some o->w0.heap[b]? =some o) {F:Nat->Prop} {m0:Gm} (hinv:Y.Inv Y.s0 m0 w0 F) (hFm:∀b,F b->Mn b=none)
  (hbc:∀w:World,(∀b,Mn b≠none->w.heap[b]? =Mn b)->∀j,j<Y.m->w.cell? ⟨ab ba,ao ba+j*1,none⟩=some (fv j)) (hsc:∀w:World,(∃s m F,Y.Inv s m w F)->(∀b,Mn b≠none->w.heap[b]? =Mn b)->∀j,j<sn->w.cell? ⟨ab sa,ao sa+j*1,none⟩=some (.i (sc j))) {bc scp:Nat} :
  @C prog (j9 Y.lb Y.pl) 41 #[.slice ba Y.m bc,.slice sa sn scp] w0 fun v w=>∃R,v= .tuple #[Ps0 R,.i 0]/\Wk0 Y (Y.pn sc sn) Mn w0 w R:=by
 intro Z hZ cs hk;obtain⟨Post,rfl⟩:=hZ;intro X hX O7 hb2 hb3;refine Vx0 (fv:=fv) (sc:=sc) hO.m1 hO.sn1 hX.under hX.w7 hX.cap fun w4 rb yb eb wb tb hB=>?_;have bn0:=hO.sys.vis _ _ _ _ hinv;have zt0:=hB.low;have my1:Mn tb=none:=by
  cases h:Mn tb with
  |none=>rfl
  |some o=>
   have:=(Array.getElem?_eq_some_iff.1 (hmn tb o h)).1;have:=hB.le.2.2.2.2;omega
 have J1:∀b o,Mn b=some o->b<w0.heap.size:=fun b o h=>(Array.getElem?_eq_some_iff.1 (hmn b o h)).1
 let Mn':Nat->Option Obj:=fun b=>if b=tb then some (.cells #[.slice none 0 0,.slice none 0 0,.slice none 0 0,.slice none 0 0,.bool false,.i 0] 45 (0,0)) else Mn b
 have hMn:∀w:World,(∀b,Mn' b≠none->w.heap[b]? =Mn' b)->∀b,Mn b≠none->w.heap[b]? =Mn b:=fun w h b hb=>by
  have N3:b≠tb:=fun e=>hb (e▸my1);have:=h b (by show(if b=tb then _ else Mn b)≠none;rw[if_neg N3];exact hb);rw[this];show(if b=tb then _ else Mn b)=_;rw[if_neg N3]
 refine⟨_,_,_,_,ring (Mn:=Mn') (w0:=w0) (rb0:=rb) hO (if_pos rfl) (fun w h=>hbc w (hMn w h)) (fun w hI h=>hsc w hI (hMn w h)),⟨fun X' R w w' fr hJ j3 hfn hl=>?_⟩,?_⟩
 ·obtain⟨_,⟨Γ,hM⟩,hT,cy0,dg0⟩:=hJ;have hF:=hM.fix;have hlen:R.cl.length=Y.m:=hT.len.trans (Sys.br0 sc sn);have sl1:=hMn w hM.get;obtain⟨Fq,an1,mz1⟩:=hM.inv;have htb:w.heap[tb]? =Mn' tb:=hM.get tb (by show(if tb=tb then _ else _)≠none;rw[if_pos rfl];simp);have htl:tb<w.heap.size:=by
   have:Mn' tb=some (.cells #[.slice none 0 0,.slice none 0 0,.slice none 0 0,.slice none 0 0,.bool false,.i 0] 45 (0,0)):=if_pos rfl;rw[this]at htb;exact(Array.getElem?_eq_some_iff.1 htb).1
  have Jl0:∀b,b<w.heap.size->b≠tb->w'.heap[b]? =w.heap[b]?:=fun b hb N3=>j3.block b hb fun e=>N3 (Option.some.inj e);have htk:Kept Y Γ R Mn' tb:=.inl (by show(if tb=tb then _ else _)≠none;rw[if_pos rfl];simp);have hfp:∀b,R.fp b->b≠tb:=fun b hb e=>(hF.mn tb (by show(if tb=tb then _ else _)≠none;rw[if_pos rfl];simp)).2.1 (e▸hb);refine on0 (τ:=w0.tape) (d:=w0.drawn) (hk (.returned _) (Yc.V2 w' w0.tape w0.drawn) fr ⟨R,rfl,?_⟩ hfn (qp0 hl) {X' with pend:=0,cap:=0,dn:=0} ?_ (Nat.le_trans O7 (Nat.le_trans hF.size j3.size)) hF.base.low hF.base.pl)
  ·refine⟨hF.mem.congr fun b hb=>Jl0 b (hF.mem.lt hb) (hfp b hb),hF.m,hT.evs,hT.nts,hT.used,hT.ends,fun j hj=>?_,dg0,⟨_,Fq,hO.sys.loc _ _ w _ Fq an1 fun b hb=>Jl0 b (hO.sys.vis _ _ _ _ an1 b hb).1 fun e=>(mz1 b hb).2 (e▸htk),fun b hb=>(mz1 b hb).1⟩,hF.fpB,fun b hb=>?_,Nat.le_trans hF.size j3.size,j3.os.trans (hF.os rfl),j3.output.trans (hF.output rfl),rfl⟩
   ·rw[cy0 j hj,if_pos hj]
   ·have h1:=sl1 b hb;have hbl:b<w.heap.size:=by
     rcases Nat.lt_or_ge b w.heap.size with z|z
     ·exact z
     ·exact absurd (h1.symm.trans (Array.getElem?_eq_none z)) hb
    exact(Jl0 b hbl fun e=>hb (e▸my1)).trans h1
  ·refine⟨fun i=>?_,rfl,rfl,rfl,?_,fun b hb=>hF.w7 b (Nat.le_trans j3.size hb),hF.qk0⟩
   ·show X'.W1 i=none;by_cases h0:i=0
    ·subst h0;exact hF.ql0 rfl
    ·cases hs:X'.W1 i with
     |none=>rfl
     |some s=>
      obtain⟨j,c,h5,h6,h7,_⟩:=hF.L4 i s h0 hs;have hjl:=(List.getElem?_eq_some_iff.1 h5).1;rcases hF.waits h5 with⟨_,_,l,h8,_⟩|⟨_,x,_,h8⟩
      ·have h8:(if j<Y.m then ba0 ((Y.pn sc sn).ft[j]?) else(Y.pn sc sn).ft[j]?)=some (.inl l):=h8;rw[if_pos (by omega)]at h8;cases hx:(Y.pn sc sn).ft[j]? with
       |none=>rw[hx]at h8;cases h8
       |some f=>cases f <;> (rw[hx]at h8;cases h8)
      ·rcases h8 with h8|h8
       ·rw[h6]at h8;cases h8
       ·rw[<- h7,hs]at h8;cases h8
   ·have hu:=hF.under.mono j3.size;exact⟨hu.stay,hu.y5,hu.chs,hu.J4,hu.low⟩
 ·have hle:=hB.le;have dw1:∀b,(rn0 rb yb eb wb Y.m).fp b->w0.heap.size <=b:=fun b hb=>by
   rcases hb with rfl|rfl|rfl|⟨h,_⟩|⟨h,_⟩|⟨h,_⟩|⟨j,c,h,_⟩
   ·exact hle.1
   ·exact hle.2.2.1
   ·exact hle.2.2.2.1
   ·exact absurd rfl h
   ·exact absurd rfl h
   ·exact absurd rfl h
   ·simp[rn0]at h
  have na1:yb<w4.heap.size:=(Array.getElem?_eq_some_iff.1 hB.yb).1;have sm1:¬(rn0 rb yb eb wb Y.m).fp tb:=hB.mem.af1 hB.tb (by decide);have hu:=hX.under.mono zt0.size;have hnl:∀{j:Nat},¬j<(rn0 rb yb eb wb Y.m).cl.length:=fun h=>Nat.not_lt_zero _ h;have hnc:∀{j:Nat} {c:CB},(rn0 rb yb eb wb Y.m).cl[j]? =some c->False:=fun h=>by simp[rn0]at h
  refine⟨Nat.zero_le _,⟨⟨m0,fun _=>0,fun _=>0,fun _=>0,fun _=>[],fun _ _=>False⟩,⟨⟨hB.mem,rfl,fun j c hc=>(hnc hc).elim,fun j c hc=>(hnc hc).elim,dw1,fun j hj=>(hnl hj).elim,fun j b hb=>hb.elim,fun b hb=>?_,hX.qk0,fun _=>zt0.os,fun _=>zt0.output,zt0.size,rfl,show Go.ConcN.upd X.stay 0 _ 0=_ from Go.ConcN.upd_same _ _ _,.inr rfl,fun g s hg hs=>?_,fun j k hj=>(hnl hj).elim,fun j k hj=>(hnl hj).elim,fun j k c d hc=>(hnc hc).elim,fun j c hc=>(hnc hc).elim,hX.dn,hX.pend,?_,?_,fun b hb=>hX.w7 b (Nat.le_trans zt0.size hb),fun _=>hX.W1 0,⟨O7,fun b hb=>?_,hb3⟩⟩,F,?_,fun b hb=>⟨fun z=>?_,fun z=>?_⟩⟩⟩,⟨rfl,rfl,rfl,rfl,rfl,fun j c hc=>(hnc hc).elim,fun j hj=>?_⟩,rfl,rfl⟩
  ·by_cases hbt:b=tb
   ·subst hbt;refine⟨?_,sm1,fun k hk=>(hnl hk).elim⟩;show _=(if b=b then _ else _);rw[if_pos rfl];exact hB.tb
   ·have hMb:Mn' b=Mn b:=if_neg hbt;rw[hMb]at hb⊢;cases ho:Mn b with
    |none=>exact absurd ho hb
    |some o=>
     have hl:=J1 b o ho;exact⟨(zt0.block b hl).trans (hmn b o ho),fun z=>by have:=dw1 b z;omega,fun k hk=>(hnl hk).elim⟩
  ·have:=hX.W1 g;have hs:X.W1 g=some s:=hs;rw[this]at hs;cases hs
  ·show X.cap <=0;rw[hX.cap];exact Nat.le_refl _
  ·refine⟨fun g p hp=>?_,hu.y5,fun b hb=>?_,fun G hG=>?_,fun b hb=>?_⟩
   ·by_cases hg:g=0
    ·subst hg;have hp':p∈Go.ConcN.upd X.stay 0 [((⟨rb,8-1,none⟩:Addr),Value.chan (some yb))] 0:=hp;rw[Go.ConcN.upd_same]at hp';simp at hp';rw[hp'];exact hB.mem.run.lt
    ·have hp':p∈Go.ConcN.upd X.stay 0 [((⟨rb,8-1,none⟩:Addr),Value.chan (some yb))] g:=hp;rw[Go.ConcN.upd_ne _ _ hg]at hp';exact hu.stay g p hp'
   ·rcases hb with z|rfl
    ·exact hu.chs b z
    ·exact na1
   ·rcases hG with z|z
    ·have z:some (⟨rb,8⟩:K7)=some G:=z;cases z;exact hB.mem.run.lt
    ·have z:G∈X.J4.toList++X.old:=z;rw[List.mem_append]at z;rcases z with z|z
     ·exact hu.J4 G (.inl (by simpa using z))
     ·exact hu.J4 G (.inr z)
   ·rcases hb with(z|rfl)|rfl
    ·exact hu.low b z
    ·exact na1
    ·exact hB.mem.run.lt
  ·rcases hb with(z|rfl)|rfl
   ·exact hb2 b z
   ·have:=hle.2.1;omega
   ·have:=hle.1;omega
  ·exact hO.sys.loc _ _ w0 w4 F hinv fun b hb=>zt0.block b (bn0 b hb).1
  ·have:=dw1 b z;have:=(bn0 b hb).1;omega
  ·rcases z with z|⟨k,hk,_⟩|⟨j,z⟩
   ·by_cases hbt:b=tb
    ·have:=(bn0 b hb).1;have:=hle.2.2.2.2;omega
    ·exact z ((if_neg hbt).trans (hFm b hb))
   ·exact(hnl hk).elim
   ·exact z
  ·show(List.replicate Y.m (0:Int))[j]? =_;simp[hj];rfl
end
end
end Go.Vy.Sc
end
section
namespace Go.Vy
open Go Go.Conc Go.Yc Go.RowKit
open Go.Vc
section
variable {P:Program}[Ctx P]
end
section
variable {P:Program}{ρ:Operand->Value}{w:World}{d:Option Nat}{ty:TypeId}{ps:String}{af:Array Edge}{g:Option (Nat×Bool)}{x y:Operand}{T T' S:TypeId}
theorem cz0 {a b:ByteArray} (hx:ρ x= .string a) (hy:ρ y= .string b) (h:a.size+b.size <=9223372036854775807):Does P (execOp ρ ⟨d,.binOp .add T x y T',ty,ps,af,g⟩) w (.val (.string (a++b))) w:=by
 have hm:IntKind.i64.max=9223372036854775807:=by decide
 have hn:¬((a.size+b.size:Nat):Int)>IntKind.i64.max:=by omega
 refine .Q0 (Ne0 hx hy) rfl rfl fun τ d=>?_;have h1:binOp .add T (.string a) (.string b)=(pure (.string (a++b)):Sem Value):=by
  show Op.stringOp .add a b=_;unfold Op.stringOp;exact if_neg hn
 have h2:eqGuard .add T x y (.string a) (.string b)=(pure ():Sem Unit):=rfl;show(do pure (.value (<- (do eqGuard .add T x y (ρ x) (ρ y);binOp .add T (ρ x) (ρ y)))):Sem Next).run P _=_;rw[hx,hy,h2,h1];rfl
theorem cb0 {κ κ':IntKind} {m:Int} {u:TypeDesc} (hx:ρ x= .int κ m) (hS:P.underlying S=some u) (hT:P.underlying T=some (.int κ')):Does P (execOp ρ ⟨d,.convert S T x,ty,ps,af,g⟩) w (.val (.int κ' (κ'.wrap m))) w:=by
 have hc:∀w':World,(convert S T (.int κ m)).run P w'= .ok (.int κ' (κ'.wrap m)) w':=fun w'=>by
  simp only[convert,Sem.run_bind,run_underlying hS,run_underlying hT,Result.andThen_ok];rfl
 have ht:j1 P (convert S T (.int κ m)):=by
  unfold convert;refine cr0 hS ?_;refine cr0 hT ?_;exact B1 _
 refine .Q0 (Zc0 (t:=(do pure (.value (<- convert S T (ρ x))):Sem Next)) rfl (by rw[hx];exact t_v ht)) rfl rfl fun τ d=>?_;show(do pure (.value (<- convert S T (ρ x))):Sem Next).run P _=_;rw[hx];simp only[Sem.run_bind,hc,Result.andThen_ok];rfl
theorem Ck0 {α β:Type} {f:α->β->Sem (ForInStep β)} (hf:∀a b,j1 P (f a b)):∀(l:List α) (b:β),j1 P (forIn l b f)
 | [],b=>by rw[List.forIn_nil];exact B1 _
 |a::l,b=>by
  rw[List.forIn_cons];refine C1 (hf a b) fun r=>?_;cases r with
  |done b=>exact B1 _
  |yield b=>exact Ck0 hf l b
theorem Qn0 {α β:Type} {f:α->β->Sem (ForInStep β)} (hf:∀a b,j1 P (f a b)) (l:Array α) (b:β):j1 P (forIn l b f):=by
 rw[<- Array.forIn_toList];exact Ck0 hf _ _
theorem xs0 {E:TypeId} {ad:Addr} {c:Nat} {m:Int} (hx:ρ x= .slice (some ad) 1 c) (hS:P.underlying S=some (.slice E)) (hE:P.underlying E=some (.int .u8)) (hT:P.underlying T=some .string) (hc:w.cell? ad=some (.int .u8 m)) :
  Does P (execOp ρ ⟨d,.convert S T x,ty,ps,af,g⟩) w (.val (.string (ByteArray.empty.push (UInt8.ofNat m.toNat)))) w:=by
 have ht:j1 P (convert S T (.slice (some ad) 1 c)):=by
  unfold convert;refine cr0 hS ?_;refine cr0 hT ?_;refine cr0 hE ?_;show j1 P (Conv.bytesToString _);unfold Conv.bytesToString;refine C1 (G5 _ _) fun l=>?_;refine C1 (Qn0 (fun a b=>?_) _ _) fun r=>B1 _;split
  ·exact B1 _
  ·exact C1 (T7 _) fun _=>B1 _
 have hl:∀w':World,w'.heap=w.heap->(loadCells ad 1).run P w'= .ok #[.int .u8 m] w':=fun w' hw=>by
  have h1:w'.cell? ad=some (.int .u8 m):=by rw[<- hc];unfold World.cell?;rw[hw]
  have:=run_loadCells_list (P:=P) (w:=w') ad [.int .u8 m] (fun j v hj=>by
   match j,hj with
   |0,hj=>cases hj;simpa [Addr.add]using h1)
  simpa using this
 have hr:∀w':World,w'.heap=w.heap->(convert S T (.slice (some ad) 1 c)).run P w'= .ok (.string (ByteArray.empty.push (UInt8.ofNat m.toNat))) w':=fun w' hw=>by
  simp only[convert,Sem.run_bind,run_underlying hS,run_underlying hT,run_underlying hE,Result.andThen_ok,Conv.bytesToString,hl w' hw];rfl
 refine .Q0 (Zc0 (t:=(do pure (.value (<- convert S T (ρ x))):Sem Next)) rfl (by rw[hx];exact t_v ht)) rfl rfl fun τ d=>?_;show(do pure (.value (<- convert S T (ρ x))):Sem Next).run P _=_;rw[hx];simp only[Sem.run_bind,hr _ (show(Yc.V2 w τ d).heap=w.heap from rfl),Result.andThen_ok];rfl
end
section
variable {P:Program}[Ctx P]
end
section
variable {P:Program}[Ctx P]{n:Nat}{Q:Exit->Env->World->Prop}{e:Env}{w:World}{ops:Array Oper}{rest:List Oper}{d:Nat}{ty:TypeId}{ps:String}{af:Array Edge}{T E:TypeId}
theorem L.Qo0 [Go.Vc.B4] {s m:Nat} {parts:List (Nat×Operand)} {vs:List (Nat×Value)} {zv:Value} {cs:Array Value} (hv:parts.map (fun(i,y)=>(i,ev e y))=vs) (hT:P.underlying T=some (.slice E)) (hs:(P.info? E).map (·.size)=some s) (hz:(P.info? E).bind (·.zero)=some zv) (J1:0<m*s/\m*s <=16777216)
  (hf:Instr.fill (fun i=>some (i*s,s)) ((Array.range (m*s)).map (fun i=>zv.cells[i%zv.cells.size]!)) vs=some cs)
  (k:∀w1 b,gw0 w w1 b cs E->L P n ops Q rest (upd e d (.slice (some ⟨b,0,none⟩) m m)) w1) :
  L P n ops Q (⟨some d,.buildSlice T m parts.toArray,ty,ps,af,none⟩::rest) e w:=by
 refine L.va (w':=w.alloc (.cells cs E)) (.Q0 (Y1 rfl _) rfl rfl fun τ d'=>?_) (k _ _ (v7 w _ E));show(execOp (ev e) ⟨some d,.buildSlice T m parts.toArray,ty,ps,af,none⟩).run P (Yc.V2 w τ d')= .ok (.value (.slice (some ⟨(Yc.V2 w τ d').heap.size,0,none⟩) m m)) ((Yc.V2 w τ d').alloc (.cells cs E));generalize Yc.V2 w τ d'=w;have h1:¬(m*s>2 ^ 24):=by omega
 have h2:¬(m*s=0):=by omega
 simp only[execOp,Instr.buildSlice,List.map_toArray,hv,Go.Vc.run_underlying hT,Go.Vc.run_sizeOf hs,Sem.run_bind,Result.andThen_ok,h1,h2,if_false,Sem.run_pure,Go.Vc.ay0 hz];rw[hf];simp[newRow]
end
def ao1 (P:Program) (fn:Func) (R:Ending->World->Prop):Exit->Env->World->Prop:=fun x e w=>match x with
 | .panic ch=>R (.panicked ch) w
 |x=>ends P fn (fun v w=>R (.returned v) w) x e w
theorem Calls.n6 {P:Program} [Ctx P] {f:FuncId} {fn:Func} {c:Code} {args:Array Value} {w:World} {R:Ending->World->Prop} {n:Nat} (hf:P.funcs[f]? =some fn) (hb:fn.body=some c) (hn:args.size+(fn.ntmps-args.size)=n)
  (h:W P n c (ao1 P fn R) (Vc.bq0 args) w):Calls P f args w R:=by
 refine calls_of_wp hf hb (wp_mono (h _ ⟨?_,rfl,?_⟩) ?_)
 ·simp[hn]
 ·intro t;simp only[Vc.bq0,Array.getD_eq_getD_getElem?,Array.getElem?_append];split
  ·rfl
  ·rename_i ht;rw[Array.getElem?_eq_none (by omega:args.size <=t)];simp only[Array.getElem?_replicate];split <;> rfl
 ·rintro x a w' ⟨e',r,hx⟩;cases x with
  |panic ch=>exact⟨r.defers,hx⟩
  |normal=>obtain⟨_,v,hv,hR⟩:=hx;exact⟨r.defers,v,hv a.tmps r.get,hR⟩
  |ret=>obtain⟨_,v,hv,hR⟩:=hx;exact⟨r.defers,v,hv a.tmps r.get,hR⟩
  |exit id=>obtain⟨hx,_⟩:=hx;rcases hx with hx|hx <;> cases hx
  |goto l=>obtain⟨hx,_⟩:=hx;rcases hx with hx|hx <;> cases hx
  |outgrown=>obtain⟨hx,_⟩:=hx;rcases hx with hx|hx <;> cases hx
end Go.Vy
end
section
namespace Go.Vy.Sc
open Go Go.Conc Go.Yc Go.RowKit Go.Proofs Go.Proofs.YtinppmaojmdmhaaGreat Tryz
open Go.Vc Go.Wg
theorem lk0 {w:World} {a:Addr} {v:Value} (h:w.cell? a=some v):a.block<w.heap.size:=by
 unfold World.cell? at h;rcases Nat.lt_or_ge a.block w.heap.size with z|z
 ·exact z
 ·rw[Array.getElem?_eq_none z]at h;simp at h
theorem cj0 {w0 w:World} {a:Addr} {v:Value} (h:w0.cell? a=some v) (hb:Below w0.heap.size w0 w):w.cell? a=some v:=by
 rw[(w8 (u:=w0) (u':=w) (a:=a) (hb.block _ (lk0 h))).1];exact h
theorem w5.down {B B':Nat} {w:World} {R:Rn} (h:w5 w B' R) (hB:B <=B'):w5 w B R:=⟨h.run,h.cls.down hB,h.evs.down hB,h.nts.down hB,h.ends,h.wts,h.hw0,h.mj0,h.lcl,h.blk⟩
theorem R5 {P:Program} {S:Sem Next} {w:World} {b r:Bool} (h:b=r) (hd:Does P S w (.val (.bool b)) w):Does P S w (.val (.bool r)) w:=h▸hd
structure tm0 (w:World) (sa:Option Addr) (sn scp:Nat) (sc:Nat->Int):Prop where
 sl:SL sa sn
 nil:sa=none->sn=0/\scp=0
 cap:sn <=scp
 cell:∀j,j<sn->w.cell? ⟨ab sa,ao sa+j*1,none⟩=some (.i (sc j))
theorem tm0.j0 {w w':World} {sa:Option Addr} {sn scp:Nat} {sc:Nat->Int} (h:tm0 w sa sn scp sc) (hb:Below w.heap.size w w'):tm0 w' sa sn scp sc:=⟨h.sl,h.nil,h.cap,fun j hj=>cj0 (h.cell j hj) hb⟩
theorem Sys.ind {Y:Sys} (I:PR Y->Prop) (h0:I Y.p0) (hb:∀p,I p->p.ft.length<Y.m->I (Y.bgn p)) (ht:∀p i l,I p->p.ft.length=Y.m->p.ft[i]? =some (.inl l)->Y.rdy i l p.s=true->I (Y.V4 p i)):∀p,Y.Reach p->I p:=by
 have hB:∀n,n <=Y.m->I (Y.D3 n):=by
  intro n
  induction n with
  |zero=>exact fun _=>h0
  |succ n ih=>exact fun hn=>hb _ (ih (by omega)) (by rw[Sys.m7];omega)
 have hP:∀(sc:Nat->Int) n,I (Y.pn sc n):=by
  intro sc n
  induction n with
  |zero=>exact hB Y.m (Nat.le_refl _)
  |succ n ih=>
   show I (Y.step (Y.pn sc n) (sc n));unfold Sys.step;split
   ·rename_i i hi;obtain⟨_,hr⟩:=Sys.zr0 hi;unfold Sys.gz0 at hr;cases hx:(Y.pn sc n).ft[i]? with
    |none=>rw[hx]at hr;cases hr
    |some f=>
     cases f with
     |inl l=>rw[hx]at hr;exact ht _ i l ih (Sys.br0 sc n) hx hr
     |inr x=>rw[hx]at hr;cases hr
   ·exact ih
 rintro p (⟨n,hn,rfl⟩|⟨sc,n,rfl⟩)
 ·exact hB n hn
 ·exact hP sc n
end Go.Vy.Sc
end
section
namespace Go.Vy
open Go Go.Conc Go.Yc Go.RowKit
open Go.Vc
theorem nb1 {P:Program} {fr:Frame} {fn:Func} {v:Value} {t:Tmp} (hm:fr.mode= .returning) (hd:fr.defers=[]) (hk:fr.kind= .normal) (hf:P.funcs[fr.fn]? =some fn) (hr:fn.results=#[.tmp t]) (hv:fr.tmps.getD t undef=v) (hi:P.inits.idxOf? fr.fn=none) (w:World):stepG P true (G fr []) w= .ended (.done v) w #[]:=by
 have h1:=results_tmp hr fr.tmps P w;have h2:=events_results_tmp (P:=P) (w:=w) hr fr.tmps;simp[G,stepG,unwind,doReturn,hm,hd,hk,hf,hi,h1,h2,hv,seen,GStep.after]
theorem Fq0 {P:Program} {fr:Frame} {fn:Func} {w:World} {v:Value} {t:Tmp} (hl:Leaves P fr w (.returned v)) (hf:P.funcs[fr.fn]? =some fn) (hr:fn.results=#[.tmp t]) (hnv:Q7 w):fr.tmps.getD t undef=v:=by
 obtain⟨h1,h2,h3,fn',h4,h5⟩:=hl;rw[hf]at h4;obtain rfl:=Option.some.inj h4;obtain⟨x',es,h6,_⟩:=h5 w.tape w.drawn _ w hnv.sim;have h7:=results_tmp hr fr.tmps P w;rw[Sem.runT_eq]at h6;have h8:=(Prod.mk.inj h6).1;rw[h7]at h8;injection h8
end Go.Vy
namespace Go.Vy.Sc
open Go Go.Conc Go.Yc Go.RowKit Go.Proofs Go.Proofs.YtinppmaojmdmhaaGreat Tryz
open Go.Vc Go.Wg
def qq0 (W w':World):Prop:=Below W.heap.size W {w' with tape:=W.tape}
theorem qq0.frame {W w':World} (h:qq0 W w') (may:MemPlace->Prop):W.keptBut w' may:=Below.frame h may
theorem qq0.trod {H:Type} {enc:TypeId×Value->H} {P:Program} {t:TypeId} (hl:laidOutB P=true) (hr:P.readableRec t=true) (so1:t<P.types.size) {W W':World} {v:Value} {d:DataW H} {ps:List MemPlace}
  (h:DataW.Trod enc P W 0 (fun _=>true) true t v d ps) (hb:qq0 W W') (J1:∀x∈ps,x.block<W.heap.size) :
  DataW.Trod enc P W' 0 (fun b=>decide (b<W.heap.size)) true t v d ps :=
 WideElems.Trod_stays hl hr so1 h (fun x hx=>(Below.same hb (J1 x hx):W.sameAt {W' with tape:=W.tape} x)) (fun x hx=>by simpa using J1 x hx)
theorem Qp0 {x y:Obj} (h:fr0 .all x y):y=x:=by cases h;rfl
theorem Kl0 {o x y:Obj} (h:fr0 (.gone o) x y):y=o:=by cases h;rfl
theorem he1 {f:FuncId} {fn:Func} {t:Tmp} {args:Array Value} {W:World} (hf:prog.funcs[f]? =some fn) (hr:fn.results=#[.tmp t]) (hi:prog.inits.idxOf? f=none) (h:@C prog (j9 W.heap.size (X0 W).w7) f args (ht0 W) fun v w=>v= .bool true/\Below (ht0 W).heap.size (ht0 W) w) :
  Yc.Ends prog (fun v w'=>v= .bool true/\qq0 W w') (solo (G (Frame.enter prog f args .normal) []) W) #[]:=by
 have N2:(ht0 W).heap.size=W.heap.size:=by simp[ht0]
 refine Fin.start (h _ ⟨_,rfl⟩ [] (fun e w' fr he hfr hl=>?_) (X0 W) ⟨fun _=>rfl,rfl,rfl,rfl,Ml0 W _,fun b hb=>Hk0 (by rw[<- N2];exact hb),Nat.one_pos⟩ (by rw[N2];exact Nat.le_refl _) (fun _ hb=>hb.elim) rfl);cases e with
 |panicked ch=>exact he.elim
 |outgrown=>exact he.elim
 |returned v=>
  obtain⟨rfl,hb⟩:=he;rw[N2]at hb;refine Kj0 _ _ _ _ _ fun hnv X hX h1 h2 h3=>?_;have nc1:prog.funcs[fr.fn]? =some fn:=by rw[hfr];exact hf
  have hv:=Fq0 hl nc1 hr hnv;obtain⟨hm,hd,hk,_⟩:=hl;refine Fin.ends rfl hX.W1 hX.cap (nb1 hm hd hk nc1 hr hv (by rw[hfr];exact hi)) fun ρ w hs hρ=>⟨rfl,?_⟩
  refine⟨hs.os.trans hb.os,rfl,hs.output.trans hb.output,?_,fun k hk=>?_⟩
  ·show W.heap.size <=w.heap.size;rw[hs.size];show W.heap.size <=w'.heap.size;rw[<- N2];exact hb.size
  ·show w.heap[k]? =W.heap[k]?;have hk':k<w'.heap.size:=by have:=hb.size;rw[N2]at this;omega
   obtain⟨y,hy,hlk⟩:=hs.obj k _ (Array.getElem?_eq_getElem hk');have e1:some w'.heap[k]=(ht0 W).heap[k]?:=by rw[<- hb.block k hk];exact(Array.getElem?_eq_getElem hk').symm
   have e2:(ht0 W).heap[k]? =(W.heap[k]?).map fun o=>if Q4 o then nothing else o:=by
    show(W.heap.map _)[k]? =_;rw[Array.getElem?_map]
   rw[Array.getElem?_eq_getElem hk]at e2;rw[e2]at e1;have e1:=Option.some.inj e1;have hp:ρ k=(X0 W).w7 k:=by
    rw[hρ k fun z=>by have:=h2 k z;omega,h3]
   have hp2:(X0 W).w7 k=if Q4 W.heap[k] then .gone W.heap[k] else .all:=by
    show(match W.heap[k]? with|some o=>if Q4 o then C7.gone o else .all|none=>.all)=_;rw[Array.getElem?_eq_getElem hk]
   rw[hy,Array.getElem?_eq_getElem hk];have hlk:fr0 (ρ k) w'.heap[k] y:=hlk;rw[hp,hp2,e1]at hlk;cases hv:Q4 W.heap[k]
   ·simp only[hv,Bool.false_eq_true,if_false]at hlk;rw[Qp0 hlk]
   ·simp only[hv,if_true]at hlk;rw[Kl0 hlk]
end Go.Vy.Sc
end
section
namespace Go.Vy.Sc
open Go Go.Conc Go.Yc Go.RowKit Go.Proofs Go.Proofs.YtinppmaojmdmhaaGreat Tryz
open Go.Vc Go.Wg Go.ChangeShapes Go.WideShapes Go.ChangeAt Go.Deep
theorem ms0 {W:World} {a:Addr} {v:Value} (h:W.cell? a=some v):(ht0 W).cell? a=some v:=by
 unfold World.cell? at h⊢;cases ho:W.heap[a.block]? with
 |none=>rw[ho]at h;cases h
 |some o=>
  cases o with
  |cells c e f=>
   rw[Mm0 ho rfl];rw[ho]at h;exact h
  |_=>rw[ho]at h;cases h
theorem qr0 {α:Type} [Inhabited α] {n:Nat} {p:Nat->α->Prop} (h:∀i,i<n->∃x,p i x):∃f:Nat->α,∀i,i<n->p i (f i):=by
 classical
 exact⟨fun i=>if hi:i<n then(h i hi).choose else default,fun i hi=>by
  show p i (if hi:i<n then(h i hi).choose else default);rw[dif_pos hi];exact(h i hi).choose_spec⟩
section
end
section
theorem Cl0:prog.cellsOf 3=1:=by kernel_rfl
theorem sp1 {α:Type}:∀{cs:List α},cs.length=3->∃a b c,cs=[a,b,c]
 | [a,b,c],_=>⟨a,b,c,rfl⟩
end
end Go.Vy.Sc
end
section
namespace Go.Vy
open Go Go.Conc Go.Yc
open Go.Vc (Env upd R3 ev)
theorem Does.quiet {P:Program} {S:Sem Next} {u:World} {r:Out} (h:∀τ d ρ x,X6 ρ (V2 u τ d) x->S.run P x=r.res x/\S.events P x #[]=#[]):Does P S u r u :=
 ⟨rfl,rfl,fun τ d ρ x hs=>by
  obtain⟨h1,h2⟩:=h τ d ρ x hs;exact⟨Evo.refl _,x,#[],by rw[Sem.runT_eq,h1,h2],hs,fun e he=>by simp at he⟩⟩
section
variable {P:Program}
theorem Qq0 {f:FuncId} {fn:Func} {args:Array Value} {e:Array Value->Sem Value} (hf:P.funcs[f]? =some fn) (D4:(fn.name== "runtime.NumGoroutine")=false) (hb:fn.body.isNone=true) (hn:Extern.findNext fn=none) (he:Extern.find fn=some e) (ht:j1 P (e args)):j1 P (callFunc f args):=by
 unfold callFunc;refine Bq0 ?_;rw[hf];simp only[D4,Bool.false_eq_true,if_false,hb,if_true,hn,he];exact C1 (s:=mark (Mark.extern f)) (show(if Eh0 (Mark.extern f)=true then j1 P (.pure ()) else dead P (.pure ()))by rw[if_pos (show Eh0 (Mark.extern f)=true from rfl)];trivial) fun _=>C1 ht fun _=>B1 _
end
section
open Go.Vc Go.RowKit
variable {P:Program}[Ctx P]
end
end Go.Vy
end
section
namespace Go.Vy.Sc
open Go Go.Conc Go.Yc Go.RowKit Go.Proofs Go.Proofs.YtinppmaojmdmhaaGreat Tryz
open Go.Vc Go.Wg
section
end
structure ll0 (Y:Sys) (sc:Nat->Int) (sn B:Nat) (R:Rn) (w:World):Prop where
 mem:w5 w B R
 hm:R.m=Y.m
 evs:R.evs=(Y.pn sc sn).evs
 nts:R.nts=(Y.pn sc sn).nts
 used:R.used=(Y.pn sc sn).used
 ends:∀j,j<Y.m->R.ends[j]? =some (ec0 (Y.pn sc sn).ft[j]?)
 wts:∀j,j<Y.m->R.wts[j]? =some (dp1 Y j ((Y.pn sc sn).ft[j]?))
 stuck:R.stuck=((Y.pn sc sn).ft.any (·.isLeft)&&(Y.rds (Y.pn sc sn)).isEmpty)
 fp:∀b,R.fp b->B <=b
section
variable {Y:Sys}{sc:Nat->Int}{sn B B':Nat}{R:Rn}{w w':World}
theorem ll0.congr (h:ll0 Y sc sn B R w) (he:∀k,R.fp k->w'.heap[k]? =w.heap[k]?):ll0 Y sc sn B R w' :=
 ⟨h.mem.congr he,h.hm,h.evs,h.nts,h.used,h.ends,h.wts,h.stuck,h.fp⟩
theorem ll0.j0 (h:ll0 Y sc sn B R w) (hb:Below w.heap.size w w'):ll0 Y sc sn B R w':=h.congr fun k hk=>hb.block k (h.mem.lt hk)
theorem ll0.j6 {b:Nat} (h:ll0 Y sc sn B R w) (hg:w.grownBy w' (some b)) (hn:¬R.fp b):ll0 Y sc sn B R w':=h.congr fun k hk=>hg.block k (h.mem.lt hk) fun e=>hn (by cases e;exact hk)
theorem ll0.down (h:ll0 Y sc sn B' R w) (hB:B <=B'):ll0 Y sc sn B R w :=
 ⟨h.mem.down hB,h.hm,h.evs,h.nts,h.used,h.ends,h.wts,h.stuck,fun b hb=>Nat.le_trans hB (h.fp b hb)⟩
theorem Wl0 {fb:Nat->FuncId} {caps:Nat->Array Value} {fv:Nat->Value} {l sa:Option Addr} {lc scp:Nat} {F:Nat->Prop} (hO:ob0 Y fb caps fv l sa sn sc) {m0:Gm} (hinv:Y.Inv Y.s0 m0 w F) (hl:∀j,j<Y.m->w.cell? ⟨ab l,ao l+j*1,none⟩=some (fv j)) (hlF:0<Y.m->¬F (ab l)) (hSc:tm0 w sa sn scp sc) (hsF:0<sn->¬F (ab sa)\/∀s m w' F',Y.Inv s m w' F'->w'.heap[ab sa]? =w.heap[ab sa]?) :
  @C prog (j9 Y.lb Y.pl) 41 #[.slice l Y.m lc,.slice sa sn scp] w fun v w'=>∃R,v= .tuple #[Ps0 R,.i 0]/\ll0 Y sc sn w.heap.size R w'/\(∃m' F',Y.Inv (Y.pn sc sn).s m' w' F'/\∀b,F' b->¬R.fp b)/\w'.os=w.os/\w'.output=w.output/\w'.tape=w.tape/\w.heap.size <=w'.heap.size/\∀b,b<w.heap.size->¬F b->w'.heap[b]? =w.heap[b]?:=by
 classical
 let Mn:Nat->Option Obj:=fun b=>if F b then none else w.heap[b]?
 have gy0:∀(w':World) (a:Addr) (v:Value),(∀b,Mn b≠none->w'.heap[b]? =Mn b)->¬F a.block->w.cell? a=some v->w'.cell? a=some v:=fun w' a v hw hF ha=>by
  have h1:Mn a.block=w.heap[a.block]?:=if_neg hF;have h2:w'.heap[a.block]? =w.heap[a.block]?:=by
   rw[<- h1];refine hw _ ?_;rw[h1,Array.getElem?_eq_getElem (lk0 ha)];simp
  rw[(w8 (u:=w) (u':=w') (a:=a) h2).1];exact ha
 have key:=mx1 (Mn:=Mn) (w0:=w) (F:=F) (bc:=lc) (scp:=scp) hO (fun b o h=>by
   have h:(if F b then none else w.heap[b]?)=some o:=h;split at h
   ·cases h
   ·exact h) hinv (fun b hb=>if_pos hb) (fun w' hw j hj=>gy0 w' _ _ hw (hlF (by omega)) (hl j hj)) (fun w' hI hw j hj=>by
   rcases hsF (by omega)with h|h
   ·exact gy0 w' _ _ hw h (hSc.cell j hj)
   ·obtain⟨s,m,F',hI⟩:=hI;rw[(w8 (u:=w) (u':=w') (a:=⟨ab sa,ao sa+j*1,none⟩) (h s m w' F' hI)).1];exact hSc.cell j hj)
 refine @Calls.mono _ (j9 Y.lb Y.pl) _ _ _ _ _ key fun e w' he=>?_;cases e with
 |panicked ch=>exact he.elim
 |outgrown=>exact he.elim
 |returned v=>
  obtain⟨R,rfl,hD⟩:=he;refine⟨R,rfl,⟨hD.mem,hD.m,hD.evs,hD.nts,hD.used,hD.ends,hD.wts,hD.stuck,hD.fp⟩,hD.inv,hD.os,hD.output,hD.tape,hD.size,fun b hb hF=>?_⟩;have h1:Mn b=w.heap[b]?:=if_neg hF;rw[<- h1];refine hD.j0 b ?_;rw[h1,Array.getElem?_eq_getElem hb];simp
end
section
variable [Ctx prog]
end
section
theorem dx1:prog.built 99 []=some #[.bool false]:=by kernel_rfl
theorem dy1 (x0:Int) (x1:Int) (x2:Int):prog.built 65 [(0,.i x0),(1,.i x1),(2,.i x2)]=some #[.i x0,.i x1,.i x2]:=by kernel_rfl
theorem dz1 (x0:Int) (x1:Int):prog.built 162 [(0,.i x0),(1,.i x1)]=some #[.i x0,.i x1]:=by kernel_rfl
theorem ea1 (x0:Int) (x1:Int) (x2:Option Addr) (x3:Option Addr) (x4:Nat) (x5:Nat) (x6:Int) (x7:Int):prog.built 164 [(0,.agg #[.i x0,.i x1]),(1,.pointer x2),(2,.agg #[.slice x3 x4 x5,.i x6,.i x7])]=some #[.i x0,.i x1,.pointer x2,.slice x3 x4 x5,.i x6,.i x7]:=by kernel_rfl
end
section
variable [Ctx prog]
theorem eb1 (w0:World):C prog 13 #[] w0 fun v w=>∃wb,v= .p wb/\w0.heap.size <=wb/\K0 w wb #[.bool false] 99/\Below w0.heap.size w0 w:=by
 refine C.enter (n:=3) func13 rfl rfl ?_;refine U1 ?_;intro hb;refine U41 ?_;refine L.va (G2 (parts:=[]) rfl dx1) ?_;refine L.box (cs:=#[.bool false]) rfl rfl (fun w b2 F2=>?_);refine U15 ?_;intro lt2 hb;have A2:=F2.blk;refine U101 ?_;exact⟨b2,rfl,lt2,A2,hb⟩
theorem qs0 (wb:Nat) (w0:World) (hW:K0 w0 wb #[.bool false] 99):C prog 69 #[.p wb] w0 fun v w=>v= .bool false/\w=w0:=by
 refine C.enter (n:=11) func69 rfl rfl ?_;refine U0 ?_;refine U7 ?_;refine U48 ?_;refine L.va (m8 rfl rfl underlying27) ?_;refine U75 ?_;refine L.va (B0 rfl underlying99 rfl sz4 (by decide)) ?_;refine L.on rfl ?_;refine L.va (A0 rfl underlying4 rfl (hW.q0 0 (v:=.bool false) rfl)) ?_;refine L.va (p6 rfl) ?_;refine U7 ?_;exact U29
theorem Qr0 {f:FuncId} {fn:Func} {ys:Array Value} (hf:prog.funcs[f]? =some fn) (hbd:fn.body.isSome=true) (hnm:(fn.name== "runtime.NumGoroutine")=false) (k o n:Int) (rd:Value) (w0:World) (R:World->Prop) (hdo:∀w,Below w0.heap.size w0 w->C prog f ys w fun _ w'=>R w') :
  C prog 126 #[.pointer none,.agg #[.i k,.i o,.i n],rd,.func (.func f) #[] ys] w0 fun _ w=>R w:=by
 refine C.enter (n:=63) func126 rfl rfl ?_;refine U1 ?_;intro hb;refine L.box (cs:=#[.i k,.i o,.i n]) rfl rfl (fun w b5 F5=>?_);refine U37 ?_;intro lt5 hb;refine U3 ?_;refine U528 ?_;refine U33 ?_;refine U333 ?_;refine L.va (cq0 (v:=.func (.func f) #[] ys) (b:=true) rfl (.inr ⟨_,_,_,rfl,rfl⟩) rfl underlying1 ⟨_,_,_,rfl⟩) ?_;refine U66 ?_;refine L.va v5 ?_;refine L.call (in0 rfl hf hbd hnm) (hdo _ hb) ?_;rintro _ w hR;refine U3 ?_;refine U58 ?_;refine ends.none (.inr rfl) rfl ?_;exact hR
theorem Km0 {f:FuncId} {fn:Func} {ys:Array Value} (hf:prog.funcs[f]? =some fn) (hbd:fn.body.isSome=true) (hnm:(fn.name== "runtime.NumGoroutine")=false) (o n k:Int) (rd:Value) (w0:World) (R:World->Prop) (hdo:∀w,Below w0.heap.size w0 w->C prog f ys w fun _ w'=>R w') :
  C prog 70 #[.agg #[.i o,.i n],.pointer none,.i k,rd,.func (.func f) #[] ys] w0 fun _ w=>R w:=by
 refine C.enter (n:=20) func70 rfl rfl ?_;refine U1 ?_;intro hb;refine L.box (cs:=#[.i o,.i n]) rfl rfl (fun w b5 F5=>?_);refine U37 ?_;intro lt5 hb;have I2:=F5.blk;refine U46 ?_;refine U292 ?_;refine U484 ?_;refine L.va (G2 (parts:=[(0,.tmp 11),(1,.tmp 13),(2,.tmp 15)]) rfl (dy1 k o n)) ?_;refine U211 ?_;refine L.call (fz0 rfl rfl rfl rfl func126 rfl Or0 rfl) (Qr0 hf hbd hnm k o n rd w R (fun w1 O7=>hdo w1 (G0 hb O7))) ?_;rintro _ w hR;refine U82 ?_;exact hR
theorem Fr0 (b0 b1 cb:Nat) (obj num:Int) (q:Value) (sa:Option Addr) (sn:Nat) (sc:Nat) (ct:Int) (md:Int) (sa2:Option Addr) (sn2:Nat) (sc2:Nat) (ct2:Int) (md2:Int) (w0:World) (hB0:K0 w0 b0 #[.p cb] 89) (N5:K0 w0 b1 #[.slice sa2 sn2 sc2,.i ct2,.i md2] 97) (hC:K0 w0 cb #[.i obj,.i num,q,.slice sa sn sc,.i ct,.i md] 164) :
  C prog 71 #[.p b0,.p b1] w0 fun v w=>v= .tuple #[]/\K0 w b1 #[.slice sa sn sc,.i ct,.i md] 97/\w0.grownBy w (some b1):=by
 refine C.enter (n:=6) func71 rfl rfl ?_;refine W.region rfl ?_;refine L.va (A0 rfl underlying89 rfl (hB0.q0 0 (v:=.p cb) rfl)) ?_;refine U470 ?_;refine L.va (D2 (cs:=[.slice sa sn sc,.i ct,.i md]) rfl underlying97 rfl o8 rfl (hC.T6 rfl)) ?_;refine L.pu 0 [.slice sa sn sc,.i ct,.i md] #[.slice sa sn sc,.i ct,.i md] o8 N5 (fun w A1 hg N2=>?_);have Y5:=N4.ei0 N5 hg;have N5:=A1;refine U132 ?_;exact⟨rfl,N5,hg⟩
theorem ec1 (b0 b1 cb:Nat) (obj num:Int) (q:Value) (sa:Option Addr) (sn:Nat) (sc:Nat) (ct:Int) (md:Int) (sa2:Option Addr) (sn2:Nat) (sc2:Nat) (ct2:Int) (md2:Int) (w0:World) (hB0:K0 w0 b0 #[.slice sa sn sc,.i ct,.i md] 97) (N5:K0 w0 b1 #[.p cb] 89) (hC:K0 w0 cb #[.i obj,.i num,q,.slice sa2 sn2 sc2,.i ct2,.i md2] 164) :
  C prog 97 #[.p b0,.p b1] w0 fun v w=>v= .tuple #[]/\K0 w cb #[.i obj,.i num,q,.slice sa sn sc,.i ct,.i md] 164/\w0.grownBy w (some cb):=by
 refine C.enter (n:=6) func97 rfl rfl ?_;refine W.region rfl ?_;refine L.va (A0 rfl underlying89 rfl (N5.q0 0 (v:=.p cb) rfl)) ?_;refine L.va (D2 (cs:=[.slice sa sn sc,.i ct,.i md]) rfl underlying97 rfl o8 rfl (hB0.T6 rfl)) ?_;refine U470 ?_;refine L.pu 3 [.slice sa sn sc,.i ct,.i md] #[.i obj,.i num,q,.slice sa sn sc,.i ct,.i md] o8 hC (fun w A1 hg N2=>?_);have Y5:=N4.ei0 hC hg;have hC:=A1;refine U132 ?_;exact⟨rfl,hC,hg⟩
theorem ne1 (cb wb:Nat) (obj num:Int) (sa:Option Addr) (sn:Nat) (sc:Nat) (ct:Int) (md:Int) (w0:World) (hC:K0 w0 cb #[.i obj,.i num,.p wb,.slice sa sn sc,.i ct,.i md] 164) (hW:K0 w0 wb #[.bool false] 99) :
  C prog 39 #[.p cb,.pointer none] w0 fun v w=>v= .agg #[.slice sa sn sc,.i ct,.i md]/\Below w0.heap.size w0 w:=by
 refine C.enter (n:=26) func39 rfl rfl ?_;refine U1 ?_;intro hb;refine L.box (cs:=#[.p cb]) rfl rfl (fun w b2 F2=>?_);refine U15 ?_;intro lt2 hb;have hW:=hW.j0 F2.below;refine U129 ?_;intro hC A2;refine L.alloc (cs:=#[.slice none 0 0,.i 0,.i 0]) Ff0 rfl (fun w b4 F4=>?_);have lt4:=F4.lq hb.size;have hb:=G0 hb F4.below;have hW:=hW.j0 F4.below;have hC:=hC.j0 F4.below;have A2:=A2.j0 F4.below;have X1:=F4.blk;refine U26 ?_;refine L.alloc (cs:=#[.slice none 0 0,.i 0,.i 0]) Ff0 rfl (fun w b5 F5=>?_);have lt5:=F5.lq hb.size;refine U40 ?_;intro J8 hb;refine U94 ?_;intro hW hC;refine U71 ?_;intro A2 X1;have I2:=F5.blk;refine U3 ?_;refine U6 ?_;refine U437 ?_;refine U235 ?_;refine U176 ?_;refine U291 ?_;rintro _ w1 ⟨rfl,hw⟩;refine U146 ?_;refine U176 ?_;refine U266 ?_;refine U466 ?_;refine L.call (V7 rfl rfl rfl rfl rfl func70 rfl oi0 rfl) (Km0 (ys:=#[.p b2,.p b5]) func71 rfl Om0 obj num 8 _ w (fun w'=>K0 w' b5 #[.slice sa sn sc,.i ct,.i md] 97/\w.grownBy w' (some b5)) (fun w1 O7=>(Fr0 b2 b5 cb obj num _ sa sn sc ct md _ _ _ _ _ w1 (A2.j0 O7) (I2.j0 O7) (hC.j0 O7)).mono fun _ w' h=>⟨h.2.1,im0 (Hq0 (gc0 _ _) O7) h.2.2⟩)) ?_;rintro _ w ⟨A1,hg⟩;refine U90 ?_;intro Y5 hb;have X1:=X1.other hg J8;have I2:=A1;refine U28 ?_;refine U0 ?_;refine L.va (D2 (cs:=[.slice sa sn sc,.i ct,.i md]) rfl underlying97 rfl o8 rfl (I2.T6 rfl)) ?_;refine L.pu 0 [.slice sa sn sc,.i ct,.i md] #[.slice sa sn sc,.i ct,.i md] o8 X1 (fun w A1 hg N2=>?_);refine U69 ?_;intro Y5 hb;have X1:=A1;refine U56 ?_;refine ends.cell (cs:=#[.slice sa sn sc,.i ct,.i md]) (.inr rfl) rfl rfl underlying97 rfl o8 X1 ?_;exact⟨rfl,hb⟩
theorem ng1 (wb:Nat) (obj num:Int) (sa:Option Addr) (sn:Nat) (sc:Nat) (ct:Int) (md:Int) (w0:World) :
  C prog 38 #[.p wb,.i obj,.i num,.agg #[.slice sa sn sc,.i ct,.i md]] w0 fun v w=>∃cb,v= .p cb/\w0.heap.size <=cb/\K0 w cb #[.i obj,.i num,.p wb,.slice sa sn sc,.i ct,.i md] 164/\Below w0.heap.size w0 w:=by
 refine C.enter (n:=16) func38 rfl rfl ?_;refine U1 ?_;intro hb;refine L.box (cs:=#[.slice sa sn sc,.i ct,.i md]) rfl rfl (fun w b7 F7=>?_);have lt7:=F7.lq hb.size;have hb:=G0 hb F7.below;have hB7:=F7.blk;refine U18 ?_;refine U326 ?_;refine L.va (G2 (parts:=[(0,.tmp 9),(1,.tmp 10)]) rfl (dz1 obj num)) ?_;refine L.va (H3 rfl) ?_;refine L.va (D2 (cs:=[.slice sa sn sc,.i ct,.i md]) rfl underlying97 rfl o8 rfl (hB7.T6 rfl)) ?_;refine L.va (G2 (parts:=[(0,.tmp 11),(1,.tmp 12),(2,.tmp 13)]) rfl (ea1 obj num ((some (⟨wb,0,none⟩))) sa sn sc ct md)) ?_;refine L.box (cs:=#[.i obj,.i num,.p wb,.slice sa sn sc,.i ct,.i md]) rfl rfl (fun w b15 F15=>?_);have sq1:=F15.lq hb.size;have hb:=G0 hb F15.below;have sr1:=F15.blk;refine U101 ?_;exact⟨b15,rfl,sq1,sr1,hb⟩
end
theorem k9 {w:World} {b:Nat} {cs:Array Value} {T:TypeId} {f:Nat×Nat} (h:O1 w b cs T f) (h0:0<cs.size):w.heap[b]? ≠some nothing:=by
 unfold O1 at h;rw[h];intro e;have e1:=Option.some.inj e;unfold nothing at e1;injection e1 with e2
 rw[e2]at h0;exact absurd h0 (Nat.lt_irrefl 0)
theorem fj0 {P:Program} {f:FuncId} {fn:Func} {caps:Array Value} (hf:P.funcs[f]? =some fn) (hb:fn.body.isSome=true) (hn:(fn.name== "runtime.NumGoroutine")=false):Ve0 P (.func (.func f) #[] caps) f caps:=⟨rfl,fn,hf,hb,hn⟩
structure Fs0 (w:World) (t:Nat):Prop where
 eq:gh w 0=t
theorem Fs0.j6 {w w':World} {t:Nat} {r:Option Nat} (h:Fs0 w t) (hg:w.grownBy w' r) (_:True):Fs0 w' t:=⟨(J3 hg.tape 0).trans h.eq⟩
structure KOk (K:Y9 prog):Prop where
 loc:∀s m (w w':World) F,K.Inv s m w F->(∀b,F b->w'.heap[b]? =w.heap[b]?)->K.Inv s m w' F
 vis:∀s m (w:World) F,K.Inv s m w F->∀b,F b->b<w.heap.size/\w.heap[b]? ≠some nothing
 refl:∀a,K.gu a a
 step:K.le0=126
 number:K.P4=172
theorem Sys.kok {Y:Sys} (h:qm0 Y) {fb:Nat->FuncId} {q:PR Y} {w0:World} {i cb:Nat} {top:List Frame}:KOk (Y.cfg fb q w0 i cb top):=⟨h.loc,h.vis,fun a j _=>h.refl j a,rfl,rfl⟩
section
variable {K:Y9 prog}{w0 w u u':World}{m:Gm}{F F':Nat->Prop}{l:K.L}{f:K.L ⊕ Nat}
theorem KOk.iq0 (hK:KOk K) (h:K.Told w0 m F f) (ht:w.tape=w0.tape) (ho:w.os=w0.os) (hp:w.output=w0.output) (hk:∀b,F b->w.heap[b]? =w0.heap[b]?):K.Told w m F f :=
 ⟨by rw[J3 ht];exact h.on,by rw[J3 ht];exact h.N1,by rw[J3 ht,J3 ht];exact h.nts,hK.loc _ _ w0 w F (by rw[J3 ht];exact h.inv) hk,by rw[ca0 ht];exact h.le,ho.trans h.os,hp.trans h.output⟩
theorem KOk.j0 (hK:KOk K) (h:K.Told w0 m F f) (hb:Below w0.heap.size w0 w):K.Told w m F f :=
 hK.iq0 h hb.tape hb.os hb.output fun b hF=>hb.block b (hK.vis _ _ _ _ h.inv b hF).1
theorem KOk.tlt (hK:KOk K) (h:K.Told w0 m F f) {b:Nat} (hF:F b):b<w0.heap.size:=(hK.vis _ _ _ _ h.inv b hF).1
theorem y6.down (hb:Below w0.heap.size w0 w) (h:K.y6 w m F u F'):K.y6 w0 m F u F' :=
 ⟨Nat.le_trans hb.size h.size,fun b J1 hn hF=>by
  have e:=hb.block b J1;have:=h.j0 b (Nat.lt_of_lt_of_le J1 hb.size) (by rw[e];exact hn) hF;exact⟨this.1.trans e,this.2⟩,h.inv,h.le,h.os.trans hb.os,h.output.trans hb.output⟩
theorem Goes.down (hb:Below w0.heap.size w0 w) (h:K.Goes w m F l u F'):K.Goes w0 m F l u F':=⟨y6.down hb h.j4,h.nts,h.on,h.out,h.rdy,h.at_⟩
theorem Goes.own (hK:KOk K) (h:K.Goes w0 m F l u F') (ht:u'.tape=u.tape) (ho:u'.os=u.os) (hp:u'.output=u.output) (hs:u.heap.size <=u'.heap.size) (hk:∀b,(b<w0.heap.size\/F' b)->b<u.heap.size->u'.heap[b]? =u.heap[b]?):K.Goes w0 m F l u' F':=by
 have hv:=hK.vis _ _ _ _ h.j4.inv;refine⟨⟨Nat.le_trans h.j4.size hs,fun b J1 hn hF=>?_,?_,?_,ho.trans h.j4.os,hp.trans h.j4.output⟩,?_,?_,?_,?_,?_⟩
 ·have:=h.j4.j0 b J1 hn hF;exact⟨(hk b (.inl J1) (Nat.lt_of_lt_of_le J1 h.j4.size)).trans this.1,this.2⟩
 ·rw[J3 ht,ca0 ht];exact hK.loc _ _ u u' F' h.j4.inv fun b hb=>hk b (.inr hb) (hv b hb).1
 ·rw[ca0 ht];exact h.j4.le
 ·rw[J3 ht];exact h.nts
 ·rw[J3 ht];exact h.on
 ·rw[J3 ht];exact h.out
 ·rw[J3 ht];exact h.rdy
 ·rw[J3 ht];exact h.at_
structure Gn (K:Y9 prog) (w0:World) (m:Gm) (F:Nat->Prop) (l:K.L) (u:World) (F':Nat->Prop):Prop where
 ok:KOk K
 goes:K.Goes w0 m F l u F'
theorem Gn.j6 (h:Gn K w0 m F l u F') {b:Nat} (hg:u.grownBy u' (some b)) (hn:w0.heap.size <=b/\¬F' b):Gn K w0 m F l u' F' :=
 ⟨h.ok,Goes.own h.ok h.goes hg.tape hg.os hg.output hg.size fun k hk hl=>hg.block k hl fun e=>by cases e;rcases hk with hk|hk;omega;exact hn.2 hk⟩
theorem Gn.ai0 (h:Gn K w0 m F l u F') {b:Nat} {cs:Array Value} {T:TypeId} (hB:K0 w0 b cs T) (h0:0<cs.size) (hF:¬F b):K0 u b cs T/\¬F' b:=by
 have hB':O1 w0 b cs T (0,0):=P3 hB;have:=h.goes.j4.j0 b hB'.lt (k9 hB' h0) hF;exact⟨this.1.trans hB',this.2⟩
theorem Goes.ai0 (h:K.Goes w0 m F l u F') {b:Nat} {cs:Array Value} {T:TypeId} (hB:K0 w0 b cs T) (h0:0<cs.size) (hF:¬F b):K0 u b cs T/\¬F' b:=by
 have hB':O1 w0 b cs T (0,0):=P3 hB;have:=h.j4.j0 b hB'.lt (k9 hB' h0) hF;exact⟨this.1.trans hB',this.2⟩
end
structure K8 (K:Y9 prog) (w0 u:World):Prop where
 g2:gh u 2=1
 inv:∃F',K.Inv (K.sOf (gh u 0)) (gm u) u F'
 os:u.os=w0.os
 output:u.output=w0.output
theorem K8.at {K:Y9 prog} {w0 w1 u:World} (h:K8 K w1 u) (ho:w1.os=w0.os) (hp:w1.output=w0.output):K8 K w0 u:=⟨h.g2,h.inv,h.os.trans ho,h.output.trans hp⟩
theorem zu0 {K:Y9 prog} {w0 u:World} {m:Gm} {F F':Nat->Prop} (h:K.y6 w0 m F u F') (h2:gh u 2=1):K8 K w0 u:=⟨h2,⟨F',h.inv⟩,h.os,h.output⟩
theorem K8.done {K:Y9 prog} {w0 u:World} {ch:List PanicEntry} (hK:KOk K) (h:K8 K w0 u) (hr:m6 ch) (ho:w0.os=K.base.os) (hp:w0.output=K.base.output):∃F,K.Ju0 u F (.panicked ch):=by
 obtain⟨F',hi⟩:=h.inv;exact⟨F',hr,.inr ⟨h.g2,⟨gm u,hK.refl _,hi⟩,h.os.trans ho,h.output.trans hp⟩⟩
def A3 (K:Y9 prog) (w0:World) (R:Value->World->Prop):Ending->World->Prop
 | .returned v,u=>R v u
 | .panicked ch,u=>m6 ch/\K8 K w0 u
 | .outgrown,_=>False
theorem ed1 (x0:Int) (x1:Int) (x2:Int):prog.built 65 [(0,.i x0),(1,.i x1),(2,.i x2)]=some #[.i x0,.i x1,.i x2]:=by kernel_rfl
theorem cc0 {K:Y9 prog} (hK:KOk K) {l:K.L} {m:Gm} {F:Nat->Prop} {o n ki:Int} {rd df:Value} (w0:World) (hT:K.Told w0 m F (.inl l)) (S2:K.stp l=⟨ki,o,n⟩) (hr:∀w,Below w0.heap.size w0 w->K.gi0 w m F rd l) (_hrc:∃f caps,rd= .nilFunc\/rd= .func (.func f) #[] caps) (hdf:FnV prog df) (Rdo:World->World->Prop) (hdo:∀w,Below w0.heap.size w0 w->∀u F',K.Goes w m F l u F'->Jt0 prog K.I5 df u (Rdo u)) :
  @Calls prog (I0 K) 70 #[.agg #[.i o,.i n],.p K.ptr,.i ki,rd,df] w0 (A3 K w0 fun v u=>v= .tuple #[]/\∃u0 F',K.Goes w0 m F l u0 F'/\Rdo u0 u/\u.tape=u0.tape):=by
 letI:Ctx prog:=I0 K;refine Calls.n6 (n:=20) func70 rfl rfl ?_;refine U1 ?_;intro hb;refine L.box (cs:=#[.i o,.i n]) rfl rfl (fun w b5 F5=>?_);refine U37 ?_;intro lt5 hb;have I2:=F5.blk;refine U46 ?_;refine U292 ?_;refine U484 ?_;refine L.va (G2 (parts:=[(0,.tmp 11),(1,.tmp 13),(2,.tmp 15)]) rfl (ed1 ki o n)) ?_;refine U211 ?_;have hbL:=hb;refine L.Y2 rfl (fz0 rfl rfl rfl rfl func126 rfl Or0 rfl) (hK.step▸Jv0 (K:=K) (hK.j0 hT hb) (by rw[S2];rfl) (hr _ hb) hdf Rdo (hdo _ hb)) ?_ ?_ (fun _ h=>h)
 ·rintro v u ⟨rfl,u0,F',hg,hR,ht⟩;rename_i wL;refine U82 ?_;exact⟨rfl,u0,F',Goes.down hbL hg,hR,ht⟩
 ·rintro ch u ⟨l7,F',hl,h2⟩;exact⟨l7,(zu0 hl h2).at hbL.os hbL.output⟩
set_option maxHeartbeats 400000 in
theorem pq1 {K:Y9 prog} (hK:KOk K) {L3:K.L} {m:Gm} {F:Nat->Prop} (cb wb:Nat) (obj num:Int) (sa:Nat->Option Addr) (sn:Nat->Nat) (sc:Nat->Nat) (ct:Nat->Int) (md:Nat->Int) (sa2:Option Addr) (sn2:Nat) (sc2:Nat) (ct2:Int) (md2:Int) (w0:World) (hT:K.Told w0 m F (.inl L3)) (S2:K.stp L3=⟨8,obj,num⟩) (hrd:∀s,K.rdy L3 s=true) (hW:K0 w0 wb #[.bool false] 99) (hC:K0 w0 cb #[.i obj,.i num,.p wb,.slice sa2 sn2 sc2,.i ct2,.i md2] 164) (hgo:∀u F',K.Goes w0 m F L3 u F'->K0 u cb #[.i obj,.i num,.p wb,.slice (sa (gh u 0)) (sn (gh u 0)) (sc (gh u 0)),.i (ct (gh u 0)),.i (md (gh u 0))] 164) :
  @Calls prog (I0 K) 39 #[.p cb,.p K.ptr] w0 (A3 K w0 fun v u=>∃F' tt,Gn K w0 m F L3 u F'/\Fs0 u tt/\v= .agg #[.slice (sa tt) (sn tt) (sc tt),.i (ct tt),.i (md tt)]):=by
 letI:Ctx prog:=I0 K;refine Calls.n6 (n:=26) func39 rfl rfl ?_;refine U1 ?_;intro hb;refine L.box (cs:=#[.p cb]) rfl rfl (fun w b2 F2=>?_);refine U15 ?_;intro lt2 hb;have hW:=hW.j0 F2.below;refine U129 ?_;intro hC A2;refine L.alloc (cs:=#[.slice none 0 0,.i 0,.i 0]) Ff0 rfl (fun w b4 F4=>?_);have lt4:=F4.lq hb.size;have hb:=G0 hb F4.below;have hW:=hW.j0 F4.below;have hC:=hC.j0 F4.below;have A2:=A2.j0 F4.below;have X1:=F4.blk;refine U26 ?_;refine L.alloc (cs:=#[.slice none 0 0,.i 0,.i 0]) Ff0 rfl (fun w b5 F5=>?_);have lt5:=F5.lq hb.size;refine U40 ?_;intro J8 hb;refine U94 ?_;intro hW hC;refine U71 ?_;intro A2 X1;have I2:=F5.blk;refine U3 ?_;refine U6 ?_;refine U437 ?_;refine U235 ?_;refine U176 ?_;refine U291 ?_;rintro _ w1 ⟨rfl,hw⟩;refine U146 ?_;refine U176 ?_;refine U266 ?_;refine U466 ?_;have hbL:=hb;refine U294 ?_;intro hF5 hF2;have hF4:¬F b4:=fun z=>by have:=hK.tlt hT z;omega
 have hpl:@Calls prog (I0 K) 70 #[.agg #[.i obj,.i num],.p K.ptr,.i 8,.nilFunc,.func (.func 71) #[] #[.p b2,.p b5]] w (A3 K w fun v u=>v= .tuple #[]/\∃u0 F',K.Goes w m F L3 u0 F'/\(K0 u b5 #[.slice (sa (gh u0 0)) (sn (gh u0 0)) (sc (gh u0 0)),.i (ct (gh u0 0)),.i (md (gh u0 0))] 97/\u0.grownBy u (some b5))/\u.tape=u0.tape):=by
  refine cc0 hK w (hK.j0 hT hb) S2 (fun w1 O7=>.inl ⟨rfl,hrd⟩) ⟨0,#[],.inl rfl⟩ (.inr ⟨71,_,fj0 func71 rfl Om0⟩) (fun u u2=>K0 u2 b5 #[.slice (sa (gh u 0)) (sn (gh u 0)) (sc (gh u 0)),.i (ct (gh u 0)),.i (md (gh u 0))] 97/\u.grownBy u2 (some b5)) (fun w1 O7 u F' hg=>.inr ⟨71,_,fj0 func71 rfl Om0,?_⟩);exact @C.mono _ (I5 prog K.P4 K.ptr K.num) _ _ _ _ _ (@Fr0 (I5 prog K.P4 K.ptr K.num) b2 b5 cb obj num _ _ _ _ _ _ _ _ _ _ _ u (Goes.ai0 hg (A2.j0 O7) (Nat.zero_lt_succ _) hF2).1 (Goes.ai0 hg (I2.j0 O7) (Nat.zero_lt_succ _) hF5).1 (hgo u F' (Goes.down (G0 hb O7) hg))) fun v w' h=>h.2
 refine L.Y2 rfl (V7 rfl rfl rfl rfl rfl func70 rfl oi0 rfl) hpl ?_ ?_ (fun _ h=>h)
 ·rintro v u ⟨rfl,u0,F',hg,⟨tq0,j3⟩,ht⟩;refine U275 ?_;intro h5 hgn;obtain⟨tt,htt⟩:∃tt,gh u0 0=tt:=⟨_,rfl⟩
  rw[htt]at tq0;have htt:Fs0 u tt:=⟨(J3 ht 0).trans htt⟩
  obtain⟨ee1,h4⟩:=Goes.ai0 hg X1 (by decide) hF4;have X1:=ee1.other j3 J8;have I2:=tq0;clear hb tq0 A2 hC hpl;rename_i wL;clear hW;refine U26 ?_;refine L.va (D2 (cs:=[.slice (sa tt) (sn tt) (sc tt),.i (ct tt),.i (md tt)]) rfl underlying97 rfl o8 rfl (I2.T6 rfl)) ?_;refine L.pu 0 [.slice (sa tt) (sn tt) (sc tt),.i (ct tt),.i (md tt)] #[.slice (sa tt) (sn tt) (sc tt),.i (ct tt),.i (md tt)] o8 X1 (fun w A1 hg N2=>?_);have Y5:=N4.ei0 X1 hg;have hgn:=hgn.j6 hg ⟨lt4,h4⟩;have htt:=htt.j6 hg trivial;have X1:=A1;refine U56 ?_;refine ends.cell (cs:=#[.slice (sa tt) (sn tt) (sc tt),.i (ct tt),.i (md tt)]) (.inr rfl) rfl rfl underlying97 rfl o8 X1 ?_;exact⟨F',tt,hgn,htt,rfl⟩
 ·rintro ch u ⟨l7,hh⟩;exact⟨l7,hh.at hbL.os hbL.output⟩
set_option maxHeartbeats 400000 in
theorem Il0 {K:Y9 prog} (hK:KOk K) {L3:K.L} {m:Gm} {F:Nat->Prop} (cb wb:Nat) (obj num:Int) (sa:Option Addr) (sn:Nat) (sc:Nat) (ct:Int) (md:Int) (sa2:Option Addr) (sn2:Nat) (sc2:Nat) (ct2:Int) (md2:Int) (w0:World) (hT:K.Told w0 m F (.inl L3)) (S2:K.stp L3=⟨9,obj,num⟩) (hrd:∀s,K.rdy L3 s=true) (hW:K0 w0 wb #[.bool false] 99) (hC:K0 w0 cb #[.i obj,.i num,.p wb,.slice sa2 sn2 sc2,.i ct2,.i md2] 164) (hgo:∀u F',K.Goes w0 m F L3 u F'->∃sa2 sn2 sc2 ct2 md2,K0 u cb #[.i obj,.i num,.p wb,.slice sa2 sn2 sc2,.i ct2,.i md2] 164) :
  @Calls prog (I0 K) 56 #[.p cb,.p K.ptr,.agg #[.slice sa sn sc,.i ct,.i md]] w0 (A3 K w0 fun v u=>v= .tuple #[]/\∃u0 F',Gn K w0 m F L3 u0 F'/\K0 u cb #[.i obj,.i num,.p wb,.slice sa sn sc,.i ct,.i md] 164/\u0.grownBy u (some cb)):=by
 letI:Ctx prog:=I0 K;refine Calls.n6 (n:=26) func56 rfl rfl ?_;refine U1 ?_;intro hb;refine L.box (cs:=#[.p cb]) rfl rfl (fun w b3 F3=>?_);refine U133 ?_;intro lt3 hb;have hW:=hW.j0 F3.below;have hC:=hC.j0 F3.below;have Z7:=F3.blk;refine L.box (cs:=#[.slice sa sn sc,.i ct,.i md]) rfl rfl (fun w b5 F5=>?_);refine U37 ?_;intro lt5 hb;refine U94 ?_;intro hW hC;have Z7:=Z7.j0 F5.below;have I2:=F5.blk;refine U3 ?_;refine W.block ?_;refine U0 ?_;refine L.va (A0 rfl underlying89 rfl (Z7.q0 0 (v:=.p cb) rfl)) ?_;refine L.va (c5 rfl rfl underlying89) ?_;refine U7 ?_;refine W.V6 rfl ?_;refine U0 ?_;refine U456 ?_;refine U291 ?_;rintro _ w1 ⟨rfl,hw⟩;refine U96 ?_;refine U7 ?_;refine W.V6 rfl ?_;refine W.region rfl ?_;refine U456 ?_;refine U266 ?_;refine L.va (H3 rfl) ?_;refine L.va (u5 (l:=[.tmp 5,.tmp 3]) (vs:=[.p b5,.p b3]) rfl) ?_;have hbL:=hb;have hF5:¬F b5:=fun z=>by have:=hK.tlt hT z;omega
 have hF3:¬F b3:=fun z=>by have:=hK.tlt hT z;omega
 have hpl:@Calls prog (I0 K) 70 #[.agg #[.i obj,.i num],.p K.ptr,.i 9,.nilFunc,.func (.func 97) #[] #[.p b5,.p b3]] w (A3 K w fun v u=>v= .tuple #[]/\∃u0 F',K.Goes w m F L3 u0 F'/\(K0 u cb #[.i obj,.i num,.p wb,.slice sa sn sc,.i ct,.i md] 164/\u0.grownBy u (some cb))/\u.tape=u0.tape):=by
  refine cc0 hK w (hK.j0 hT hb) S2 (fun w1 O7=>.inl ⟨rfl,hrd⟩) ⟨0,#[],.inl rfl⟩ (.inr ⟨97,_,fj0 func97 rfl kn1⟩) (fun u u2=>K0 u2 cb #[.i obj,.i num,.p wb,.slice sa sn sc,.i ct,.i md] 164/\u.grownBy u2 (some cb)) (fun w1 O7 u F' hg=>.inr ⟨97,_,fj0 func97 rfl kn1,?_⟩);obtain⟨y0,y1,y2,y3,y4,hCu⟩:=hgo u F' (Goes.down (G0 hb O7) hg);exact @C.mono _ (I5 prog K.P4 K.ptr K.num) _ _ _ _ _ (@ec1 (I5 prog K.P4 K.ptr K.num) b5 b3 cb obj num _ sa sn sc ct md _ _ _ _ _ u (Goes.ai0 hg (I2.j0 O7) (Nat.zero_lt_succ _) hF5).1 (Goes.ai0 hg (Z7.j0 O7) (Nat.zero_lt_succ _) hF3).1 hCu) fun v w' h=>h.2
 refine L.Y2 rfl (V7 rfl rfl rfl rfl rfl func70 rfl oi0 rfl) hpl ?_ ?_ (fun _ h=>h)
 ·rintro v u ⟨rfl,u0,F',hg,⟨hCn,j3⟩,ht⟩;have hg0:=Goes.down hbL hg;rename_i wL;refine U177 ?_;refine U78 ?_;exact⟨rfl,u0,F',⟨hK,hg0⟩,hCn,j3⟩
 ·rintro ch u ⟨l7,hh⟩;exact⟨l7,hh.at hbL.os hbL.output⟩
end Go.Vy.Sc
end
section
namespace Go.Vy
open Go Go.Yc Go.RowKit
open Go.Vc
section
variable {P:Program}{ρ:Operand->Value}{w:World}{d:Option Nat}{ty:TypeId}{ps:String}{af:Array Edge}{g:Option (Nat×Bool)}
theorem ar0 {S:Sem Next} {r:Out} (h:∀x,S.run P x=r.res x) (he:∀x,S.events P x #[]=#[]):Does P S w r w :=
 ⟨rfl,rfl,fun τ d ρ x hs=>⟨Evo.refl _,x,#[],by rw[Sem.runT_eq,h,he],hs,fun e he=>by simp at he⟩⟩
theorem K9 {T:TypeId} {r x0:Operand} {v v0:Value} {name:String} {aT:Array TypeId} {F:FuncId} {fn:Func} (hx:ρ r= .iface T v) (h0:ρ x0=v0) (hm:∀recv w,(Go.method (P.types.size+Made.depth) T recv name).run P w= .ok (F,recv) w) (hme:∀recv w,(Go.method (P.types.size+Made.depth) T recv name).events P w #[]=#[]) (hf:P.funcs[F]? =some fn) (hb:fn.body.isSome=true) (hn:(fn.name== "runtime.NumGoroutine")=false) :
  Does P (execOp ρ ⟨d,.call ⟨.invoke r name,#[x0],aT⟩,ty,ps,af,g⟩) w (.enter F #[v,v0]) w:=by
 have p7:fn.body.isNone=false:=by cases h:fn.body <;> simp_all
 have hn':fn.name≠ "runtime.NumGoroutine":=by simpa using hn
 have hb2:fn.body≠none:=by intro h;rw[h]at hb;cases hb
 refine ar0 (fun x=>?_) fun x=>?_
 ·have hm':Sem.run P (Go.method (P.types.size+100) T v name) x= .ok (F,v) x:=hm v x;show _=Result.ok (Next.enter F #[v,v0]) x;simp[execOp,resolve,hx,h0,invoke,callMethod,go_sem,hm',callFunc,hf,hn',hb2]
 ·have hm':Sem.run P (Go.method (P.types.size+100) T v name) x= .ok (F,v) x:=hm v x;have ss1:Sem.events P (Go.method (P.types.size+100) T v name) x #[]=#[]:=hme v x;simp[execOp,resolve,hx,h0,invoke,callMethod,go_sem,hm',ss1,callFunc,hf,hn',hb2]
end
end Go.Vy
end
section
namespace Go.Vy.Sc
open Go Go.Conc Go.Yc Go.RowKit Go.Proofs Go.Proofs.YtinppmaojmdmhaaGreat Tryz
open Go.Vc Go.Wg
theorem ef1 [Ctx prog] (b0 b1 cb:Nat) (obj num:Int) (q:Value) (x x2:Int) (sa:Value) (w0:World) (hB0:K0 w0 b0 #[.pointer (some ⟨cb,0,none⟩)] 125) (N5:K0 w0 b1 #[.int .i64 x2] 2) (hC:K0 w0 cb #[.int .i64 obj,.int .i64 num,q,.int .i64 x,sa] 191) :
  C prog 96 #[.pointer (some ⟨b0,0,none⟩),.pointer (some ⟨b1,0,none⟩)] w0 fun v w=>v= .tuple #[]/\K0 w b1 #[.int .i64 x] 2/\w0.grownBy w (some b1):=by
 refine C.enter (n:=6) func96 rfl rfl ?_;refine W.region rfl ?_;refine U508 ?_;refine L.va (A0 rfl underlying2 rfl (hC.q0 3 (v:=.int .i64 x) rfl)) ?_;refine L.pu 0 [.int .i64 x] #[.int .i64 x] sz2 N5 (fun w A1 hg N2=>?_);have Y5:=N4.ei0 N5 hg;have N5:=A1;refine U132 ?_;exact⟨rfl,N5,hg⟩
set_option maxHeartbeats 400000 in
theorem Wm0 {K:Y9 prog} (hK:KOk K) {L3:K.L} {m:Gm} {F:Nat->Prop} (cb wb:Nat) (obj num:Int) (x:Nat->Int) (x2:Int) (sa:Value) (w0:World) (hT:K.Told w0 m F (.inl L3)) (S2:K.stp L3=⟨5,obj,num⟩) (hrd:∀s,K.rdy L3 s=true) (hW:K0 w0 wb #[.bool false] 99) (hC:K0 w0 cb #[.int .i64 obj,.int .i64 num,.pointer (some ⟨wb,0,none⟩),.int .i64 x2,sa] 191) (hgo:∀u F',K.Goes w0 m F L3 u F'->∃sa,K0 u cb #[.int .i64 obj,.int .i64 num,.pointer (some ⟨wb,0,none⟩),.int .i64 (x (gh u 0)),sa] 191) :
  @Calls prog (I0 K) 55 #[.pointer (some ⟨cb,0,none⟩),.pointer (some ⟨K.ptr,0,none⟩)] w0 (A3 K w0 fun v u=>∃F' tt,Gn K w0 m F L3 u F'/\Fs0 u tt/\v= .int .i64 (x tt)):=by
 letI:Ctx prog:=I0 K;refine Calls.n6 (n:=25) func55 rfl rfl ?_;refine U1 ?_;intro hb;refine L.box (cs:=#[.pointer (some ⟨cb,0,none⟩)]) rfl rfl (fun w b2 F2=>?_);refine U15 ?_;intro lt2 hb;have hW:=hW.j0 F2.below;refine U129 ?_;intro hC A2;refine U5 ?_;refine U6 ?_;refine L.va (A0 rfl underlying125 rfl (A2.q0 0 (v:=.pointer (some ⟨cb,0,none⟩)) rfl)) ?_;refine U530 ?_;refine U427 ?_;refine U505 ?_;rintro _ w1 ⟨rfl,hw⟩;refine U146 ?_;refine L.alloc (cs:=#[.int .i64 0]) zr2 rfl (fun w b5 F5=>?_);refine U37 ?_;intro lt5 hb;refine U94 ?_;intro hW hC;have A2:=A2.j0 F5.below;have I2:=F5.blk;refine L.pu 0 [.int .i64 0] #[.int .i64 0] sz2 I2 (fun w A1 hg N2=>?_);refine U90 ?_;intro Y5 hb;have hW:=hW.mod Y5 rfl;have hC:=hC.mod Y5 rfl;have A2:=A2.mod Y5 rfl;have I2:=A1;refine U28 ?_;refine U0 ?_;refine U427 ?_;refine L.va (B0 rfl underlying191 rfl qb0 (by decide)) ?_;refine U423 ?_;have hbL:=hb;refine U294 ?_;intro hF5 hF2;have hpl:@Calls prog (I0 K) 70 #[.agg #[.int .i64 obj,.int .i64 num],.pointer (some ⟨K.ptr,0,none⟩),.int .i64 5,.nilFunc,.func (.func 96) #[] #[.pointer (some ⟨b2,0,none⟩),.pointer (some ⟨b5,0,none⟩)]] w (A3 K w fun v u=>v= .tuple #[]/\∃u0 F',K.Goes w m F L3 u0 F'/\(K0 u b5 #[.int .i64 (x (gh u0 0))] 2/\u0.grownBy u (some b5))/\u.tape=u0.tape):=by
  refine cc0 hK w (hK.j0 hT hb) S2 (fun w1 O7=>.inl ⟨rfl,hrd⟩) ⟨0,#[],.inl rfl⟩ (.inr ⟨96,_,fj0 func96 rfl km1⟩) (fun u u2=>K0 u2 b5 #[.int .i64 (x (gh u 0))] 2/\u.grownBy u2 (some b5)) (fun w1 O7 u F' hg=>.inr ⟨96,_,fj0 func96 rfl km1,?_⟩);obtain⟨y0,hCu⟩:=hgo u F' (Goes.down (G0 hb O7) hg);exact @C.mono _ (I5 prog K.P4 K.ptr K.num) _ _ _ _ _ (@ef1 (I5 prog K.P4 K.ptr K.num) b2 b5 cb obj num _ _ _ _ u (Goes.ai0 hg (A2.j0 O7) (Nat.zero_lt_succ _) hF2).1 (Goes.ai0 hg (I2.j0 O7) (Nat.zero_lt_succ _) hF5).1 hCu) fun v w' h=>h.2
 refine L.Y2 rfl (V7 rfl rfl rfl rfl rfl func70 rfl oi0 rfl) hpl ?_ ?_ (fun _ h=>h)
 ·rintro v u ⟨rfl,u0,F',hg,⟨tq0,j3⟩,ht⟩;refine U275 ?_;intro h5 hgn;obtain⟨tt,htt⟩:∃tt,gh u0 0=tt:=⟨_,rfl⟩
  rw[htt]at tq0;have htt:Fs0 u tt:=⟨(J3 ht 0).trans htt⟩
  clear hb A2 hC hpl I2;have I2:=tq0;clear tq0;rename_i wL;clear hW;refine U26 ?_;refine L.va (A0 rfl underlying2 rfl (I2.q0 0 (v:=.int .i64 (x tt)) rfl)) ?_;refine U138 ?_;exact⟨F',tt,hgn,htt,rfl⟩
 ·rintro ch u ⟨l7,hh⟩;exact⟨l7,hh.at hbL.os hbL.output⟩
end Go.Vy.Sc
end
section
namespace Go.Vc
open Go Go.RowKit
theorem K0.j6 {w w':World} {b k:Nat} {cs:Array Value} {T:TypeId} (h:K0 w k cs T) (hg:w.grownBy w' (some b)) (hk:k≠b):K0 w' k cs T:=K0.other h hg hk
end Go.Vc
namespace Go.Vy
open Go Go.Conc Go.Yc Go.RowKit
open Go.Vc
theorem ln0 {fn:Func} {p u v:Tmp} {ty:TypeId} (h:fn.results=#[.cell p ty,.tmp u,.tmp v]) (tmps:Array Value) (P:Program) (w:World) :
  (results fn tmps).run P w=((do let a <- asAddr (tmps.getD p undef);let x <- loadVar ty a;pure (.tuple #[x,tmps.getD u undef,tmps.getD v undef])):Sem Value).run P w:=by
 simp[results,h]
theorem Ft0 {P:Program} {w:World} {b:Nat} {cs:Array Value} {T E:TypeId} {d:TypeDesc} (hT:P.underlying T=some d) (hu:bt0 d=false) (hs:(P.info? T).map (·.size)=some cs.size) (hB:K0 w b cs E):(loadVar T ⟨b,0,Option.none⟩).run P w= .ok (.agg cs) w:=by
 have h2:∀j v,cs.toList[j]? =some v->w.cell? ((⟨b,0,Option.none⟩:Addr).add j)=some v:=fun j v hj=>by
  rw[Addr.add_lit,Nat.zero_add];exact hB.cell (by simpa using hj)
 have:=run_loadCells_list (P:=P) (w:=w) ⟨b,0,Option.none⟩ cs.toList h2;simp only[Array.length_toList]at this;simp[loadVar,Go.Vc.cg0 hT,hu,Go.Vc.run_sizeOf hs,this]
theorem ends.Qs0 {P:Program} [Ctx P] {fn:Func} {R:Value->World->Prop} {x:Exit} {e:Env} {w:World} {t u v b:Nat} {cs:Array Value} {T E:TypeId} {d:TypeDesc} (hx:x= .normal\/x= .ret) (hr:fn.results=#[.cell t T,.tmp u,.tmp v])
  (he:e t= .pointer (some ⟨b,0,Option.none⟩)) (hT:P.underlying T=some d) (hu:bt0 d=false) (hs:(P.info? T).map (·.size)=some cs.size) (hB:K0 w b cs E) (h:R (.tuple #[.agg cs,e u,e v]) w):ends P fn R x e w :=
 ⟨hx,_,fun tmps ht=>gg0 gh0 fun τ d'=>by
  have hB:K0 (V2 w τ d') b cs E:=hB;generalize V2 w τ d'=w at hB⊢;have h3:tmps.getD t undef= .pointer (some ⟨b,0,Option.none⟩):=by rw[ht,he]
  rw[ln0 hr,h3];simp[asAddr,Ft0 hT hu hs hB,ht],h⟩
theorem Own.Cm0 {w:World} {B s n c b:Nat} {E T:TypeId} {a:Option Addr} {xs:List Value} {cs:Array Value} {f:Nat×Nat} (h:Own w B E s a n c xs) (hb:O1 w b cs T f) (N3:E≠T):a≠none->ab a≠b:=fun ha=>by
 obtain⟨cur,hc,_⟩:=h.row ha;have hc:O1 w (ab a) cur E (0,0):=hc;exact hc.ne hb N3
end Go.Vy
end
section
namespace Go.Vy.Sc
open Go Go.Conc Go.Yc Go.RowKit Go.Proofs Go.Proofs.YtinppmaojmdmhaaGreat Tryz
open Go.Vc Go.Wg
theorem eg1 {P:Program} {ρ:Operand->Value} {w:World} {d:Option Nat} {ty:TypeId} {ps:String} {af:Array Edge} {g:Option (Nat×Bool)} {x y:Operand} {m k:Int} {aT:Array TypeId} (hx:ρ x= .int .i64 m) (hy:ρ y= .int .i64 k):Does P (execOp ρ ⟨d,.call ⟨.builtin .max,#[x,y],aT⟩,ty,ps,af,g⟩) w (.val (.int .i64 (max m k))) w :=
 ar0 (fun x=>Go.Vc.io1 hx hy) fun x=>by simp[execOp,resolve,invoke,builtin,hx,hy,Builtin.max_,Builtin.max2]
structure aj0 (w w':World) (x y:Nat):Prop where
 os:w'.os=w.os
 output:w'.output=w.output
 tape:w'.tape=w.tape
 size:w.heap.size <=w'.heap.size
 block:∀b,b<w.heap.size->b≠x->b≠y->w'.heap[b]? =w.heap[b]?
theorem aj0.refl (w:World) (x y:Nat):aj0 w w x y:=⟨rfl,rfl,rfl,Nat.le_refl _,fun _ _ _ _=>rfl⟩
theorem aj0.step {w w1 w2:World} {x y b:Nat} (h:aj0 w w1 x y) (hb:b=x\/b=y) (hg:w1.grownBy w2 (some b)):aj0 w w2 x y :=
 ⟨hg.os.trans h.os,hg.output.trans h.output,hg.tape.trans h.tape,Nat.le_trans h.size hg.size,fun k hk h1 h2=>(hg.block k (Nat.lt_of_lt_of_le hk h.size) fun e=>by cases e;rcases hb with e|e;exact h1 e;exact h2 e).trans (h.block k hk h1 h2)⟩
theorem aj0.V4 {w w1 w2:World} {x y:Nat} (h:aj0 w w1 x y) (hb:Below w1.heap.size w1 w2):aj0 w w2 x y :=
 ⟨hb.os.trans h.os,hb.output.trans h.output,hb.tape.trans h.tape,Nat.le_trans h.size hb.size,fun k hk h1 h2=>(hb.block k (Nat.lt_of_lt_of_le hk h.size)).trans (h.block k hk h1 h2)⟩
theorem eh1 [Ctx prog] (b0 b1 b2 cb:Nat) (obj num:Int) (q sa:Value) (x d y:Int) (w0:World) (hB0:K0 w0 b0 #[.pointer (some ⟨cb,0,none⟩)] 125) (N5:K0 w0 b1 #[.int .i64 d] 2) (A2:K0 w0 b2 #[.int .i64 y] 2) (N3:b2≠b1) (hC:K0 w0 cb #[.int .i64 obj,.int .i64 num,q,.int .i64 x,sa] 191) :
  C prog 90 #[.pointer (some ⟨b0,0,none⟩),.pointer (some ⟨b1,0,none⟩),.pointer (some ⟨b2,0,none⟩)] w0 fun v w=>v= .tuple #[]/\K0 w b2 #[.int .i64 (IntKind.i64.wrap (x+d))] 2/\K0 w cb #[.int .i64 obj,.int .i64 num,q,.int .i64 (IntKind.i64.wrap (x+d)),sa] 191/\aj0 w0 w cb b2:=by
 refine C.enter (n:=15) func90 rfl rfl ?_;have hm2:aj0 w0 w0 cb b2:=aj0.refl _ _ _;generalize w0=w at *;refine W.seq ?_;refine W.nt0 8 (fun w'=>Below w.heap.size w w') (by kernel_rfl) (by kernel_rfl) (by kernel_rfl) (by kernel_rfl) ((Below.refl w.heap.size w).drew) ?_;refine D.va (fun w' L1=>(A0 rfl underlying125 rfl ((hB0.j0 L1).q0 0 (v:=.pointer (some ⟨cb,0,none⟩)) rfl))) ?_;refine U439 ?_;refine D.va (fun w' L1=>(A0 rfl underlying2 rfl ((hC.j0 L1).q0 3 (v:=.int .i64 x) rfl))) ?_;refine D.va (fun w' L1=>(A0 rfl underlying2 rfl ((N5.j0 L1).q0 0 (v:=.int .i64 d) rfl))) ?_;refine D.va (fun w' L1=>(gu0 (κ:=.i64) rfl rfl)) ?_;refine U439 ?_;refine D.nil (fun w O2=>?_);have hm2:=hm2.V4 O2;have hC:=hC.j0 O2;have hB0:=hB0.j0 O2;have N5:=N5.j0 O2;have A2:=A2.j0 O2;clear O2;refine L.pu 3 [.int .i64 (IntKind.i64.wrap (x+d))] #[.int .i64 obj,.int .i64 num,q,.int .i64 (IntKind.i64.wrap (x+d)),sa] sz2 hC (fun w A1 hg N2=>?_);have hm2:=hm2.step (.inl rfl) hg;have Y5:=N4.ei0 hC hg;have hB0:=hB0.mod Y5 rfl;have N5:=N5.mod Y5 rfl;have A2:=A2.mod Y5 rfl;have hC:=A1;clear Y5;refine U46 ?_;refine U508 ?_;refine L.va (A0 rfl underlying2 rfl (hC.q0 3 (v:=.int .i64 (IntKind.i64.wrap (x+d))) rfl)) ?_;refine L.pu 0 [.int .i64 (IntKind.i64.wrap (x+d))] #[.int .i64 (IntKind.i64.wrap (x+d))] sz2 A2 (fun w A1 hg N2=>?_);have hm2:=hm2.step (.inr rfl) hg;have Y5:=N4.ei0 A2 hg;have hC:=hC.mod Y5 rfl;have N5:=N5.j6 hg N3.symm;have A2:=A1;refine U132 ?_;exact⟨rfl,A2,hC,hm2⟩
theorem nh1 [Ctx prog] (b0:Nat) (sb:Nat) (obj num:Int) (h:Bool) (r:Int) (w0:World) (hB0:K0 w0 b0 #[.pointer (some ⟨sb,0,none⟩)] 242) (hC:K0 w0 sb #[.int .i64 obj,.int .i64 num,.bool h,.int .i64 r] 244) :
  C prog 211 #[.pointer (some ⟨b0,0,none⟩)] w0 fun v w=>v= .tuple #[]/\K0 w sb #[.int .i64 obj,.int .i64 num,.bool true,.int .i64 r] 244/\w0.grownBy w (some sb):=by
 refine C.enter (n:=4) func211 rfl rfl ?_;have j3:=gc0 w0 (some sb);refine W.region rfl ?_;refine U187 ?_;refine L.pu 2 [.bool true] #[.int .i64 obj,.int .i64 num,.bool true,.int .i64 r] sz4 hC (fun w A1 hg N2=>?_);have Y5:=N4.ei0 hC hg;have j3:=im0 j3 hg;have hC:=A1;exact U219
theorem Wn0 [Ctx prog] (b0:Nat) (sb:Nat) (obj num:Int) (h:Bool) (r:Int) (w0:World) (hB0:K0 w0 b0 #[.pointer (some ⟨sb,0,none⟩)] 242) (hC:K0 w0 sb #[.int .i64 obj,.int .i64 num,.bool h,.int .i64 r] 244) :
  C prog 215 #[.pointer (some ⟨b0,0,none⟩)] w0 fun v w=>v= .tuple #[]/\K0 w sb #[.int .i64 obj,.int .i64 num,.bool false,.int .i64 r] 244/\w0.grownBy w (some sb):=by
 refine C.enter (n:=4) func215 rfl rfl ?_;have j3:=gc0 w0 (some sb);refine W.region rfl ?_;refine U187 ?_;refine L.pu 2 [.bool false] #[.int .i64 obj,.int .i64 num,.bool false,.int .i64 r] sz4 hC (fun w A1 hg N2=>?_);have Y5:=N4.ei0 hC hg;have j3:=im0 j3 hg;have hC:=A1;exact U219
theorem ei1 [Ctx prog] (b0:Nat) (sb:Nat) (obj num:Int) (h:Bool) (r:Int) (w0:World) (hB0:K0 w0 b0 #[.pointer (some ⟨sb,0,none⟩)] 242) (hC:K0 w0 sb #[.int .i64 obj,.int .i64 num,.bool h,.int .i64 r] 244) :
  C prog 213 #[.pointer (some ⟨b0,0,none⟩)] w0 fun v w=>v= .tuple #[]/\K0 w sb #[.int .i64 obj,.int .i64 num,.bool h,.int .i64 (IntKind.i64.wrap (r+1))] 244/\w0.grownBy w (some sb):=by
 refine C.enter (n:=8) func213 rfl rfl ?_;have j3:=gc0 w0 (some sb);refine W.region rfl ?_;refine U347 ?_;refine L.va (B0 rfl underlying244 rfl sz3 (by decide)) ?_;refine L.va (A0 rfl underlying3 rfl (hC.q0 3 (v:=.int .i64 r) rfl)) ?_;refine L.va (gu0 (κ:=.i64) rfl rfl) ?_;refine L.va (E1 rfl) ?_;refine L.va (B0 rfl underlying244 rfl sz3 (by decide)) ?_;refine L.pu 3 [.int .i64 (IntKind.i64.wrap (r+1))] #[.int .i64 obj,.int .i64 num,.bool h,.int .i64 (IntKind.i64.wrap (r+1))] sz3 hC (fun w A1 hg N2=>?_);have Y5:=N4.ei0 hC hg;have j3:=im0 j3 hg;have hC:=A1;exact U219
theorem Qt0 [Ctx prog] (b0:Nat) (sb:Nat) (obj num:Int) (h:Bool) (r:Int) (w0:World) (hB0:K0 w0 b0 #[.pointer (some ⟨sb,0,none⟩)] 242) (hC:K0 w0 sb #[.int .i64 obj,.int .i64 num,.bool h,.int .i64 r] 244) :
  C prog 214 #[.pointer (some ⟨b0,0,none⟩)] w0 fun v w=>v= .tuple #[]/\K0 w sb #[.int .i64 obj,.int .i64 num,.bool h,.int .i64 (max 0 (IntKind.i64.wrap (r-1)))] 244/\w0.grownBy w (some sb):=by
 refine C.enter (n:=10) func214 rfl rfl ?_;have j3:=gc0 w0 (some sb);generalize w0=w at *;refine W.nt0 9 (fun w'=>Below w.heap.size w w') (by kernel_rfl) (by kernel_rfl) (by kernel_rfl) (by kernel_rfl) ((Below.refl w.heap.size w).drew) ?_;refine D.va (fun w' L1=>(A0 rfl underlying242 rfl ((hB0.j0 L1).q0 0 (v:=.pointer (some ⟨sb,0,none⟩)) rfl))) ?_;refine D.va (fun w' L1=>(A0 rfl underlying242 rfl ((hB0.j0 L1).q0 0 (v:=.pointer (some ⟨sb,0,none⟩)) rfl))) ?_;refine U440 ?_;refine D.va (fun w' L1=>(A0 rfl underlying3 rfl ((hC.j0 L1).q0 3 (v:=.int .i64 r) rfl))) ?_;refine D.va (fun w' L1=>(vw0 (κ:=.i64) rfl rfl)) ?_;refine D.va (fun w' L1=>(eg1 rfl rfl)) ?_;refine U440 ?_;refine D.nil (fun w O2=>?_);have j3:=Hq0 j3 O2;have hC:=hC.j0 O2;clear O2;refine L.pu 3 [.int .i64 (max 0 (IntKind.i64.wrap (r-1)))] #[.int .i64 obj,.int .i64 num,.bool h,.int .i64 (max 0 (IntKind.i64.wrap (r-1)))] sz3 hC (fun w A1 hg N2=>?_);have Y5:=N4.ei0 hC hg;have j3:=im0 j3 hg;have hC:=A1;exact U219
theorem ni1 [Ctx prog] (b0:Nat) (sb:Nat) (obj num:Int) (h:Bool) (r:Int) (w0:World) (hB0:K0 w0 b0 #[.pointer (some ⟨sb,0,none⟩)] 242) (hC:K0 w0 sb #[.int .i64 obj,.int .i64 num,.bool h,.int .i64 r] 244) :
  C prog 210 #[.pointer (some ⟨b0,0,none⟩)] w0 fun v w=>v= .bool (!h&&decide (r=0))/\Below w0.heap.size w0 w:=by
 refine C.enter (n:=14) func210 rfl rfl ?_;refine U1 ?_;intro hb;refine U7 ?_;refine U0 ?_;refine U187 ?_;refine U465 ?_;refine L.va (bg0 rfl) ?_;refine L.ns0 6 [7,8,9,10,11,12,13] 13 (.bool (!h&&decide (r=0))) (tj:=7) rfl (fun hb7=>?_) (fun hb7=>?_) (fun f=>?_)
 ·refine L.on rfl ?_;refine L.va (A0 rfl underlying242 rfl (hB0.q0 0 (v:=.pointer (some ⟨sb,0,none⟩)) rfl)) ?_;refine L.on rfl ?_;refine U260 ?_;refine L.va (B0 rfl underlying244 rfl sz3 (by decide)) ?_;refine L.on rfl ?_;refine L.va (A0 rfl underlying3 rfl (hC.q0 3 (v:=.int .i64 r) rfl)) ?_;refine U205 ?_;refine U86 ?_;refine⟨rfl,congrArg Value.bool (by first|exact wa0 hb7|rfl|(simp_all;done)|(rw[Bool.eq_iff_iff];simp_all;omega)),?_⟩;exact L0.upd rfl (L0.upd rfl (L0.upd rfl (L0.upd rfl (L0.upd rfl (L0.upd rfl (L0.upd rfl (L0.refl _ _)))))))
 ·refine L.off rfl ?_;refine U92 ?_;refine U312 ?_;refine⟨rfl,congrArg Value.bool (by first|exact vz0 hb7|rfl|(simp_all;done)|(rw[Bool.eq_iff_iff];simp_all;omega)),?_⟩;exact L0.upd rfl (L0.upd rfl (L0.upd rfl (L0.upd rfl (L0.upd rfl (L0.upd rfl (L0.upd rfl (L0.refl _ _)))))))
 exact U144
theorem ej1 [Ctx prog] (b0:Nat) (sb:Nat) (obj num:Int) (h:Bool) (r:Int) (w0:World) (hB0:K0 w0 b0 #[.pointer (some ⟨sb,0,none⟩)] 242) (hC:K0 w0 sb #[.int .i64 obj,.int .i64 num,.bool h,.int .i64 r] 244) :
  C prog 212 #[.pointer (some ⟨b0,0,none⟩)] w0 fun v w=>v= .bool (!h)/\Below w0.heap.size w0 w:=by
 refine C.enter (n:=7) func212 rfl rfl ?_;refine U1 ?_;intro hb;refine U7 ?_;refine U0 ?_;refine U187 ?_;refine U465 ?_;exact U144
theorem y6.ai0 {K:Y9 prog} {w0 u:World} {m:Gm} {F F':Nat->Prop} (h:K.y6 w0 m F u F') {b:Nat} {cs:Array Value} {T:TypeId} (hB:K0 w0 b cs T) (h0:0<cs.size) (hF:¬F b):K0 u b cs T/\¬F' b:=by
 have hB':O1 w0 b cs T (0,0):=P3 hB;have:=h.j0 b hB'.lt (k9 hB' h0) hF;exact⟨this.1.trans hB',this.2⟩
theorem Im0:∀(recv:Value) (w:World),(Go.method (prog.types.size+Made.depth) 242 recv "docket/prim.lock").run prog w= .ok (206,recv) w:=by intro recv w;kernel_rfl
theorem Cn0:∀(recv:Value) (w:World),(Go.method (prog.types.size+Made.depth) 242 recv "docket/prim.lock").events prog w #[]=#[]:=by intro recv w;kernel_rfl
theorem mt0:∀(recv:Value) (w:World),(Go.method (prog.types.size+Made.depth) 242 recv "docket/prim.unlock").run prog w= .ok (209,recv) w:=by intro recv w;kernel_rfl
theorem kg0:∀(recv:Value) (w:World),(Go.method (prog.types.size+Made.depth) 242 recv "docket/prim.unlock").events prog w #[]=#[]:=by intro recv w;kernel_rfl
theorem Qu0:∀(recv:Value) (w:World),(Go.method (prog.types.size+Made.depth) 242 recv "docket/prim.rlock").run prog w= .ok (207,recv) w:=by intro recv w;kernel_rfl
theorem Kn0:∀(recv:Value) (w:World),(Go.method (prog.types.size+Made.depth) 242 recv "docket/prim.rlock").events prog w #[]=#[]:=by intro recv w;kernel_rfl
theorem qt0:∀(recv:Value) (w:World),(Go.method (prog.types.size+Made.depth) 242 recv "docket/prim.runlock").run prog w= .ok (208,recv) w:=by intro recv w;kernel_rfl
theorem oc0:∀(recv:Value) (w:World),(Go.method (prog.types.size+Made.depth) 242 recv "docket/prim.runlock").events prog w #[]=#[]:=by intro recv w;kernel_rfl
set_option maxHeartbeats 400000 in
theorem In0 {K:Y9 prog} (hK:KOk K) {L3:K.L} {m:Gm} {F:Nat->Prop} (cb wb:Nat) (obj num:Int) (x:Nat->Int) (x2 d:Int) (sa:Value) (w0:World) (hT:K.Told w0 m F (.inl L3)) (S2:K.stp L3=⟨7,obj,num⟩) (hrd:∀s,K.rdy L3 s=true) (hW:K0 w0 wb #[.bool false] 99) (hC:K0 w0 cb #[.int .i64 obj,.int .i64 num,.pointer (some ⟨wb,0,none⟩),.int .i64 x2,sa] 191) (hgo:∀u F',K.Goes w0 m F L3 u F'->∃sa,K0 u cb #[.int .i64 obj,.int .i64 num,.pointer (some ⟨wb,0,none⟩),.int .i64 (x (gh u 0)),sa] 191) :
  @Calls prog (I0 K) 50 #[.pointer (some ⟨cb,0,none⟩),.pointer (some ⟨K.ptr,0,none⟩),.int .i64 d] w0 (A3 K w0 fun v u=>∃u0 F' tt sa,Gn K w0 m F L3 u0 F'/\gh u0 0=tt/\v= .int .i64 (IntKind.i64.wrap (x tt+d))/\K0 u cb #[.int .i64 obj,.int .i64 num,.pointer (some ⟨wb,0,none⟩),.int .i64 (IntKind.i64.wrap (x tt+d)),sa] 191/\∃y,w0.heap.size <=y/\¬F' y/\aj0 u0 u cb y/\u.tape=u0.tape):=by
 letI:Ctx prog:=I0 K;refine Calls.n6 (n:=28) func50 rfl rfl ?_;refine U1 ?_;intro hb;refine L.box (cs:=#[.pointer (some ⟨cb,0,none⟩)]) rfl rfl (fun w b3 F3=>?_);refine U133 ?_;intro lt3 hb;have hW:=hW.j0 F3.below;have hC:=hC.j0 F3.below;have Z7:=F3.blk;refine L.box (cs:=#[.int .i64 d]) rfl rfl (fun w b5 F5=>?_);refine U37 ?_;intro lt5 hb;refine U94 ?_;intro hW hC;have Z7:=Z7.j0 F5.below;have I2:=F5.blk;refine U5 ?_;refine U6 ?_;refine L.va (A0 rfl underlying125 rfl (Z7.q0 0 (v:=.pointer (some ⟨cb,0,none⟩)) rfl)) ?_;refine U530 ?_;refine U428 ?_;refine U505 ?_;rintro _ w1 ⟨rfl,hw⟩;refine U146 ?_;refine L.alloc (cs:=#[.int .i64 0]) zr2 rfl (fun w b7 F7=>?_);have lt7:=F7.lq hb.size;have ek1:=F7.ne I2;have nj1:b7≠b5:=by have h9:=F7.here;have h8:=I2.lt;omega
 have hb:=G0 hb F7.below;have hW:=hW.j0 F7.below;have hC:=hC.j0 F7.below;have Z7:=Z7.j0 F7.below;have I2:=I2.j0 F7.below;have hB7:=F7.blk;refine L.pu 0 [.int .i64 0] #[.int .i64 0] sz2 hB7 (fun w A1 hg N2=>?_);have Y5:=N4.ei0 hB7 hg;have hb:=M4 hb hb.size hg lt7;have hW:=hW.mod Y5 rfl;have hC:=hC.mod Y5 rfl;have Z7:=Z7.mod Y5 rfl;have I2:=I2.other hg ek1;have hB7:=A1;refine U28 ?_;refine U0 ?_;refine U428 ?_;refine L.va (B0 rfl underlying191 rfl qb0 (by decide)) ?_;refine U249 ?_;refine L.va (u5 (l:=[.tmp 3,.tmp 5,.tmp 7]) (vs:=[.pointer (some ⟨b3,0,none⟩),.pointer (some ⟨b5,0,none⟩),.pointer (some ⟨b7,0,none⟩)]) rfl) ?_;have hbL:=hb;have hF3:¬F b3:=fun z=>by have:=hK.tlt hT z;omega
 have hF5:¬F b5:=fun z=>by have:=hK.tlt hT z;omega
 have hF7:¬F b7:=fun z=>by have:=hK.tlt hT z;omega
 have hpl:@Calls prog (I0 K) 70 #[.agg #[.int .i64 obj,.int .i64 num],.pointer (some ⟨K.ptr,0,none⟩),.int .i64 7,.nilFunc,.func (.func 90) #[] #[.pointer (some ⟨b3,0,none⟩),.pointer (some ⟨b5,0,none⟩),.pointer (some ⟨b7,0,none⟩)]] w (A3 K w fun v u=>v= .tuple #[]/\∃u0 F',K.Goes w m F L3 u0 F'/\(∃sa,K0 u b7 #[.int .i64 (IntKind.i64.wrap (x (gh u0 0)+d))] 2/\K0 u cb #[.int .i64 obj,.int .i64 num,.pointer (some ⟨wb,0,none⟩),.int .i64 (IntKind.i64.wrap (x (gh u0 0)+d)),sa] 191/\aj0 u0 u cb b7)/\u.tape=u0.tape):=by
  refine cc0 hK w (hK.j0 hT hb) S2 (fun w1 O7=>.inl ⟨rfl,hrd⟩) ⟨0,#[],.inl rfl⟩ (.inr ⟨90,_,fj0 func90 rfl kl1⟩) (fun u u2=>∃sa,K0 u2 b7 #[.int .i64 (IntKind.i64.wrap (x (gh u 0)+d))] 2/\K0 u2 cb #[.int .i64 obj,.int .i64 num,.pointer (some ⟨wb,0,none⟩),.int .i64 (IntKind.i64.wrap (x (gh u 0)+d)),sa] 191/\aj0 u u2 cb b7) (fun w1 O7 u F' hg=>.inr ⟨90,_,fj0 func90 rfl kl1,?_⟩);obtain⟨y0,hCu⟩:=hgo u F' (Goes.down (G0 hb O7) hg);exact @C.mono _ (I5 prog K.P4 K.ptr K.num) _ _ _ _ _ (@eh1 (I5 prog K.P4 K.ptr K.num) b3 b5 b7 cb obj num _ _ _ d _ u (Goes.ai0 hg (Z7.j0 O7) (Nat.zero_lt_succ _) hF3).1 (Goes.ai0 hg (I2.j0 O7) (Nat.zero_lt_succ _) hF5).1 (Goes.ai0 hg (hB7.j0 O7) (Nat.zero_lt_succ _) hF7).1 nj1 hCu) fun v w' h=>⟨_,h.2⟩
 refine L.Y2 rfl (V7 rfl rfl rfl rfl rfl func70 rfl oi0 rfl) hpl ?_ ?_ (fun _ h=>h)
 ·rintro v u ⟨rfl,u0,F',hg,⟨sa',el1,hCn,hm2⟩,ht⟩;have h7:=(Goes.ai0 hg hB7 (Nat.zero_lt_succ _) hF7).2;have hg0:=Goes.down hbL hg;obtain⟨tt,htt⟩:∃tt,gh u0 0=tt:=⟨_,rfl⟩
  rw[htt]at el1 hCn;clear hb Z7 I2 hC hpl hB7;have hB7:=el1;clear el1;rename_i wL;clear hW;refine U26 ?_;refine L.va (A0 rfl underlying2 rfl (hB7.q0 0 (v:=.int .i64 (IntKind.i64.wrap (x tt+d))) rfl)) ?_;refine U138 ?_;exact⟨u0,F',tt,_,⟨hK,hg0⟩,htt,rfl,hCn,b7,lt7,h7,hm2,ht⟩
 ·rintro ch u ⟨l7,hh⟩;exact⟨l7,hh.at hbL.os hbL.output⟩
theorem Io0 {K:Y9 prog} (hK:KOk K) {L3:K.L} {m:Gm} {F:Nat->Prop} (sb:Nat) (obj num:Int) (h:Bool) (r:Int) (w0:World) (hT:K.Told w0 m F (.inl L3)) (S2:K.stp L3=⟨1,obj,num⟩) (hC:K0 w0 sb #[.int .i64 obj,.int .i64 num,.bool h,.int .i64 r] 244) (hla:∀u F',K.y6 w0 m F u F'->∃h r,K0 u sb #[.int .i64 obj,.int .i64 num,.bool h,.int .i64 r] 244/\K.rdy L3 (K.sOf (gh u 0))=(!h&&decide (r=0))) :
  @Calls prog (I0 K) 206 #[.pointer (some ⟨sb,0,none⟩),.pointer (some ⟨K.ptr,0,none⟩)] w0 (A3 K w0 fun v u=>v= .tuple #[]/\∃u0 F' h r,Gn K w0 m F L3 u0 F'/\K0 u0 sb #[.int .i64 obj,.int .i64 num,.bool h,.int .i64 r] 244/\K0 u sb #[.int .i64 obj,.int .i64 num,.bool true,.int .i64 r] 244/\u0.grownBy u (some sb)/\u.tape=u0.tape):=by
 letI:Ctx prog:=I0 K;refine Calls.n6 (n:=12) func206 rfl rfl ?_;refine U84 ?_;intro hb w b2 F2;refine U104 ?_;intro lt2 hb hC A2;refine U102 ?_;refine U468 ?_;refine U216 ?_;intro hbL hF2;have hpl:@Calls prog (I0 K) 70 #[.agg #[.int .i64 obj,.int .i64 num],.pointer (some ⟨K.ptr,0,none⟩),.int .i64 1,.func (.func 210) #[] #[.pointer (some ⟨b2,0,none⟩)],.func (.func 211) #[] #[.pointer (some ⟨b2,0,none⟩)]] w (A3 K w fun v u=>v= .tuple #[]/\∃u0 F',K.Goes w m F L3 u0 F'/\(∃h r,K0 u0 sb #[.int .i64 obj,.int .i64 num,.bool h,.int .i64 r] 244/\K0 u sb #[.int .i64 obj,.int .i64 num,.bool true,.int .i64 r] 244/\u0.grownBy u (some sb))/\u.tape=u0.tape):=by
  refine cc0 hK w (hK.j0 hT hb) S2 (fun w1 O7=>.inr ⟨210,_,fj0 func210 rfl lj1,fun u F' hl=>?_⟩) ⟨210,_,.inr rfl⟩ (.inr ⟨211,_,fj0 func211 rfl Zv0⟩) (fun u u2=>∃h r,K0 u sb #[.int .i64 obj,.int .i64 num,.bool h,.int .i64 r] 244/\K0 u2 sb #[.int .i64 obj,.int .i64 num,.bool true,.int .i64 r] 244/\u.grownBy u2 (some sb)) (fun w1 O7 u F' hg=>.inr ⟨211,_,fj0 func211 rfl Zv0,?_⟩)
  ·obtain⟨h,r,hCu,hrr⟩:=hla u F' (y6.down (G0 hb O7) hl);refine @C.mono _ (B2 prog true) _ _ _ _ _ (@ni1 (B2 prog true) b2 sb obj num h r u (y6.ai0 hl (A2.j0 O7) (Nat.zero_lt_succ _) hF2).1 hCu) fun v w' h=>?_;rw[hrr];exact h
  ·obtain⟨h,r,hCu,_⟩:=hla u F' (Goes.down (G0 hb O7) hg).j4;exact @C.mono _ (I5 prog K.P4 K.ptr K.num) _ _ _ _ _ (@nh1 (I5 prog K.P4 K.ptr K.num) b2 sb obj num h r u (Goes.ai0 hg (A2.j0 O7) (Nat.zero_lt_succ _) hF2).1 hCu) fun v w' hh=>⟨h,r,hCu,hh.2⟩
 refine L.Y2 rfl (V7 rfl rfl rfl rfl rfl func70 rfl oi0 rfl) hpl ?_ ?_ (fun _ h=>h)
 ·rintro v u ⟨rfl,u0,F',hg,⟨h',r',hC0,hCn,j3⟩,ht⟩;have hg0:=Goes.down hbL hg;rename_i wL;exact U193
 ·rintro ch u ⟨l7,hh⟩;exact⟨l7,hh.at hbL.os hbL.output⟩
theorem Qv0 {K:Y9 prog} (hK:KOk K) {L3:K.L} {m:Gm} {F:Nat->Prop} (sb:Nat) (obj num:Int) (h:Bool) (r:Int) (mb:Nat) (w0:World) (hT:K.Told w0 m F (.inl L3)) (S2:K.stp L3=⟨1,obj,num⟩) (hM:K0 w0 mb #[.iface 242 (.pointer (some ⟨sb,0,none⟩))] 187) (hC:K0 w0 sb #[.int .i64 obj,.int .i64 num,.bool h,.int .i64 r] 244) (hla:∀u F',K.y6 w0 m F u F'->∃h r,K0 u sb #[.int .i64 obj,.int .i64 num,.bool h,.int .i64 r] 244/\K.rdy L3 (K.sOf (gh u 0))=(!h&&decide (r=0))) :
  @Calls prog (I0 K) 48 #[.pointer (some ⟨mb,0,none⟩),.pointer (some ⟨K.ptr,0,none⟩)] w0 (A3 K w0 fun v u=>v= .tuple #[]/\∃u0 F' h r,Gn K w0 m F L3 u0 F'/\K0 u0 sb #[.int .i64 obj,.int .i64 num,.bool h,.int .i64 r] 244/\K0 u sb #[.int .i64 obj,.int .i64 num,.bool true,.int .i64 r] 244/\u0.grownBy u (some sb)/\u.tape=u0.tape):=by
 letI:Ctx prog:=I0 K;refine Calls.n6 (n:=12) func48 rfl rfl ?_;refine U1 ?_;intro hb;refine U499 ?_;refine U66 ?_;refine U502 ?_;refine U250 ?_;have hbL:=hb;refine L.Y2 rfl (K9 rfl rfl Im0 Cn0 func206 rfl Zt0) (Io0 hK sb obj num h r w0 hT S2 hC hla) ?_ ?_ (fun _ h=>h)
 ·rintro v u bw0;obtain⟨rfl,bw0⟩:=bw0;exact U93
 ·rintro ch u ⟨l7,hh⟩;exact⟨l7,hh⟩
theorem Qw0 {K:Y9 prog} (hK:KOk K) {L3:K.L} {m:Gm} {F:Nat->Prop} (sb:Nat) (obj num:Int) (h:Bool) (r:Int) (mb:Nat) (w0:World) (hT:K.Told w0 m F (.inl L3)) (S2:K.stp L3=⟨1,obj,num⟩) (hM:K0 w0 mb #[.iface 242 (.pointer (some ⟨sb,0,none⟩))] 160) (hC:K0 w0 sb #[.int .i64 obj,.int .i64 num,.bool h,.int .i64 r] 244) (hla:∀u F',K.y6 w0 m F u F'->∃h r,K0 u sb #[.int .i64 obj,.int .i64 num,.bool h,.int .i64 r] 244/\K.rdy L3 (K.sOf (gh u 0))=(!h&&decide (r=0))) :
  @Calls prog (I0 K) 52 #[.pointer (some ⟨mb,0,none⟩),.pointer (some ⟨K.ptr,0,none⟩)] w0 (A3 K w0 fun v u=>v= .tuple #[]/\∃u0 F' h r,Gn K w0 m F L3 u0 F'/\K0 u0 sb #[.int .i64 obj,.int .i64 num,.bool h,.int .i64 r] 244/\K0 u sb #[.int .i64 obj,.int .i64 num,.bool true,.int .i64 r] 244/\u0.grownBy u (some sb)/\u.tape=u0.tape):=by
 letI:Ctx prog:=I0 K;refine Calls.n6 (n:=12) func52 rfl rfl ?_;refine U1 ?_;intro hb;refine U103 ?_;have hbL:=hb;refine L.Y2 rfl (K9 rfl rfl Im0 Cn0 func206 rfl Zt0) (Io0 hK sb obj num h r w0 hT S2 hC hla) ?_ ?_ (fun _ h=>h)
 ·rintro v u bw0;obtain⟨rfl,bw0⟩:=bw0;exact U93
 ·rintro ch u ⟨l7,hh⟩;exact⟨l7,hh⟩
theorem xx0 {K:Y9 prog} (hK:KOk K) {L3:K.L} {m:Gm} {F:Nat->Prop} (sb:Nat) (obj num:Int) (h:Bool) (r:Int) (w0:World) (hT:K.Told w0 m F (.inl L3)) (S2:K.stp L3=⟨2,obj,num⟩) (hrd:∀s,K.rdy L3 s=true) (hC:K0 w0 sb #[.int .i64 obj,.int .i64 num,.bool h,.int .i64 r] 244) (hla:∀u F',K.y6 w0 m F u F'->∃h r,K0 u sb #[.int .i64 obj,.int .i64 num,.bool h,.int .i64 r] 244) :
  @Calls prog (I0 K) 209 #[.pointer (some ⟨sb,0,none⟩),.pointer (some ⟨K.ptr,0,none⟩)] w0 (A3 K w0 fun v u=>v= .tuple #[]/\∃u0 F' h r,Gn K w0 m F L3 u0 F'/\K0 u0 sb #[.int .i64 obj,.int .i64 num,.bool h,.int .i64 r] 244/\K0 u sb #[.int .i64 obj,.int .i64 num,.bool false,.int .i64 r] 244/\u0.grownBy u (some sb)/\u.tape=u0.tape):=by
 letI:Ctx prog:=I0 K;refine Calls.n6 (n:=11) func209 rfl rfl ?_;refine U84 ?_;intro hb w b2 F2;refine U104 ?_;intro lt2 hb hC A2;refine U102 ?_;refine U114 ?_;refine U216 ?_;intro hbL hF2;have hpl:@Calls prog (I0 K) 70 #[.agg #[.int .i64 obj,.int .i64 num],.pointer (some ⟨K.ptr,0,none⟩),.int .i64 2,.nilFunc,.func (.func 215) #[] #[.pointer (some ⟨b2,0,none⟩)]] w (A3 K w fun v u=>v= .tuple #[]/\∃u0 F',K.Goes w m F L3 u0 F'/\(∃h r,K0 u0 sb #[.int .i64 obj,.int .i64 num,.bool h,.int .i64 r] 244/\K0 u sb #[.int .i64 obj,.int .i64 num,.bool false,.int .i64 r] 244/\u0.grownBy u (some sb))/\u.tape=u0.tape):=by
  refine cc0 hK w (hK.j0 hT hb) S2 (fun w1 O7=>.inl ⟨rfl,hrd⟩) ⟨0,#[],.inl rfl⟩ (.inr ⟨215,_,fj0 func215 rfl Zy0⟩) (fun u u2=>∃h r,K0 u sb #[.int .i64 obj,.int .i64 num,.bool h,.int .i64 r] 244/\K0 u2 sb #[.int .i64 obj,.int .i64 num,.bool false,.int .i64 r] 244/\u.grownBy u2 (some sb)) (fun w1 O7 u F' hg=>.inr ⟨215,_,fj0 func215 rfl Zy0,?_⟩)
  ·obtain⟨h,r,hCu⟩:=hla u F' (Goes.down (G0 hb O7) hg).j4;exact @C.mono _ (I5 prog K.P4 K.ptr K.num) _ _ _ _ _ (@Wn0 (I5 prog K.P4 K.ptr K.num) b2 sb obj num h r u (Goes.ai0 hg (A2.j0 O7) (Nat.zero_lt_succ _) hF2).1 hCu) fun v w' hh=>⟨h,r,hCu,hh.2⟩
 refine L.Y2 rfl (V7 rfl rfl rfl rfl rfl func70 rfl oi0 rfl) hpl ?_ ?_ (fun _ h=>h)
 ·rintro v u ⟨rfl,u0,F',hg,⟨h',r',hC0,hCn,j3⟩,ht⟩;have hg0:=Goes.down hbL hg;rename_i wL;exact U193
 ·rintro ch u ⟨l7,hh⟩;exact⟨l7,hh.at hbL.os hbL.output⟩
theorem Fu0 {K:Y9 prog} (hK:KOk K) {L3:K.L} {m:Gm} {F:Nat->Prop} (sb:Nat) (obj num:Int) (h:Bool) (r:Int) (mb:Nat) (w0:World) (hT:K.Told w0 m F (.inl L3)) (S2:K.stp L3=⟨2,obj,num⟩) (hrd:∀s,K.rdy L3 s=true) (hM:K0 w0 mb #[.iface 242 (.pointer (some ⟨sb,0,none⟩))] 187) (hC:K0 w0 sb #[.int .i64 obj,.int .i64 num,.bool h,.int .i64 r] 244) (hla:∀u F',K.y6 w0 m F u F'->∃h r,K0 u sb #[.int .i64 obj,.int .i64 num,.bool h,.int .i64 r] 244) :
  @Calls prog (I0 K) 49 #[.pointer (some ⟨mb,0,none⟩),.pointer (some ⟨K.ptr,0,none⟩)] w0 (A3 K w0 fun v u=>v= .tuple #[]/\∃u0 F' h r,Gn K w0 m F L3 u0 F'/\K0 u0 sb #[.int .i64 obj,.int .i64 num,.bool h,.int .i64 r] 244/\K0 u sb #[.int .i64 obj,.int .i64 num,.bool false,.int .i64 r] 244/\u0.grownBy u (some sb)/\u.tape=u0.tape):=by
 letI:Ctx prog:=I0 K;refine Calls.n6 (n:=12) func49 rfl rfl ?_;refine U1 ?_;intro hb;refine U499 ?_;refine U66 ?_;refine U502 ?_;refine U250 ?_;have hbL:=hb;refine L.Y2 rfl (K9 rfl rfl mt0 kg0 func209 rfl Ou0) (xx0 hK sb obj num h r w0 hT S2 hrd hC hla) ?_ ?_ (fun _ h=>h)
 ·rintro v u bw0;obtain⟨rfl,bw0⟩:=bw0;exact U93
 ·rintro ch u ⟨l7,hh⟩;exact⟨l7,hh⟩
theorem Qx0 {K:Y9 prog} (hK:KOk K) {L3:K.L} {m:Gm} {F:Nat->Prop} (sb:Nat) (obj num:Int) (h:Bool) (r:Int) (w0:World) (hT:K.Told w0 m F (.inl L3)) (S2:K.stp L3=⟨3,obj,num⟩) (hC:K0 w0 sb #[.int .i64 obj,.int .i64 num,.bool h,.int .i64 r] 244) (hla:∀u F',K.y6 w0 m F u F'->∃h r,K0 u sb #[.int .i64 obj,.int .i64 num,.bool h,.int .i64 r] 244/\K.rdy L3 (K.sOf (gh u 0))=(!h)) :
  @Calls prog (I0 K) 207 #[.pointer (some ⟨sb,0,none⟩),.pointer (some ⟨K.ptr,0,none⟩)] w0 (A3 K w0 fun v u=>v= .tuple #[]/\∃u0 F' h r,Gn K w0 m F L3 u0 F'/\K0 u0 sb #[.int .i64 obj,.int .i64 num,.bool h,.int .i64 r] 244/\K0 u sb #[.int .i64 obj,.int .i64 num,.bool h,.int .i64 (IntKind.i64.wrap (r+1))] 244/\u0.grownBy u (some sb)/\u.tape=u0.tape):=by
 letI:Ctx prog:=I0 K;refine Calls.n6 (n:=12) func207 rfl rfl ?_;refine U84 ?_;intro hb w b2 F2;refine U104 ?_;intro lt2 hb hC A2;refine U102 ?_;refine U468 ?_;refine U216 ?_;intro hbL hF2;have hpl:@Calls prog (I0 K) 70 #[.agg #[.int .i64 obj,.int .i64 num],.pointer (some ⟨K.ptr,0,none⟩),.int .i64 3,.func (.func 212) #[] #[.pointer (some ⟨b2,0,none⟩)],.func (.func 213) #[] #[.pointer (some ⟨b2,0,none⟩)]] w (A3 K w fun v u=>v= .tuple #[]/\∃u0 F',K.Goes w m F L3 u0 F'/\(∃h r,K0 u0 sb #[.int .i64 obj,.int .i64 num,.bool h,.int .i64 r] 244/\K0 u sb #[.int .i64 obj,.int .i64 num,.bool h,.int .i64 (IntKind.i64.wrap (r+1))] 244/\u0.grownBy u (some sb))/\u.tape=u0.tape):=by
  refine cc0 hK w (hK.j0 hT hb) S2 (fun w1 O7=>.inr ⟨212,_,fj0 func212 rfl lk1,fun u F' hl=>?_⟩) ⟨212,_,.inr rfl⟩ (.inr ⟨213,_,fj0 func213 rfl Zw0⟩) (fun u u2=>∃h r,K0 u sb #[.int .i64 obj,.int .i64 num,.bool h,.int .i64 r] 244/\K0 u2 sb #[.int .i64 obj,.int .i64 num,.bool h,.int .i64 (IntKind.i64.wrap (r+1))] 244/\u.grownBy u2 (some sb)) (fun w1 O7 u F' hg=>.inr ⟨213,_,fj0 func213 rfl Zw0,?_⟩)
  ·obtain⟨h,r,hCu,hrr⟩:=hla u F' (y6.down (G0 hb O7) hl);refine @C.mono _ (B2 prog true) _ _ _ _ _ (@ej1 (B2 prog true) b2 sb obj num h r u (y6.ai0 hl (A2.j0 O7) (Nat.zero_lt_succ _) hF2).1 hCu) fun v w' h=>?_;rw[hrr];exact h
  ·obtain⟨h,r,hCu,_⟩:=hla u F' (Goes.down (G0 hb O7) hg).j4;exact @C.mono _ (I5 prog K.P4 K.ptr K.num) _ _ _ _ _ (@ei1 (I5 prog K.P4 K.ptr K.num) b2 sb obj num h r u (Goes.ai0 hg (A2.j0 O7) (Nat.zero_lt_succ _) hF2).1 hCu) fun v w' hh=>⟨h,r,hCu,hh.2⟩
 refine L.Y2 rfl (V7 rfl rfl rfl rfl rfl func70 rfl oi0 rfl) hpl ?_ ?_ (fun _ h=>h)
 ·rintro v u ⟨rfl,u0,F',hg,⟨h',r',hC0,hCn,j3⟩,ht⟩;have hg0:=Goes.down hbL hg;rename_i wL;exact U193
 ·rintro ch u ⟨l7,hh⟩;exact⟨l7,hh.at hbL.os hbL.output⟩
theorem Ko0 {K:Y9 prog} (hK:KOk K) {L3:K.L} {m:Gm} {F:Nat->Prop} (sb:Nat) (obj num:Int) (h:Bool) (r:Int) (mb:Nat) (w0:World) (hT:K.Told w0 m F (.inl L3)) (S2:K.stp L3=⟨3,obj,num⟩) (hM:K0 w0 mb #[.iface 242 (.pointer (some ⟨sb,0,none⟩))] 160) (hC:K0 w0 sb #[.int .i64 obj,.int .i64 num,.bool h,.int .i64 r] 244) (hla:∀u F',K.y6 w0 m F u F'->∃h r,K0 u sb #[.int .i64 obj,.int .i64 num,.bool h,.int .i64 r] 244/\K.rdy L3 (K.sOf (gh u 0))=(!h)) :
  @Calls prog (I0 K) 102 #[.pointer (some ⟨mb,0,none⟩),.pointer (some ⟨K.ptr,0,none⟩)] w0 (A3 K w0 fun v u=>v= .tuple #[]/\∃u0 F' h r,Gn K w0 m F L3 u0 F'/\K0 u0 sb #[.int .i64 obj,.int .i64 num,.bool h,.int .i64 r] 244/\K0 u sb #[.int .i64 obj,.int .i64 num,.bool h,.int .i64 (IntKind.i64.wrap (r+1))] 244/\u0.grownBy u (some sb)/\u.tape=u0.tape):=by
 letI:Ctx prog:=I0 K;refine Calls.n6 (n:=12) func102 rfl rfl ?_;refine U1 ?_;intro hb;refine U103 ?_;have hbL:=hb;refine L.Y2 rfl (K9 rfl rfl Qu0 Kn0 func207 rfl li1) (Qx0 hK sb obj num h r w0 hT S2 hC hla) ?_ ?_ (fun _ h=>h)
 ·rintro v u bw0;obtain⟨rfl,bw0⟩:=bw0;exact U93
 ·rintro ch u ⟨l7,hh⟩;exact⟨l7,hh⟩
theorem Fv0 {K:Y9 prog} (hK:KOk K) {L3:K.L} {m:Gm} {F:Nat->Prop} (sb:Nat) (obj num:Int) (h:Bool) (r:Int) (w0:World) (hT:K.Told w0 m F (.inl L3)) (S2:K.stp L3=⟨4,obj,num⟩) (hrd:∀s,K.rdy L3 s=true) (hC:K0 w0 sb #[.int .i64 obj,.int .i64 num,.bool h,.int .i64 r] 244) (hla:∀u F',K.y6 w0 m F u F'->∃h r,K0 u sb #[.int .i64 obj,.int .i64 num,.bool h,.int .i64 r] 244) :
  @Calls prog (I0 K) 208 #[.pointer (some ⟨sb,0,none⟩),.pointer (some ⟨K.ptr,0,none⟩)] w0 (A3 K w0 fun v u=>v= .tuple #[]/\∃u0 F' h r,Gn K w0 m F L3 u0 F'/\K0 u0 sb #[.int .i64 obj,.int .i64 num,.bool h,.int .i64 r] 244/\K0 u sb #[.int .i64 obj,.int .i64 num,.bool h,.int .i64 (max 0 (IntKind.i64.wrap (r-1)))] 244/\u0.grownBy u (some sb)/\u.tape=u0.tape):=by
 letI:Ctx prog:=I0 K;refine Calls.n6 (n:=11) func208 rfl rfl ?_;refine U84 ?_;intro hb w b2 F2;refine U104 ?_;intro lt2 hb hC A2;refine U102 ?_;refine U114 ?_;refine U216 ?_;intro hbL hF2;have hpl:@Calls prog (I0 K) 70 #[.agg #[.int .i64 obj,.int .i64 num],.pointer (some ⟨K.ptr,0,none⟩),.int .i64 4,.nilFunc,.func (.func 214) #[] #[.pointer (some ⟨b2,0,none⟩)]] w (A3 K w fun v u=>v= .tuple #[]/\∃u0 F',K.Goes w m F L3 u0 F'/\(∃h r,K0 u0 sb #[.int .i64 obj,.int .i64 num,.bool h,.int .i64 r] 244/\K0 u sb #[.int .i64 obj,.int .i64 num,.bool h,.int .i64 (max 0 (IntKind.i64.wrap (r-1)))] 244/\u0.grownBy u (some sb))/\u.tape=u0.tape):=by
  refine cc0 hK w (hK.j0 hT hb) S2 (fun w1 O7=>.inl ⟨rfl,hrd⟩) ⟨0,#[],.inl rfl⟩ (.inr ⟨214,_,fj0 func214 rfl Zx0⟩) (fun u u2=>∃h r,K0 u sb #[.int .i64 obj,.int .i64 num,.bool h,.int .i64 r] 244/\K0 u2 sb #[.int .i64 obj,.int .i64 num,.bool h,.int .i64 (max 0 (IntKind.i64.wrap (r-1)))] 244/\u.grownBy u2 (some sb)) (fun w1 O7 u F' hg=>.inr ⟨214,_,fj0 func214 rfl Zx0,?_⟩)
  ·obtain⟨h,r,hCu⟩:=hla u F' (Goes.down (G0 hb O7) hg).j4;exact @C.mono _ (I5 prog K.P4 K.ptr K.num) _ _ _ _ _ (@Qt0 (I5 prog K.P4 K.ptr K.num) b2 sb obj num h r u (Goes.ai0 hg (A2.j0 O7) (Nat.zero_lt_succ _) hF2).1 hCu) fun v w' hh=>⟨h,r,hCu,hh.2⟩
 refine L.Y2 rfl (V7 rfl rfl rfl rfl rfl func70 rfl oi0 rfl) hpl ?_ ?_ (fun _ h=>h)
 ·rintro v u ⟨rfl,u0,F',hg,⟨h',r',hC0,hCn,j3⟩,ht⟩;have hg0:=Goes.down hbL hg;rename_i wL;exact U193
 ·rintro ch u ⟨l7,hh⟩;exact⟨l7,hh.at hbL.os hbL.output⟩
end Go.Vy.Sc
end
section
namespace Go.Vy
open Go Go.Conc Go.Yc
open Go.Vc (Env upd R3 ev K0)
section
variable {P:Program}{ρ:Operand->Value}{w:World}{d:Option Nat}{ty:TypeId}{ps:String}{af:Array Edge}{g:Option (Nat×Bool)}{x y:Operand}{T T':TypeId}
theorem em1 {κ:IntKind} {m k:Int} (hx:ρ x= .int κ m) (hy:ρ y= .int κ k):Does P (execOp ρ ⟨d,.binOp .xor T x y T',ty,ps,af,g⟩) w (.val (.int κ (κ.wrap ((BitVec.ofInt κ.bits m ^^^ BitVec.ofInt κ.bits k).toNat:Int)))) w :=
 ar0 (fun x=>by simp[execOp,hx,hy,eqGuard,binOp,Op.intBits,Out.res]) fun x=>by simp[execOp,hx,hy,eqGuard,binOp,Op.intBits]
theorem Qy0 {aT:Array TypeId} {a:ByteArray} (hx:ρ x= .string a) (hT:P.underlying T=some .string) (hA:aT[0]? =some T):Does P (execOp ρ ⟨d,.call ⟨.builtin .len,#[x],aT⟩,ty,ps,af,g⟩) w (.val (.int .i64 (a.size:Int))) w :=
 ar0 (fun w=>by simp[execOp,resolve,invoke,builtin,hx,Builtin.len_,hA,underlying,hT,goInt,Out.res]) fun w=>by simp[execOp,resolve,invoke,builtin,hx,Builtin.len_,hA,underlying,hT,goInt]
theorem Fw0 {cs:Array Value} {f:Nat} {fs:Array Field} {fl:Field} {v:Value} {u:TypeDesc} (hx:ρ x= .agg cs) (hT:P.underlying T=some (.struct fs)) (hf:fs[f]? =some fl) (hu:P.underlying fl.type=some u) (hb:Go.Vc.bt0 u=true) (hc:cs[fl.offset]? =some v) :
  (execOp ρ ⟨d,.field T x f,ty,ps,af,g⟩).run P w= .ok (.value v) w:=by
 have h2:(isAgg fl.type).run P w= .ok false w:=by rw[Go.Vc.cg0 hu,hb];rfl
 have h1:(part fl.type cs fl.offset).run P w= .ok v w:=by simp[part,h2,hc]
 simp[execOp,Instr.field,hx,run_underlying hT,hf,asAgg,h1]
theorem Co0 {cs:Array Value} {f:Nat} {fs:Array Field} {fl:Field} {v:Value} {u:TypeDesc} (hx:ρ x= .agg cs) (hT:P.underlying T=some (.struct fs)) (hf:fs[f]? =some fl) (hu:P.underlying fl.type=some u) (hb:Go.Vc.bt0 u=true) (hc:cs[fl.offset]? =some v) :
  Does P (execOp ρ ⟨d,.field T x f,ty,ps,af,g⟩) w (.val v) w :=
 .Q0 (Y1 rfl _) rfl rfl fun _τ _d=>Fw0 hx hT hf hu hb hc
theorem Qz0 {a:ByteArray} {i:Nat} {b:UInt8} (hx:ρ x= .string a) (hy:ρ y= .int .i64 (i:Int)) (hT:P.underlying T=some .string) (hb:a[i]? =some b):Does P (execOp ρ ⟨d,.index T x y,ty,ps,af,g⟩) w (.val (.int .u8 (b.toNat:Int))) w:=by
 have h1:(0:Int) <=(i:Int):=Int.natCast_nonneg i;refine ar0 (fun w=>?_) fun w=>?_
 ·simp[execOp,Instr.index,asIntOf,hx,hy,run_underlying hT,h1,hb,Out.res]
 ·simp[execOp,Instr.index,asIntOf,hx,hy,underlying,hT,h1,hb]
theorem Wo0 (a b:ByteArray):(a.toList==b.toList)=decide (a=b):=by
 by_cases h:a=b
 ·subst h;simp
 ·have h1:a.toList≠b.toList:=fun e=>h (by
   rw[ByteArray.toList_eq,ByteArray.toList_eq]at e;exact ByteArray.ext (Array.toList_inj.1 e))
  simp[h,h1]
theorem Cp0 {a b:ByteArray} (hx:ρ x= .string a) (hy:ρ y= .string b):Does P (execOp ρ ⟨d,.binOp .eql T x y T',ty,ps,af,g⟩) w (.val (.bool (decide (a=b)))) w :=
 ar0 (fun w=>by simp[execOp,hx,hy,eqGuard,binOp,Op.stringOp,Out.res,Wo0]) fun w=>by simp[execOp,hx,hy,eqGuard,binOp,Op.stringOp]
end
theorem od0 {x:World} {b o:Nat} {cs:Array Value} {T:TypeId} {f:Nat×Nat} (hb:x.heap[b]? =some (.cells cs T f)) (hf:∀i,¬inR f i):x.frozen? ⟨b,o,none⟩=false:=by
 have h1:=hf o;unfold inR at h1;simp only[World.frozen?,hb];simp;intro h2;omega
theorem ol0 {P:Program} {x:World} {b b' o o':Nat} {cs k7:Array Value} {T T':TypeId} {f f':Nat×Nat} (N3:b≠b') (hb:x.heap[b]? =some (.cells cs T f)) (p7:x.heap[b']? =some (.cells k7 T' f')) (hf:∀i,¬inR f i) (hf':∀i,¬inR f' i) :
  (sameAddr ⟨b,o,none⟩ ⟨b',o',none⟩).run P x= .ok false x/\(sameAddr ⟨b,o,none⟩ ⟨b',o',none⟩).events P x #[]=#[]:=by
 have h1:∀k,x.frozen? ⟨b,k,none⟩=false:=fun k=>od0 hb hf;have h2:∀k,x.frozen? ⟨b',k,none⟩=false:=fun k=>od0 p7 hf';constructor
 ·simp[sameAddr,N3,h1,h2,hb,p7,noView,viewAt,World.shape?,mayBeOne,stringish]
 ·simp[sameAddr,N3,h1,h2,hb,p7,noView,viewAt,World.shape?,mayBeOne,stringish]
theorem X6.nk1 {ρ:Nat->C7} {u x:World} (h:X6 ρ u x) {b:Nat} {cs:Array Value} {T:TypeId} (hB:u.heap[b]? =some (.cells cs T (0,0))) (h0:0<cs.size):∃k7 f,x.heap[b]? =some (.cells k7 T f)/\∀i,¬inR f i:=by
 obtain⟨y,hy,hl⟩:=h.obj b _ hB;generalize ρ b=p at hl;cases hl with
 |same=>exact⟨_,_,hy,fun i hi=>by unfold inR at hi;omega⟩
 |cut _ rest _ f0 _ hh=>exact⟨_,_,hy,fun i hi=>by have:=hh i hi;unfold inR at this;omega⟩
 |gone=>simp at h0
section
variable {P:Program}{ρ:Operand->Value}{w:World}{d:Option Nat}{ty:TypeId}{ps:String}{af:Array Edge}{g:Option (Nat×Bool)}{x y:Operand}{T T' E:TypeId}
theorem qu0 {b b':Nat} {cs k7:Array Value} {TB TB':TypeId} (hx:ρ x= .pointer (some ⟨b,0,none⟩)) (hy:ρ y= .pointer (some ⟨b',0,none⟩)) (hT:P.underlying T=some (.pointer E)) {s:Nat} (hs:(P.info? E).map (·.size)=some s) (h0:decide (s≠0)=true) (hB:K0 w b cs TB) (hB':K0 w b' k7 TB') (hc:0<cs.size) (H8:0<k7.size) :
  Does P (execOp ρ ⟨d,.binOp .eql T x y T',ty,ps,af,g⟩) w (.val (.bool (decide (b=b')))) w:=by
 have h0:s≠0:=of_decide_eq_true h0;obtain⟨j,hj,hjs⟩:=Option.map_eq_some_iff.1 hs;have hz:j.size≠0:=by rw[hjs];exact h0
 refine .quiet fun τ dd ρ' X h=>?_;obtain⟨c1,f1,e1,q1⟩:=X6.nk1 h (b:=b) (cs:=cs) (T:=TB) hB hc;obtain⟨c2,f2,e2,q2⟩:=X6.nk1 h (b:=b') (cs:=k7) (T:=TB') hB' H8;by_cases hbb:b=b'
 ·subst hbb;have h3:∀n:Nat,(Op.equalIn (n+1) T (.pointer (some ⟨b,0,none⟩)) (.pointer (some ⟨b,0,none⟩))).run P X= .ok true X/\(Op.equalIn (n+1) T (.pointer (some ⟨b,0,none⟩)) (.pointer (some ⟨b,0,none⟩))).events P X #[]=#[]:=fun n=>by
   constructor
   ·simp[Op.equalIn,run_underlying hT,sizeOf,typeInfo,hj,run_sameAddr_same]
   ·simp[Op.equalIn,underlying,hT,sizeOf,typeInfo,hj,sameAddr]
  have h4:Op.equal T (.pointer (some ⟨b,0,none⟩)) (.pointer (some ⟨b,0,none⟩))=Op.equalIn (9999+1) T (.pointer (some ⟨b,0,none⟩)) (.pointer (some ⟨b,0,none⟩)):=rfl;obtain⟨h5,h6⟩:=h3 9999;rw[<- h4]at h5 h6;clear h3 h4;constructor
  ·simp[execOp,hx,hy,eqGuard,binOp,h5,Out.res]
  ·simp[execOp,hx,hy,eqGuard,binOp,h6]
 ·have h2:=ol0 (P:=P) (o:=0) (o':=0) hbb e1 e2 q1 q2;have h3:∀n:Nat,(Op.equalIn (n+1) T (.pointer (some ⟨b,0,none⟩)) (.pointer (some ⟨b',0,none⟩))).run P X= .ok false X/\(Op.equalIn (n+1) T (.pointer (some ⟨b,0,none⟩)) (.pointer (some ⟨b',0,none⟩))).events P X #[]=#[]:=fun n=>by
   constructor
   ·simp[Op.equalIn,run_underlying hT,sizeOf,typeInfo,hj,hz,h2.1]
   ·simp[Op.equalIn,underlying,hT,sizeOf,typeInfo,hj,hz,h2.2]
  have h4:Op.equal T (.pointer (some ⟨b,0,none⟩)) (.pointer (some ⟨b',0,none⟩))=Op.equalIn (9999+1) T (.pointer (some ⟨b,0,none⟩)) (.pointer (some ⟨b',0,none⟩)):=rfl;obtain⟨h5,h6⟩:=h3 9999;rw[<- h4]at h5 h6;clear h3 h4;constructor
  ·simp[execOp,hx,hy,eqGuard,binOp,h5,Out.res,hbb]
  ·simp[execOp,hx,hy,eqGuard,binOp,h6]
end
theorem qv0 {P:Program} {ρ:Operand->Value} {w:World} {d:Option Nat} {ty:TypeId} {ps:String} {af:Array Edge} {g:Option (Nat×Bool)} {x:Operand} {f:FuncId} {fn:Func} {aT:Array TypeId} {x0:Operand} {v0:Value} {ys:Array Value} (hx:ρ x= .func (.func f) #[] ys) (h0:ρ x0=v0) (hf:P.funcs[f]? =some fn) (hb:fn.body.isSome=true) (hn:(fn.name== "runtime.NumGoroutine")=false) :
  Does P (execOp ρ ⟨d,.call ⟨.value x,#[x0],aT⟩,ty,ps,af,g⟩) w (.enter f (#[v0]++ys)) w:=by
 refine .Q0 (bx0 hx hf hb hn) rfl rfl fun τ dd=>?_;rw[Go.Vc.cp0 hx rfl hf hb hn];simp[h0,Out.res]
section
variable {P:Program}{ρ:Operand->Value}{w:World}{d:Option Nat}{ty:TypeId}{ps:String}{af:Array Edge}{g:Option (Nat×Bool)}{x y:Operand}{T E:TypeId}
theorem Cq0 {a:Option Addr} {n c i s:Nat} (hx:ρ x= .slice a n c) (hy:ρ y= .int .i64 (i:Int)) (hT:P.underlying T=some (.slice E)) (hs:(P.info? E).map (·.size)=some s) (hi:i <=n) (hn:n <=c) (hc:i<c) :
  Does P (execOp ρ ⟨d,.slice T x (some y) none none,ty,ps,af,g⟩) w (.val (.slice (a.map (·.add (i*s))) (n-i) (c-i))) w:=by
 have h1:(0:Int) <=(i:Int)/\(i:Int) <=(n:Int):=by omega
 have h2:(0:Int) <=(n:Int)/\(n:Int) <=(c:Int):=by omega
 have h3:¬c=i:=by omega
 refine .Q0 (Y1 rfl _) rfl rfl fun τ dd=>?_;simp[execOp,Instr.sliceAt,Instr.slice,Instr.sliceBounds,Instr.sliceBound,hx,hy,asIntOf,run_underlying hT,Go.Vc.run_sizeOf hs,h1,h3,hi,Out.res]
theorem tr0 (z:Value) (n:Nat):(Builtin.zeroCells #[z] n).toList=List.replicate n z:=by
 apply List.ext_getElem?;intro i;simp[Builtin.zeroCells];by_cases h:i<n
 ·simp[h,Nat.mod_one]
 ·simp[h]
theorem Wp0 {b o n c:Nat} {cs:Array Value} {TB:TypeId} {z zv:Value} {aT:Array TypeId} (hx:ρ x= .slice (some ⟨b,o,none⟩) n c) (hA:aT[0]? =some T) (hT:P.underlying T=some (.slice E)) (hz:(P.info? E).bind (·.zero)=some zv) (hc:zv.cells=#[z]) (h1:z.oneCell'=true) (hB:K0 w b cs TB) (hn:0<n) (hl:o+n <=cs.size) :
  Does P (execOp ρ ⟨d,.call ⟨.builtin .clear,#[x],aT⟩,ty,ps,af,g⟩) w (.val (.tuple #[])) (Go.Vc.D6 w b (Go.Vc.setRow cs o (List.replicate n z)) TB):=by
 obtain⟨m,rfl⟩:∃m,n=m+1:=⟨n-1,by omega⟩
 have ht:j1 P (Builtin.clear_ aT ty #[.slice (some ⟨b,o,none⟩) (m+1) c]):=by
  unfold Builtin.clear_;simp only[hA,List.size_toArray,List.length_cons,List.length_nil,Nat.zero_add,Nat.lt_one_iff,getElem?_pos,List.getElem_toArray,List.getElem_cons_zero];refine cr0 hT ?_;exact C1 (G4 _) fun v=>C1 (o4 _ _ _) fun _=>B1 _
 refine .Q0 (by
  show j1 P (do pure (.value (<- Builtin.clear_ aT ty (#[x].map ρ))):Sem Next);rw[show #[x].map ρ=#[ρ x] by simp,hx];exact C1 ht fun _=>B1 _) rfl rfl fun τ dd=>?_
 have hB:K0 (V2 w τ dd) b cs TB:=hB;have:=Go.Vc.m9 (P:=P) b TB (List.replicate (m+1) z) o 0 cs (V2 w τ dd) hB (by simp;omega) (fun v hv=>by rw[List.eq_of_mem_replicate hv];exact h1);rw[Nat.add_zero]at this;have hzr:∀w':World,(zeroValue E).run P w'= .ok zv w':=fun w'=>by
  obtain⟨j,hj,hjz⟩:=Option.bind_eq_some_iff.1 hz;simp[zeroValue,typeInfo,hj,hjz]
 show _=Result.ok (Next.value (.tuple #[])) (Go.Vc.D6 (V2 w τ dd) b (Go.Vc.setRow cs o (List.replicate (m+1) z)) TB);simp[execOp,resolve,invoke,builtin,hx,Builtin.clear_,hA,run_underlying hT,hzr,hc,tr0,this]
end
section
open Go.Vc
theorem _root_.Go.Vc.Own.cut {w:World} {B m c k:Nat} {E:TypeId} {a:Option Addr} {xs:List Value} (h:Own w B E 1 a m c xs) (hk:k <=m) (ha:a≠none):Own w B E 1 a k c (xs.take k):=by
 obtain⟨r,rfl⟩:=h.oq0 ha;obtain⟨cur,hB,hb,hnc,hcm,hcs,ht⟩:=h.row ha;simp only[ab,Option.map_some,Option.getD_some]at hB hb;have hl:=h.length;refine⟨by rw[List.length_take];omega,.inr ⟨r,c,cur,rfl,hb,hB,by omega,hcm,hcs,?_⟩⟩;rw[<- ht,List.take_take,Nat.mul_one,Nat.mul_one,Nat.min_eq_left hk]
theorem zv0 (f:Nat->Value) (z:Value) (i:Nat):∀(q:Nat) (cs:Array Value),i+q <=cs.size->(setRow cs i (List.replicate q z)).size=cs.size/\∀j,(setRow cs i (List.replicate q z))[j]? =if i <=j/\j<i+q then some z else cs[j]?:=by
 intro q
 induction q generalizing i with
 |zero=>intro cs _;exact⟨rfl,fun j=>by rw[if_neg (by omega)];rfl⟩
 |succ q ih=>
  intro cs hq;have h1:=ih (i+1) (cs.setIfInBounds i z) (by simp;omega);rw[List.replicate_succ];show(setRow (cs.setIfInBounds i z) (i+1) (List.replicate q z)).size=_/\∀j,(setRow (cs.setIfInBounds i z) (i+1) (List.replicate q z))[j]? =_;refine⟨by rw[h1.1];simp,fun j=>?_⟩;rw[h1.2 j];by_cases hj:j=i
  ·subst hj;rw[if_neg (by omega),if_pos (by omega),Array.getElem?_setIfInBounds_self_of_lt (by omega)]
  ·by_cases h2:i+1 <=j/\j<i+1+q
   ·rw[if_pos h2,if_pos (by omega)]
   ·rw[if_neg h2,if_neg (by omega),Array.getElem?_setIfInBounds_ne (fun e=>hj e.symm)]
variable {P:Program}[Ctx P]{n:Nat}{ops:Array Oper}{Q:Exit->Env->World->Prop}{rest:List Oper}{e:Env}{w:World}{ty:TypeId}{ps:String}{af:Array Edge}{y:Operand}{T E:TypeId}
theorem L.Ra0 [B4] {B m c cc i:Nat} {a:Option Addr} {f:Nat->Value} {z zv:Value} {aT:Array TypeId} (hx:ev e y= .slice (a.map (·.add (i*1))) (m-i) cc) (hA:aT[0]? =some T) (hT:P.underlying T=some (.slice E)) (hz:(P.info? E).bind (·.zero)=some zv) (hc:zv.cells=#[z]) (h1:z.oneCell'=true) (hO:Own w B E 1 a m c (lst f m)) (hi:i<m)
  (k:∀w1,Own w1 B E 1 a m c (lst (fun j=>if i <=j then z else f j) m)->N4 w w1 B [E]->L P n ops Q rest e w1):L P n ops Q (⟨none,.call ⟨.builtin .clear,#[y],aT⟩,ty,ps,af,none⟩::rest) e w:=by
 have ha:=hO.ga0 (by omega);obtain⟨r,rfl⟩:=hO.oq0 ha;obtain⟨cur,hB,hb,hnc,hcm,hcs,ht⟩:=hO.row ha;simp only[ab,Option.map_some,Option.getD_some,Nat.mul_one]at hB hb hx hcs ht;have hx:ev e y= .slice (some ⟨r,i,none⟩) (m-i) cc:=by rw[hx,Addr.add_lit,Nat.zero_add]
 refine L.va0 (Wp0 hx hA hT hz hc h1 hB (by omega) (by omega)) (k _ ?_ ?_)
 ·have hs:=zv0 f z i (m-i) cur (by omega);refine⟨by rw[du0];omega,.inr ⟨r,c,_,rfl,hb,il0 _ _ _ hB,hnc,hcm,by rw[hs.1];omega,?_⟩⟩;rw[Nat.mul_one];apply List.ext_getElem?;intro j;have h2:=hs.2 j;rw[List.getElem?_take,Array.getElem?_toList];by_cases hj:j<m
  ·rw[if_pos hj,h2,dt0 hj];by_cases hij:i <=j
   ·rw[if_pos (by omega),if_pos hij]
   ·rw[if_neg (by omega),if_neg hij];have h3:(cur.toList.take m)[j]? =(lst f m)[j]?:=by rw[ht]
    rw[dt0 hj,List.getElem?_take,if_pos hj,Array.getElem?_toList]at h3;exact h3
  ·rw[if_neg hj,List.getElem?_eq_none (by rw[du0];omega)]
 ·exact N4.put hB (My0 (gc0 w (some r)) (.inl rfl) _ _) hb (by simp)
end
end Go.Vy
end
section
namespace Go.Vy.Sc
open Go Go.Conc Go.Yc Go.RowKit Go.Proofs Go.Proofs.YtinppmaojmdmhaaGreat Tryz
open Go.Vc Go.Wg
def bi0 (h:Int) (b:UInt8):Int:=IntKind.u64.wrap (IntKind.u64.wrap ((BitVec.ofInt IntKind.u64.bits h ^^^ BitVec.ofInt IntKind.u64.bits (IntKind.u64.wrap (b.toNat:Int))).toNat:Int)*1099511628211)
def lo0 (h:Int) (l:List UInt8):Int:=l.foldl bi0 h
def hsh (s:ByteArray):Int:=lo0 14695981039346656037 s.data.toList
theorem Wq0 (h:Int) (b:UInt8):0 <=bi0 h b/\bi0 h b<18446744073709551616:=by
 unfold bi0;rw[IntKind.wrap_u64];omega
theorem ap1 (s:ByteArray):0 <=hsh s/\hsh s<18446744073709551616:=by
 unfold hsh lo0;have key:∀(l:List UInt8) (h:Int),0 <=h/\h<18446744073709551616->0 <=l.foldl bi0 h/\l.foldl bi0 h<18446744073709551616:=by
  intro l
  induction l with
  |nil=>exact fun h hh=>hh
  |cons b l ih=>exact fun h _=>ih _ (Wq0 h b)
 exact key _ _ (by decide)
theorem Wr0 {s:ByteArray} {i:Nat} {b:UInt8} (h:s.data.toList[i]? =some b):s[i]? =some b:=by
 obtain⟨hl,hv⟩:=List.getElem?_eq_some_iff.1 h;have hs:i<s.size:=by simpa using hl
 rw[getElem?_pos s i hs];congr 1
theorem Ip0 (s:ByteArray):s.data.toList.length=s.size:=by simp
theorem Kp0 {s:ByteArray} {i:Nat} {b:UInt8} {h:Int} (hb:s.data.toList[i]? =some b):bi0 (lo0 h (s.data.toList.take i)) b=lo0 h (s.data.toList.take (i+1)):=by
 unfold lo0;rw[List.take_succ_eq_append_getElem (List.getElem?_eq_some_iff.1 hb).1,List.foldl_append,(List.getElem?_eq_some_iff.1 hb).2];rfl
def M9 (n:Nat) (k:ByteArray):Nat:=(hsh k%(n:Int)).toNat
def slot (n:Nat) (k:ByteArray):Nat:=(hsh k/64%(n:Int)).toNat
theorem Iq0 {n:Nat} (h:0<n) (k:ByteArray):M9 n k<n:=by
 unfold M9;refine U511 ?_;intro h1 h2;omega
theorem lp0 {n:Nat} (h:0<n) (k:ByteArray):slot n k<n:=by
 unfold slot;refine U489 ?_;intro h1 h2;omega
theorem Ws0 {n:Nat} (h:0<n) (hn:n <=64) (k:ByteArray):IntKind.i64.wrap ((hsh k).tmod (IntKind.u64.wrap (n:Int)))=(M9 n k:Int):=by
 refine U511 ?_;intro h1 h2;have h3:IntKind.u64.wrap (n:Int)=(n:Int):=by rw[IntKind.wrap_u64];omega
 rw[h3,Int.tmod_eq_emod_of_nonneg (ap1 k).1,IntKind.wrap_i64];unfold M9;omega
theorem Wt0 {n:Nat} (h:0<n) (hn:n <=1000000) (k:ByteArray):IntKind.i64.wrap ((IntKind.u64.wrap ((hsh k).tdiv 64)).tmod (IntKind.u64.wrap (n:Int)))=(slot n k:Int):=by
 have h0:=ap1 k;refine U489 ?_;intro h1 h2;have h3:IntKind.u64.wrap (n:Int)=(n:Int):=by rw[IntKind.wrap_u64];omega
 have h4:(hsh k).tdiv 64=hsh k/64:=Int.tdiv_eq_ediv_of_nonneg h0.1;have h5:IntKind.u64.wrap (hsh k/64)=hsh k/64:=by rw[IntKind.wrap_u64];omega
 rw[h3,h4,h5,Int.tmod_eq_emod_of_nonneg (by omega),IntKind.wrap_i64];unfold slot;omega
section
variable [Ctx prog]
theorem Rb0 (h:Int) (s:ByteArray) (hs:s.size <=1000000000000) (w0:World):C prog 153 #[.int .u64 h,.string s] w0 fun v w=>v= .int .u64 (lo0 h s.data.toList)/\w=w0:=by
 refine C.enter (n:=20) func153 rfl rfl ?_;refine U145 ?_;refine U333 ?_;refine L.va (Qy0 rfl underlying9 rfl) ?_;refine U51 ?_;refine W.loop (fun k e w=>∃(i:Nat),k=s.size-i/\e 0= .int .u64 (lo0 h (s.data.toList.take i))/\e 1= .string s/\e 7= .int .i64 (s.size:Nat)/\e 8= .int .i64 (i:Nat)/\i <=s.size/\w=w0) _ ⟨0,rfl,rfl,rfl,rfl,rfl,Nat.zero_le _,rfl⟩ ?_;rintro k e w ⟨i,hk,s0,s1,s7,s8,hi,hw⟩;refine U522 ?_;refine U20 ?_;refine W.w6 rfl (fun h9=>?_) (fun h9=>?_)
 ·have J1:i<s.size:=by omega
  obtain⟨b,hb⟩:∃b,s.data.toList[i]? =some b:=⟨_,List.getElem?_eq_getElem (by rw[Ip0];exact J1)⟩
  refine U140 ?_;refine U126 ?_;refine L.va v5 ?_;refine L.va (C4 rfl) ?_;refine L.va (Qz0 rfl rfl underlying9 (Wr0 hb)) ?_;refine L.va (cb0 rfl underlying5 underlying140) ?_;refine L.va (em1 rfl rfl) ?_;refine L.va (v:=.int .u64 (lo0 h (s.data.toList.take (i+1)))) (by rw[<- Kp0 hb];exact vx0 rfl rfl) ?_;refine L.va E7 ?_;refine L.nil ?_;refine U107 ?_;refine U189 ?_;refine U13 ?_;exact⟨_,by omega,⟨i+1,rfl,rfl,rfl,rfl,rfl,J1,hw⟩⟩
 ·refine W.exit ?_;refine U21 ?_;refine L.va v5 ?_;refine U141 ?_;refine⟨?_,hw⟩;have hie:i=s.size:=by omega
  show Value.int .u64 (lo0 h (s.data.toList.take i))=_;rw[hie,<- Ip0,List.take_length]
theorem Rc0 (s:ByteArray) (hs:s.size <=1000000000000) (w0:World):C prog 132 #[.string s] w0 fun v w=>v= .int .u64 (hsh s)/\w=w0:=by
 refine C.enter (n:=5) func132 rfl rfl ?_;refine U145 ?_;refine U130 ?_;refine L.call (P2 rfl rfl func153 rfl lg1 rfl) (Rb0 _ s hs _) ?_;rintro _ w ⟨rfl,rfl⟩;refine U19 ?_;exact U29
theorem Wu0 (s:ByteArray) (n:Nat) (hs:s.size <=1000000000000) (h0:0<n) (hn:n <=64) (w0:World):C prog 91 #[.string s,.int .i64 (n:Int)] w0 fun v w=>v= .int .i64 (M9 n s:Int)/\w=w0:=by
 refine C.enter (n:=17) func91 rfl rfl ?_;refine U42 ?_;refine U14 ?_;refine U479 ?_;refine U80 ?_;refine U455 ?_;refine U25 ?_;refine L.va v5 ?_;refine L.call (K2 rfl func132 rfl Zr0 rfl) (Rc0 s hs _) ?_;rintro _ w ⟨rfl,rfl⟩;refine L.va (C4 rfl) ?_;refine L.va (cb0 rfl underlying3 underlying140) ?_;refine L.va (jq0 rfl rfl (by rw[IntKind.wrap_u64];omega)) ?_;refine L.va (v:=.int .i64 (M9 n s:Int)) (by rw[<- Ws0 h0 hn s];exact cb0 rfl underlying140 underlying3) ?_;refine U5 ?_;exact U29
theorem Wv0 (a:Option Addr) (n c:Nat) (ct md:Int) (s:ByteArray) (hs:s.size <=1000000000000) (h0:0<n) (hn:n <=1000000) (w0:World):C prog 93 #[.agg #[.slice a n c,.int .i64 ct,.int .i64 md],.string s] w0 fun v w=>v= .int .i64 (slot n s:Int)/\Below w0.heap.size w0 w:=by
 refine C.enter (n:=14) func93 rfl rfl ?_;refine U1 ?_;intro hb;refine U296 ?_;intro w b2 F2 lt2 hb;have A2:=F2.blk;refine U5 ?_;refine U273 ?_;refine D.va (fun w' L1=>v5) ?_;refine D.call (fun w' L1=>(K2 rfl func132 rfl Zr0 rfl)) (fun w' L1=>((Rc0 s hs w').mono fun r w h=>⟨h.1,by rw[h.2];exact L1⟩)) ?_;refine D.va (fun w' L1=>(Bi0 rfl rfl (by decide))) ?_;refine D.va (fun w' L1=>(B0 rfl underlying97 rfl qa0 (by decide))) ?_;refine D.va (fun w' L1=>(A0 rfl underlying95 rfl ((A2.j0 L1).q0 0 (v:=.slice a n c) rfl))) ?_;refine D.va (fun w' L1=>(M6 rfl underlying95 rfl)) ?_;refine D.va (fun w' L1=>(cb0 rfl underlying3 underlying140)) ?_;refine D.va (fun w' L1=>(jq0 rfl rfl (by rw[IntKind.wrap_u64];omega))) ?_;refine D.va (fun w' L1=>(Wt0 h0 hn s)▸cb0 rfl underlying140 underlying3) ?_;refine D.va (fun w' L1=>(gt0 rfl)) ?_;refine U38 ?_;intro w O2 hb;clear O2;show W _ _ _ _ _ _;exact U49
end
def st1 (w:World) (ky:Nat->ByteArray) (b:Nat):Prop:=(ky b).size <=1000000000000/\∃nm lt us,K0 w b #[.string (ky b),.int .i64 nm,.pointer lt,.pointer us] 127
def ptr (b:Nat):Value:=.pointer (some ⟨b,0,none⟩)
structure as0 (w:World) (ky:Nat->ByteArray) (l:List Nat):Prop where
 all:∀b∈l,st1 w ky b
theorem as0.j0 {w w':World} {ky:Nat->ByteArray} {l:List Nat} (h:as0 w ky l) (hb:Below w.heap.size w w'):as0 w' ky l :=
 ⟨fun b hl=>let⟨h1,nm,lt,us,h2⟩:=h.all b hl;⟨h1,nm,lt,us,h2.j0 hb⟩⟩
theorem as0.sub {w:World} {ky:Nat->ByteArray} {l l':List Nat} (h:as0 w ky l) (hs:∀b∈l',b∈l):as0 w ky l':=⟨fun b hb=>h.all b (hs b hb)⟩
structure Bk (w:World) (B n:Nat) (a:Option Addr) (c:Nat) (sl:Nat->List Nat) (ia:Nat->Option Addr) (ic:Nat->Nat):Prop where
 out:Own w B 195 1 a n c (lst (fun j=>.slice (ia j) (sl j).length (ic j)) n)
 inn:∀j,j<n->Own w B 71 1 (ia j) (sl j).length (ic j) ((sl j).map ptr)
section
variable {w w':World}{B n c:Nat}{a:Option Addr}{sl:Nat->List Nat}{ia:Nat->Option Addr}{ic:Nat->Nat}
theorem Bk.j0 (h:Bk w B n a c sl ia ic) (hb:Below w.heap.size w w'):Bk w' B n a c sl ia ic:=⟨h.out.j0 hb,fun j hj=>(h.inn j hj).j0 hb⟩
theorem Bk.down {B':Nat} (h:Bk w B' n a c sl ia ic) (hB:B <=B'):Bk w B n a c sl ia ic:=⟨h.out.down hB,fun j hj=>(h.inn j hj).down hB⟩
theorem Bk.other {b:Nat} {cs:Array Value} {T:TypeId} (h:Bk w B n a c sl ia ic) (hg:w.grownBy w' (some b)) (hB:K0 w b cs T) (hT:T≠195/\T≠71):Bk w' B n a c sl ia ic :=
 ⟨h.out.j6 hg (Own.Cm0 h.out (P3 hB) hT.1.symm),fun j hj=>(h.inn j hj).j6 hg (Own.Cm0 (h.inn j hj) (P3 hB) hT.2.symm)⟩
theorem Bk.congr (h:Bk w B n a c sl ia ic) (ho:a≠none->w'.heap[ab a]? =w.heap[ab a]?) (hi:∀j,j<n->ia j≠none->w'.heap[ab (ia j)]? =w.heap[ab (ia j)]?):Bk w' B n a c sl ia ic:=⟨Own.congr h.out ho,fun j hj=>Own.congr (h.inn j hj) (hi j hj)⟩
end
def fnd (ky:Nat->ByteArray) (l:List Nat) (k:ByteArray):Option Nat:=l.find? fun b=>decide (ky b=k)
def nl1:Option Nat->Value
 |some b=>ptr b
 |none=>.pointer none
theorem en1 {ky:Nat->ByteArray} {l:List Nat} {k:ByteArray} {i b:Nat} (hb:l[i]? =some b) (hk:ky b=k) (hn:∀j,j<i->∀b,l[j]? =some b->ky b≠k):fnd ky l k=some b:=by
 unfold fnd
 induction l generalizing i with
 |nil=>cases hb
 |cons x l ih=>
  cases i with
  |zero=>cases hb;simp[hk]
  |succ i=>
   have h0:=hn 0 (Nat.zero_lt_succ _) x rfl;rw[List.find?_cons_of_neg (by simpa using h0)];exact ih hb fun j hj b hb=>hn (j+1) (by omega) b (by simpa using hb)
theorem Rd0 {ky:Nat->ByteArray} {l:List Nat} {k:ByteArray} (hn:∀j,j<l.length->∀b,l[j]? =some b->ky b≠k):fnd ky l k=none:=by
 unfold fnd;rw[List.find?_eq_none];intro b hb;obtain⟨j,hj⟩:=List.getElem?_of_mem hb;simpa using hn j (List.getElem?_eq_some_iff.1 hj).1 b hj
section
variable [Ctx prog]
theorem Re0 (ky:Nat->ByteArray) (b kb:Nat) (q:ByteArray) (nm:Int) (lt us:Option Addr) (w0:World) (hB:K0 w0 b #[.string (ky b),.int .i64 nm,.pointer lt,.pointer us] 127) (hK:K0 w0 kb #[.string q] 9) :
  C prog 94 #[.pointer (some ⟨b,0,none⟩),.pointer (some ⟨kb,0,none⟩)] w0 fun v w=>v= .bool (decide (ky b=q))/\Below w0.heap.size w0 w:=by
 refine C.enter (n:=10) func94 rfl rfl ?_;have hb:Below w0.heap.size w0 w0:=Below.refl _ _;generalize w0=w at *;refine U0 ?_;refine U7 ?_;refine U273 ?_;refine U60 ?_;refine D.va (fun w' L1=>(B0 rfl underlying127 rfl sz9 (by decide))) ?_;refine D.va (fun w' L1=>(A0 rfl underlying9 rfl ((hB.j0 L1).q0 0 (v:=.string (ky b)) rfl))) ?_;refine D.va (fun w' L1=>(A0 rfl underlying9 rfl ((hK.j0 L1).q0 0 (v:=.string q) rfl))) ?_;refine D.va (fun w' L1=>(Cp0 rfl rfl)) ?_;refine D.va (fun w' L1=>(no0 rfl)) ?_;refine U38 ?_;intro w O2 hb;clear O2;show W _ _ _ _ _ _;exact U49
theorem eo1 (ky:Nat->ByteArray) (Bl c kb:Nat) (a:Option Addr) (l:List Nat) (q:ByteArray) (hl:l.length <=1000000000000) (w0:World) (hO:Own w0 Bl 71 1 a l.length c (l.map ptr)) (hE:as0 w0 ky l) (hK:K0 w0 kb #[.string q] 9) :
  C prog 92 #[.slice a l.length c,.func (.func 94) #[] #[.pointer (some ⟨kb,0,none⟩)]] w0 fun v w=>v= .tuple #[nl1 (fnd ky l q),.bool (fnd ky l q).isSome]/\Below w0.heap.size w0 w:=by
 refine C.enter (n:=25) func92 rfl rfl ?_;refine U1 ?_;intro hb;refine U70 ?_;refine U6 ?_;refine U168 ?_;refine U51 ?_;refine W.loop (fun k e w=>∃(i:Nat),k=l.length-i/\e 0= .slice a l.length c/\e 1= .func (.func 94) #[] #[.pointer (some ⟨kb,0,none⟩)]/\e 9= .int .i64 (l.length:Nat)/\e 10= .int .i64 (i:Nat)/\i <=l.length/\(∀j,j<i->∀b,l[j]? =some b->ky b≠q)/\Own w Bl 71 1 a l.length c (l.map ptr)/\as0 w ky l/\K0 w kb #[.string q] 9/\Below w0.heap.size w0 w) _ ⟨0,rfl,rfl,rfl,rfl,rfl,Nat.zero_le _,(fun j hj=>absurd hj (Nat.not_lt_zero _)),hO,hE,hK,hb⟩ ?_;rintro k e w ⟨i,hk,s0,s1,s9,s10,hi,hn,hO,hE,hK,hb⟩;rw[P0 s0,P0 s1,P0 s9,P0 s10];clear s0 s1 s9 s10;refine U20 ?_;refine W.w6 rfl (fun h11=>?_) (fun h11=>?_)
 ·have J1:i<l.length:=by omega
  obtain⟨b,hb9⟩:∃b,l[i]? =some b:=⟨_,List.getElem?_eq_getElem J1⟩
  refine U140 ?_;refine U130 ?_;refine U288 ?_;refine L.va (A0 (v:=ptr b) rfl underlying71 rfl (by rw[hO.off,Nat.zero_add,Nat.mul_one];exact Own.cell hO (by rw[List.getElem?_map,hb9];rfl))) ?_;obtain⟨_,nm,lt,us,G7⟩:=hE.all b (List.mem_of_getElem? hb9);refine L.call (qv0 rfl rfl func94 rfl rp1) (Re0 ky b kb q nm lt us w G7 hK) ?_;rintro _ w ⟨rfl,O2⟩;clear G7;have hb:=G0 hb O2;have hO:=hO.j0 O2;have hE:=hE.j0 O2;have hK:=hK.j0 O2;clear O2;refine U3 ?_;refine W.w6 rfl (fun h18=>?_) (fun h18=>?_)
  ·refine W.seq ?_;refine W.region rfl ?_;refine U288 ?_;refine L.va (A0 (v:=ptr b) rfl underlying71 rfl (by rw[hO.off,Nat.zero_add,Nat.mul_one];exact Own.cell hO (by rw[List.getElem?_map,hb9];rfl))) ?_;refine U70 ?_;refine U210 ?_;have hf:=en1 hb9 h18 hn;exact⟨by rw[hf];rfl,hb⟩
  ·refine W.skip ?_;refine U107 ?_;refine U189 ?_;refine U13 ?_;exact⟨_,by omega,⟨i+1,rfl,rfl,rfl,rfl,rfl,J1,(fun j hj b2 hb2=>by
    rcases Nat.lt_succ_iff_lt_or_eq.1 hj with h|h
    ·exact hn j h b2 hb2
    ·rw[h,hb9]at hb2;cases hb2;exact h18),hO,hE,hK,hb⟩⟩
 ·refine W.exit ?_;refine U21 ?_;refine U18 ?_;refine U48 ?_;refine U70 ?_;refine U210 ?_;have hf:=Rd0 (ky:=ky) (l:=l) (k:=q) fun j hj=>hn j (by omega);exact⟨by rw[hf];rfl,hb⟩
theorem Ir0 (ky:Nat->ByteArray) (Bl n c:Nat) (a:Option Addr) (ct md:Int) (sl:Nat->List Nat) (ia:Nat->Option Addr) (ic:Nat->Nat) (q:ByteArray) (hk:q.size <=1000000000000) (h0:0<n) (hn:n <=1000000) (hsl:∀j,j<n->(sl j).length <=1000000000000) (w0:World) (hB:Bk w0 Bl n a c sl ia ic) (hE:as0 w0 ky (sl (slot n q))) :
  C prog 54 #[.agg #[.slice a n c,.int .i64 ct,.int .i64 md],.string q] w0 fun v w=>v= .tuple #[nl1 (fnd ky (sl (slot n q)) q),.bool (fnd ky (sl (slot n q)) q).isSome]/\Below w0.heap.size w0 w:=by
 refine C.enter (n:=17) func54 rfl rfl ?_;have hb:Below w0.heap.size w0 w0:=Below.refl _ _;have hj:=lp0 h0 q;refine U0 ?_;refine U296 ?_;intro w b2 F2 lt2 hb;have hB:=hB.j0 F2.below;have hE:=hE.j0 F2.below;have A2:=F2.blk;refine L.box (cs:=#[.string q]) rfl rfl (fun w b3 F3=>?_);refine U133 ?_;intro lt3 hb;have hB:=hB.j0 F3.below;have hE:=hE.j0 F3.below;have A2:=A2.j0 F3.below;have Z7:=F3.blk;refine U70 ?_;refine W.seq ?_;refine W.fl 11 [4,8] [0,1,2,3,7,4,5,6,8,9,10] (fun w'=>K0 w' b2 #[.slice a n c,.int .i64 ct,.int .i64 md] 97/\K0 w' b3 #[.string q] 9/\Bk w' Bl n a c sl ia ic) (by kernel_rfl) (by kernel_rfl) (by kernel_rfl) (by kernel_rfl) (by kernel_rfl) (⟨A2.j0 (Below.refl w.heap.size w).drew,Z7.j0 (Below.refl w.heap.size w).drew,hB.j0 (Below.refl w.heap.size w).drew⟩) ?_;refine U17 ?_;intro V3 hb;have hB:=hB.j0 V3;have hE:=hE.j0 V3;have A2:=A2.j0 V3;have Z7:=Z7.j0 V3;clear V3;generalize w.drew=w at *;refine F.va rfl rfl (fun w' L1=>(B0 rfl underlying97 rfl qa0 (by decide))) ?_;refine F.va rfl rfl (fun w' L1=>(A0 rfl underlying95 rfl (L1.1.q0 0 (v:=.slice a n c) rfl))) ?_;refine F.va rfl rfl (fun w' L1=>(D2 (cs:=[.slice a n c,.int .i64 ct,.int .i64 md]) rfl underlying97 rfl o8 rfl (L1.1.T6 rfl))) ?_;refine F.va rfl rfl (fun w' L1=>(A0 rfl underlying9 rfl (L1.2.1.q0 0 (v:=.string q) rfl))) ?_;refine F.va rfl rfl (fun w' L1=>(u5 (l:=[.tmp 3]) (vs:=[.pointer (some ⟨b3,0,none⟩)]) rfl)) ?_;refine F.doo rfl rfl ?_;refine L.call (P2 rfl rfl func93 rfl Vl0 rfl) (Wv0 a n c ct md q hk h0 hn _) ?_;rintro _ w ⟨rfl,O2⟩;have hb:=G0 hb O2;have hB:=hB.j0 O2;have hE:=hE.j0 O2;refine U105 ?_;intro A2 Z7;refine L.nil ⟨rfl,⟨A2,Z7,hB⟩,?_⟩;refine F.va rfl rfl (fun w' L1=>(S5 (i:=slot n q) rfl rfl underlying95 ff0 hB.out.sl hj)) ?_;refine F.va rfl rfl (fun w' L1=>(A0 (v:=.slice (ia (slot n q)) (sl (slot n q)).length (ic (slot n q))) rfl underlying195 rfl (Own.at1 (Bk.out L1.2.2) hj))) ?_;refine F.doo rfl rfl ?_;refine L.call (P2 rfl rfl func92 rfl ro1 rfl) (eo1 ky Bl (ic (slot n q)) b3 (ia (slot n q)) (sl (slot n q)) q (hsl _ hj) _ (hB.inn _ hj) hE Z7) ?_;rintro _ w ⟨rfl,O2⟩;have hb:=G0 hb O2;have hB:=hB.j0 O2;refine U105 ?_;intro A2 Z7;refine L.nil ⟨rfl,⟨A2,Z7,hB⟩,?_⟩;refine U352 ?_;refine U8 ?_;refine L.va E7 ?_;refine U7 ?_;refine U210 ?_;exact⟨rfl,hb⟩
end
theorem Cr0 {w:World} {B n c s:Nat} {E:TypeId} {xs:List Value} (h:Own w B E s none n c xs):n=0/\c=0/\xs=[]:=by
 have hl:=h.length;rcases h.2 with⟨hv,h0⟩|⟨g,cap,cur,hv,_⟩
 ·cases hv;exact⟨rfl,rfl,List.eq_nil_of_length_eq_zero (by simpa using hl)⟩
 ·cases hv
def wo (l:List Nat) (e:Nat):List Nat:=l.filter fun b=>decide (b≠e)
theorem Rf0 (l l':List Nat) (e:Nat):wo (l++l') e=wo l e++wo l' e:=List.filter_append ..
theorem ep1 (b e:Nat):wo [b] e=if b=e then [] else [b]:=by
 unfold wo;by_cases h:b=e <;> simp[h]
theorem ot0 {l:List Nat} {p b e:Nat} (hb:l[p]? =some b):wo (l.take (p+1)) e=wo (l.take p) e++(if b=e then [] else [b]):=by
 obtain⟨h1,h2⟩:=List.getElem?_eq_some_iff.1 hb;rw[List.take_succ_eq_append_getElem h1,Rf0,ep1,h2]
theorem yc0 (l:List Nat) (e:Nat):(wo l e).length <=l.length:=List.length_filter_le ..
theorem Ww0 {l:List Nat} {e:Nat} (h:∀j,j<l.length->∀b,l[j]? =some b->b≠e):wo l e=l:=by
 unfold wo;rw[List.filter_eq_self];intro b hb;obtain⟨j,hj⟩:=List.getElem?_of_mem hb;simpa using h j (List.getElem?_eq_some_iff.1 hj).1 b hj
theorem nn1 {l:List Nat} {e p:Nat} (hp:l[p]? =some e) {q:Nat} (hq:p<q) (hl:q <=l.length):(wo (l.take q) e).length<q:=by
 have h1:l.take q=l.take (p+1)++(l.drop (p+1)).take (q-(p+1)):=by
  rw[<- List.take_add,show p+1+(q-(p+1))=q by omega]
 rw[h1,Rf0,List.length_append,ot0 hp,if_pos rfl,List.append_nil];have h2:=yc0 (l.take p) e;have h3:=yc0 ((l.drop (p+1)).take (q-(p+1))) e;rw[List.length_take]at h2 h3;rw[List.length_drop]at h3;omega
structure Del (l:List Nat) (e p i:Nat) (g:Nat->Value):Prop where
 i:i=(wo (l.take p) e).length
 lo:∀j b,(wo (l.take p) e)[j]? =some b->g j=ptr b
 hi:∀j b,p <=j->l[j]? =some b->g j=ptr b
theorem Kq0 {l:List Nat} {e i:Nat} (hi:l[i]? =some e) (hn:∀j,j<i->∀b,l[j]? =some b->b≠e):Del l e (i+1) i fun j=>ptr (l.getD j 0):=by
 have M7:=(List.getElem?_eq_some_iff.1 hi).1;have h1:wo (l.take i) e=l.take i:=Ww0 fun j hj b hb=>by
  rw[List.length_take]at hj;rw[List.getElem?_take]at hb;split at hb
  ·exact hn j (by omega) b hb
  ·cases hb
 have h2:wo (l.take (i+1)) e=l.take i:=by rw[ot0 hi,if_pos rfl,List.append_nil,h1]
 refine⟨by rw[h2,List.length_take];omega,fun j b hb=>?_,fun j b _ hb=>by rw[List.getD_eq_getElem?_getD,hb];rfl⟩;rw[h2,List.getElem?_take]at hb;split at hb
 ·rw[List.getD_eq_getElem?_getD,hb];rfl
 ·cases hb
theorem Del.skip {l:List Nat} {e p i:Nat} {g:Nat->Value} (h:Del l e p i g) (hp:l[p]? =some e):Del l e (p+1) i g:=by
 have h2:wo (l.take (p+1)) e=wo (l.take p) e:=by rw[ot0 hp,if_pos rfl,List.append_nil]
 exact⟨by rw[h2];exact h.i,fun j b hb=>h.lo j b (by rw[<- h2];exact hb),fun j b hj hb=>h.hi j b (by omega) hb⟩
theorem Del.put {l:List Nat} {e p i b:Nat} {g:Nat->Value} (h:Del l e p i g) (hp:l[p]? =some b) (hb:b≠e):Del l e (p+1) (i+1) (upf g i (ptr b)):=by
 have h2:wo (l.take (p+1)) e=wo (l.take p) e ++ [b]:=by rw[ot0 hp,if_neg hb]
 have hip:i <=p:=by have:=h.i;have:=yc0 (l.take p) e;rw[List.length_take]at this;omega
 refine⟨by rw[h2,List.length_append,<- h.i];rfl,fun j b' hj=>?_,fun j b' hj p7=>?_⟩
 ·rw[h2]at hj;unfold upf;by_cases O3:j=i
  ·rw[if_pos O3];rw[O3,h.i,List.getElem?_append_right (Nat.le_refl _),Nat.sub_self]at hj;cases hj;rfl
  ·rw[if_neg O3];by_cases J1:j<(wo (l.take p) e).length
   ·rw[List.getElem?_append_left J1]at hj;exact h.lo j b' hj
   ·rw[List.getElem?_eq_none (by rw[List.length_append];have:=h.i;simp;omega)]at hj;cases hj
 ·unfold upf;rw[if_neg (by omega)];exact h.hi j b' (by omega) p7
theorem Del.done {l:List Nat} {e i:Nat} {g:Nat->Value} {z:Value} (h:Del l e l.length i g):(lst (fun j=>if i <=j then z else g j) l.length).take i=(wo l e).map ptr:=by
 have hw:wo (l.take l.length) e=wo l e:=by rw[List.take_length]
 have hi:=h.i;rw[hw]at hi;have M7:i <=l.length:=by rw[hi];exact yc0 l e
 apply List.ext_getElem?;intro j;rw[List.getElem?_take];by_cases hj:j<i
 ·obtain⟨b,hb⟩:∃b,(wo l e)[j]? =some b:=⟨_,List.getElem?_eq_getElem (by omega)⟩
  rw[if_pos hj,dt0 (by omega),if_neg (by omega),List.getElem?_map,hb,h.lo j b (by rw[hw];exact hb)];rfl
 ·rw[if_neg hj,List.getElem?_eq_none (by rw[List.length_map];omega)]
theorem Wx0 (l:List Nat):l.map ptr=lst (fun j=>ptr (l.getD j 0)) l.length:=by
 apply List.ext_getElem?;intro j;by_cases hj:j<l.length
 ·rw[dt0 hj,List.getElem?_map,List.getElem?_eq_getElem hj,List.getD_eq_getElem?_getD,List.getElem?_eq_getElem hj];rfl
 ·rw[List.getElem?_eq_none (by rw[List.length_map];omega),List.getElem?_eq_none (by rw[du0];omega)]
section
variable [Ctx prog]
omit [Ctx prog] in
theorem qw0 {B:Nat} {w0 w w':World} (h:Below B w0 w) (hb:Below B w w'):Below B w0 w':=⟨hb.os.trans h.os,hb.tape.trans h.tape,hb.output.trans h.output,Nat.le_trans h.size hb.size,fun k hk=>(hb.block k hk).trans (h.block k hk)⟩
theorem Cs0 (Bl n c:Nat) (ad:Addr) (xs:List Value) (hn:n <=1000000) (w0:World) (hO:Own w0 Bl 195 1 (some ad) n c xs) (h1:∀u∈xs,u.oneCell'=true) :
  C prog 98 #[.slice (some ad) n c] w0 fun v w=>∃a' c',v= .slice a' n c'/\Own w w0.heap.size 195 1 a' n c' xs/\Below w0.heap.size w0 w:=by
 refine C.enter (n:=8) func98 rfl rfl ?_;refine U1 ?_;intro hb;refine U541 ?_;refine U25 ?_;refine L.Nk0 underlying95 ff0 (fun w b5 F5=>?_);refine U37 ?_;intro lt5 hb;have hO:=hO.j0 F5.below;have I2:=F5.blk;refine L.va (R9 rfl) ?_;have hO5:Own w w0.heap.size 195 1 (some ⟨b5,0,none⟩) 0 0 []:=Own.Bm0 I2 rfl lt5 (Nat.le_refl _) (Nat.zero_le _);refine L.E9 (B:=w0.heap.size) (m:=n) rfl rfl underlying95 nx0 rfl (by decide) hO5 (fun h=>by cases h) (news:=xs) hO.length (fun ad9 had j u hj=>Own.src hO (Nat.le_of_eq hO.length) (fun _ _ z=>z) ad9 had j u hj) h1 (by omega) (by omega) hb.size (fun a7 c7 w hl2 hg2 G1 hnn=>?_);have hb:=qw0 hb G1;refine U143 ?_;refine⟨a7,c7,?_,?_,hb⟩
 ·show Value.slice a7 (0+n) c7=_;rw[Nat.zero_add]
 ·rw[Nat.zero_add]at hl2;exact hl2
theorem Ct0 (w0:World):C prog 98 #[.slice none 0 0] w0 fun v w=>v= .slice none 0 0/\Below w0.heap.size w0 w:=by
 refine C.enter (n:=8) func98 rfl rfl ?_;refine U1 ?_;intro hb;refine U541 ?_;refine U33 ?_;refine U0 ?_;refine U108 ?_;exact U49
theorem is0 (Bl n c:Nat) (a:Option Addr) (xs:List Value) (hn:n <=1000000) (w0:World) (hO:Own w0 Bl 195 1 a n c xs) (h1:∀u∈xs,u.oneCell'=true) :
  C prog 98 #[.slice a n c] w0 fun v w=>∃a' c',v= .slice a' n c'/\Own w w0.heap.size 195 1 a' n c' xs/\Below w0.heap.size w0 w:=by
 cases a with
 |some ad=>exact Cs0 Bl n c ad xs hn w0 hO h1
 |none=>
  obtain⟨rfl,rfl,rfl⟩:=Cr0 hO;exact(Ct0 w0).mono fun v w h=>⟨none,0,h.1,Own.nil _ _ _ _,h.2⟩
theorem Cu0 (Bl n c:Nat) (ad:Addr) (xs:List Value) (hn:n <=1000000) (w0:World) (hO:Own w0 Bl 71 1 (some ad) n c xs) (h1:∀u∈xs,u.oneCell'=true) :
  C prog 100 #[.slice (some ad) n c] w0 fun v w=>∃a' c',v= .slice a' n c'/\Own w w0.heap.size 71 1 a' n c' xs/\Below w0.heap.size w0 w:=by
 refine C.enter (n:=8) func100 rfl rfl ?_;refine U1 ?_;intro hb;refine U538 ?_;refine U25 ?_;refine L.Nk0 underlying195 lg0 (fun w b5 F5=>?_);refine U37 ?_;intro lt5 hb;have hO:=hO.j0 F5.below;have I2:=F5.blk;refine L.va (R9 rfl) ?_;have hO5:Own w w0.heap.size 71 1 (some ⟨b5,0,none⟩) 0 0 []:=Own.Bm0 I2 rfl lt5 (Nat.le_refl _) (Nat.zero_le _);refine L.E9 (B:=w0.heap.size) (m:=n) rfl rfl underlying195 Of0 rfl (by decide) hO5 (fun h=>by cases h) (news:=xs) hO.length (fun ad9 had j u hj=>Own.src hO (Nat.le_of_eq hO.length) (fun _ _ z=>z) ad9 had j u hj) h1 (by omega) (by omega) hb.size (fun a7 c7 w hl2 hg2 G1 hnn=>?_);have hb:=qw0 hb G1;refine U143 ?_;refine⟨a7,c7,?_,?_,hb⟩
 ·show Value.slice a7 (0+n) c7=_;rw[Nat.zero_add]
 ·rw[Nat.zero_add]at hl2;exact hl2
theorem Cv0 (w0:World):C prog 100 #[.slice none 0 0] w0 fun v w=>v= .slice none 0 0/\Below w0.heap.size w0 w:=by
 refine C.enter (n:=8) func100 rfl rfl ?_;refine U1 ?_;intro hb;refine U538 ?_;refine U33 ?_;refine U0 ?_;refine U108 ?_;exact U49
theorem Cw0 (Bl n c:Nat) (a:Option Addr) (xs:List Value) (hn:n <=1000000) (w0:World) (hO:Own w0 Bl 71 1 a n c xs) (h1:∀u∈xs,u.oneCell'=true) :
  C prog 100 #[.slice a n c] w0 fun v w=>∃a' c',v= .slice a' n c'/\Own w w0.heap.size 71 1 a' n c' xs/\Below w0.heap.size w0 w:=by
 cases a with
 |some ad=>exact Cu0 Bl n c ad xs hn w0 hO h1
 |none=>
  obtain⟨rfl,rfl,rfl⟩:=Cr0 hO;exact(Cv0 w0).mono fun v w h=>⟨none,0,h.1,Own.nil _ _ _ _,h.2⟩
theorem aq1 (b e kb:Nat) (cs k7:Array Value) (hc:0<cs.size) (H8:0<k7.size) (w0:World) (hB:K0 w0 b cs 127) (hB':K0 w0 e k7 127) (hK:K0 w0 kb #[.pointer (some ⟨e,0,none⟩)] 71) :
  C prog 101 #[.pointer (some ⟨b,0,none⟩),.pointer (some ⟨kb,0,none⟩)] w0 fun v w=>v= .bool (decide (b=e))/\w=w0:=by
 refine C.enter (n:=7) func101 rfl rfl ?_;refine U0 ?_;refine U7 ?_;refine U48 ?_;refine L.va (A0 rfl underlying71 rfl (hK.q0 0 (v:=.p e) rfl)) ?_;refine L.va (qu0 rfl rfl underlying71 Oi0 rfl hB hB' hc H8) ?_;refine U7 ?_;exact U29
theorem eq1 (Bl c kb e0:Nat) (a:Option Addr) (l:List Nat) (hl:l.length <=1000000000000) (he:e0∈l) (ky:Nat->ByteArray) (w0:World) (hO:Own w0 Bl 71 1 a l.length c (l.map ptr)) (hE:as0 w0 ky l) (hK:K0 w0 kb #[.pointer (some ⟨e0,0,none⟩)] 71) :
  C prog 134 #[.slice a l.length c,.func (.func 101) #[] #[.pointer (some ⟨kb,0,none⟩)]] w0 fun v w'=>∃i,v= .int .i64 ((i:Nat):Int)/\l[i]? =some e0/\(∀j,j<i->∀b,l[j]? =some b->b≠e0)/\w'=w0:=by
 refine C.enter (n:=19) func134 rfl rfl ?_;refine U42 ?_;refine U6 ?_;refine U168 ?_;refine U51 ?_;refine W.loop (fun k e w=>∃(i:Nat),k=l.length-i/\e 0= .slice a l.length c/\e 1= .func (.func 101) #[] #[.pointer (some ⟨kb,0,none⟩)]/\e 7= .int .i64 (l.length:Nat)/\e 8= .int .i64 (i:Nat)/\i <=l.length/\(∀j,j<i->∀b,l[j]? =some b->b≠e0)/\w=w0) _ ⟨0,rfl,rfl,rfl,rfl,rfl,Nat.zero_le _,(fun j hj=>absurd hj (Nat.not_lt_zero _)),rfl⟩ ?_;rintro k e w ⟨i,hk,s0,s1,s7,s8,hi,hn,hw⟩;refine U522 ?_;subst hw;refine U20 ?_;refine W.w6 rfl (fun h9=>?_) (fun h9=>?_)
 ·have J1:i<l.length:=by omega
  obtain⟨b,hb9⟩:∃b,l[i]? =some b:=⟨_,List.getElem?_eq_getElem J1⟩
  refine U140 ?_;refine U130 ?_;refine U288 ?_;refine L.va (A0 (v:=ptr b) rfl underlying71 rfl (by rw[hO.off,Nat.zero_add,Nat.mul_one];exact hO.cell (by rw[List.getElem?_map,hb9];rfl))) ?_;obtain⟨_,nm1,lt1,us1,G7⟩:=hE.all b (List.mem_of_getElem? hb9);obtain⟨_,nm2,lt2,us2,hE8⟩:=hE.all e0 he;refine L.call (qv0 rfl rfl func101 rfl Zn0) (aq1 b e0 kb _ _ (by simp) (by simp) w G7 hE8 hK) ?_;rintro _ w9 ⟨rfl,hw9⟩;rw[hw9];clear hw9 w9 G7 hE8;refine U3 ?_;refine W.w6 rfl (fun h16=>?_) (fun h16=>?_)
  ·refine W.seq ?_;refine U68 ?_;refine U138 ?_;have hbe:b=e0:=h16;subst hbe;exact⟨i,rfl,hb9,hn,rfl⟩
  ·refine W.skip ?_;refine U107 ?_;refine U189 ?_;refine U13 ?_;exact⟨_,by omega,⟨i+1,rfl,rfl,rfl,rfl,rfl,J1,(fun j hj b2 hb2=>by
    rcases Nat.lt_succ_iff_lt_or_eq.1 hj with h|h
    ·exact hn j h b2 hb2
    ·rw[h,hb9]at hb2;cases hb2;exact h16),rfl⟩⟩
 ·refine W.exit ?_;refine U21 ?_;refine U138 ?_;exfalso;obtain⟨j,hj⟩:=List.getElem?_of_mem he;exact hn j (by have:=(List.getElem?_eq_some_iff.1 hj).1;omega) e0 hj rfl
omit [Ctx prog] in
theorem as0.no1 {w w':World} {Bl:Nat} {TS:List TypeId} {ky:Nat->ByteArray} {l:List Nat} (h:as0 w ky l) (hm:N4 w w' Bl TS) (hT:TS.contains 127=false):as0 w' ky l :=
 ⟨fun b hl=>let⟨h1,nm,lt,us,h2⟩:=h.all b hl;⟨h1,nm,lt,us,h2.mod hm hT⟩⟩
omit [Ctx prog] in
theorem N4.refl (w:World) (Bl:Nat) (TS:List TypeId):N4 w w Bl TS:=⟨rfl,rfl,rfl,Nat.le_refl _,fun _ _=>rfl,fun _ _ _ h _=>h⟩
set_option maxHeartbeats 1000000 in
theorem np1 (Bl c kb e0:Nat) (a:Option Addr) (l:List Nat) (hl:l.length <=1000000000000) (he:e0∈l) (ky:Nat->ByteArray) (w0:World) (hO:Own w0 Bl 71 1 a l.length c (l.map ptr)) (hE:as0 w0 ky l) (hK:K0 w0 kb #[.pointer (some ⟨e0,0,none⟩)] 71) (hkb:kb<Bl) (N2:Bl <=w0.heap.size) :
  C prog 99 #[.slice a l.length c,.func (.func 101) #[] #[.pointer (some ⟨kb,0,none⟩)]] w0 fun v w=>v= .slice a (wo l e0).length c/\Own w Bl 71 1 a (wo l e0).length c ((wo l e0).map ptr)/\N4 w0 w Bl [71]:=by
 refine C.enter (n:=42) func99 rfl rfl ?_;refine U0 ?_;refine U73 ?_;refine L.va (R9 rfl) ?_;refine L.va v5 ?_;refine L.call (P2 rfl rfl func134 rfl lb1 rfl) (eq1 Bl c kb e0 a l hl he ky w0 hO hE hK) ?_;rintro _ w9 ⟨x0,rfl,hx,hxn,hw9⟩;refine U30 ?_;have hxl:=(List.getElem?_eq_some_iff.1 hx).1;refine U5 ?_;refine U14 ?_;refine L.va (R5 (r:=false) (decide_eq_false (by omega)) (S9 rfl rfl)) ?_;refine U85 ?_;refine U14 ?_;refine L.va (eh0 rfl rfl (by omega)) ?_;refine U53 ?_;refine W.loop (fun k e w=>∃(p:Nat),∃(i:Nat),∃(g:Nat->Value),k=l.length-p/\e 0= .slice a l.length c/\e 1= .func (.func 101) #[] #[.pointer (some ⟨kb,0,none⟩)]/\e 5= .int .i64 (i:Nat)/\e 6= .int .i64 (p:Nat)/\p <=l.length/\Del l e0 p i g/\x0<p/\Own w Bl 71 1 a l.length c (lst g l.length)/\as0 w ky l/\K0 w kb #[.pointer (some ⟨e0,0,none⟩)] 71/\N4 w0 w Bl [71]/\Bl <=w.heap.size) _ ⟨(x0+1),x0,(fun j=>ptr (l.getD j 0)),rfl,rfl,rfl,rfl,rfl,(by omega),(Kq0 hx hxn),(Nat.lt_succ_self _),(Wx0 l▸hO),hE,hK,(N4.refl _ _ _),N2⟩ ?_;rintro k e w ⟨p,i,g,hk,s0,s1,s5,s6,hp,hD,hx0,hO,hE,hK,hm,N2⟩;rw[P0 s0,P0 s1,P0 s5,P0 s6];clear s0 s1 s5 s6;refine U14 ?_;refine U168 ?_;refine U61 ?_;refine W.w6 rfl (fun h19=>?_) (fun h19=>?_)
 ·have J1:p<l.length:=by omega
  obtain⟨b,hb9⟩:∃b,l[p]? =some b:=⟨_,List.getElem?_eq_getElem J1⟩
  refine U24 ?_;refine U23 ?_;refine L.va (S5 (i:=p) rfl rfl underlying195 lg0 hO.sl J1) ?_;refine L.va (A0 (v:=ptr b) rfl underlying71 rfl (by rw[hO.at1 J1,hD.hi p b (Nat.le_refl _) hb9])) ?_;refine U41 ?_;refine U430 ?_;obtain⟨_,nm1,lt1,us1,G7⟩:=hE.all b (List.mem_of_getElem? hb9);obtain⟨_,nm2,lt2,us2,hE8⟩:=hE.all e0 he;refine L.call (qv0 rfl rfl func101 rfl Zn0) (aq1 b e0 kb _ _ (by simp) (by simp) w G7 hE8 hK) ?_;rintro _ w9 ⟨rfl,hw9⟩;rw[hw9];clear hw9 w9 G7 hE8;refine L.va (nq0 rfl) ?_;refine U3 ?_;refine W.cond rfl (fun h29=>?_) (fun h29=>?_)
  ·have h29:b≠e0:=by simpa using h29
   refine U0 ?_;refine U23 ?_;refine L.va (H3 rfl) ?_;refine L.va (S5 (i:=i) rfl rfl underlying195 lg0 hO.sl (by have h8:=hD.i;have h9:=yc0 (l.take p) e0;rw[List.length_take]at h9;omega)) ?_;have hip:i<l.length:=by have h8:=hD.i;have h9:=yc0 (l.take p) e0;rw[List.length_take]at h9;omega
   refine L.Bu0 (i:=i) (v:=ptr b) rfl rfl lg0 rfl hO hip (fun w1 hO2 hmd=>?_);have hE2:=hE.no1 hmd rfl;have hK2:K0 w1 kb #[.pointer (some ⟨e0,0,none⟩)] 71:=by have h9:=hmd.low kb hkb;exact h9.trans hK
   have hm2:=hm.trans hmd;refine U46 ?_;refine U155 ?_;refine L.nil ?_;refine U74 ?_;exact⟨_,by omega,⟨p+1,i+1,(upf g i (ptr b)),rfl,rfl,rfl,rfl,rfl,J1,(hD.put hb9 h29),(Nat.lt_succ_of_lt hx0),hO2,hE2,hK2,hm2,(Nat.le_trans N2 hmd.size)⟩⟩
  ·have h29:b=e0:=by simpa using h29
   refine W.skip ?_;refine U74 ?_;exact⟨_,by omega,⟨p+1,i,g,rfl,rfl,rfl,rfl,rfl,J1,(hD.skip (by rw[hb9,h29])),(Nat.lt_succ_of_lt hx0),hO,hE,hK,hm,N2⟩⟩
 ·refine W.exit ?_;refine U21 ?_;refine U23 ?_;have hpe:p=l.length:=by omega
  have hD9:Del l e0 l.length i g:=hpe▸hD;have hiw:i=(wo l e0).length:=by have h9:=hD9.i;rw[List.take_length]at h9;exact h9
  have M7:i<l.length:=by have h8:=nn1 (q:=l.length) hx (by omega) (Nat.le_refl _);rw[List.take_length]at h8;omega
  have ha9:=hO.ga0 (by omega);have r7:l.length <=c:=by obtain⟨_,_,_,h7,_⟩:=hO.row ha9;exact h7
  refine L.va (Cq0 rfl rfl underlying195 lg0 (Nat.le_of_lt M7) r7 (by omega)) ?_;refine L.Ra0 (z:=.pointer none) rfl rfl underlying195 cr1 rfl rfl hO M7 (fun w1 hO2 hmd=>?_);have hm2:=hm.trans hmd;refine U26 ?_;refine U23 ?_;refine L.va (mg0 rfl rfl underlying195 lg0 (by omega)) ?_;refine U143 ?_;have h7:=(hO2.cut (Nat.le_of_lt M7) ha9)
  rw[hD9.done]at h7;rw[<- hiw];exact⟨rfl,h7,hm2⟩
end
theorem fl0 {w:World} {B:Nat} {E:TypeId} {s n c:Nat} {a:Option Addr} {xs:List Value} (h:Own w B E s a n c xs):∀x,a=some x->x=⟨x.block,0,none⟩:=fun x hx=>by
 rcases h.2 with⟨hv,_⟩|⟨g,cap,cur,hv,_⟩
 ·cases hv;cases hx
 ·cases hv;cases hx;rfl
theorem Rg0 {w:World} {B:Nat} {E:TypeId} {s n c:Nat} {a:Option Addr} {xs:List Value} (h:Own w B E s a n c xs):Value.ownBlock (.slice a n c)=if a=none then none else some (ab a):=by
 have hc:=fl0 h;cases a with
 |none=>rfl
 |some x=>rw[hc x rfl];rfl
theorem fm0 {w w':World} {B s n c:Nat} {E:TypeId} {a:Option Addr} {xs:List Value} {TS:List TypeId} (h:Own w B E s a n c xs) (hg:w.grownBy w' (Value.ownBlock (.slice a n c))) (hB:B <=w.heap.size) (hT:TS.contains E=true):N4 w w' B TS:=by
 rw[Rg0 h]at hg;split at hg
 ·refine⟨hg.os,hg.tape,hg.output,hg.size,fun k hk=>hg.block k (by omega) (fun e=>by cases e),fun b cs T hb _=>(hg.block b (P3 hb).lt (fun e=>by cases e)).trans hb⟩
 ·rename_i ha;obtain⟨cur,hc,hle,_⟩:=h.row ha;exact N4.put hc hg hle hT
def at_ (ky:Nat->ByteArray) (n:Nat) (l:List Nat) (j:Nat):List Nat:=l.filter fun b=>decide (slot n (ky b)=j)
theorem Fx0 (ky:Nat->ByteArray) (n:Nat) (l:List Nat) (b j:Nat):at_ ky n (l ++ [b]) j=if slot n (ky b)=j then at_ ky n l j ++ [b] else at_ ky n l j:=by
 unfold at_
 rw[List.filter_append];by_cases h:slot n (ky b)=j
 ·rw[if_pos h];simp[h]
 ·rw[if_neg h];simp[h]
theorem oe0 (ky:Nat->ByteArray) (n:Nat) (l:List Nat) (j:Nat):(at_ ky n l j).length <=l.length:=List.length_filter_le ..
def fl (sl:Nat->List Nat) (u:Nat):List Nat:=(List.range u).flatMap sl
theorem bb0 (sl:Nat->List Nat) (u:Nat):fl sl (u+1)=fl sl u++sl u:=by
 unfold fl;rw[List.range_succ,List.flatMap_append];simp
theorem qx0 {sl:Nat->List Nat} {u b:Nat}:b∈fl sl u↔∃j,j<u/\b∈sl j:=by
 unfold fl;simp
theorem Rh0 {sl sl':Nat->List Nat} {u:Nat} (h:∀j,j<u->sl j=sl' j):fl sl u=fl sl' u:=by
 unfold fl
 induction u with
 |zero=>rfl
 |succ u ih=>rw[List.range_succ,List.flatMap_append,List.flatMap_append,ih fun j hj=>h j (by omega)];simp[h u (Nat.lt_succ_self _)]
def qs (sl:Nat->List Nat) (n e:Nat) (j:Nat):List Nat:=if j<n then sl j else [e]
theorem fn0 (sl:Nat->List Nat) (n e:Nat):fl (qs sl n e) (n+1)=fl sl n ++ [e]:=by
 rw[bb0,Rh0 (sl:=qs sl n e) (sl':=sl) (fun j hj=>by unfold qs;rw[if_pos hj])];unfold qs;rw[if_neg (Nat.lt_irrefl _)]
structure WB (w:World) (N n' ob:Nat) (sL:Nat->List Nat) (ja:Nat->Option Addr) (jc:Nat->Nat):Prop where
 out:K0 w ob (arr n' fun j=>.slice (ja j) (sL j).length (jc j)) 195
 inn:∀j,j<n'->Own w N 71 1 (ja j) (sL j).length (jc j) ((sL j).map ptr)
 inj:∀i j,i<n'->j<n'->i≠j->ja i≠none->ja j≠none->ab (ja i)≠ab (ja j)
section
variable {w w' w1:World}{N n' ob:Nat}{sL:Nat->List Nat}{ja:Nat->Option Addr}{jc:Nat->Nat}
theorem WB.j0 (h:WB w N n' ob sL ja jc) (hb:Below w.heap.size w w'):WB w' N n' ob sL ja jc:=⟨h.out.j0 hb,fun j hj=>(h.inn j hj).j0 hb,h.inj⟩
theorem WB.start (h:K0 w ob (arr n' fun _=>.slice none 0 0) 195):WB w N n' ob (fun _=>[]) (fun _=>none) (fun _=>0):=⟨h,fun _ _=>Own.nil _ _ _ _,fun _ _ _ _ _ h=>absurd rfl h⟩
theorem WB.add {a':Option Addr} {c' i b:Nat} (h:WB w N n' ob sL ja jc) (hi:i<n') (hN:N <=w.heap.size) (hga:w.grownBy w1 (Value.ownBlock (.slice (ja i) (sL i).length (jc i)))) (hwh:a'≠none->(ja i≠none/\ab a'=ab (ja i))\/w.heap.size <=ab a')
  (hO:Own w1 N 71 1 a' ((sL i).length+1) c' ((sL i).map ptr ++ [ptr b])) (A1:K0 w' ob (arr n' fun j=>.slice (o3 ja i a' j) (o3 sL i (sL i ++ [b]) j).length (o3 jc i c' j)) 195) (hg:w1.grownBy w' (some ob)) :
  WB w' N n' ob (o3 sL i (sL i ++ [b])) (o3 ja i a') (o3 jc i c')/\N4 w w1 N [71]:=by
 have hm1:N4 w w1 N [71]:=fm0 (h.inn i hi) hga hN rfl;have qy0:K0 w1 ob (arr n' fun j=>.slice (ja j) (sL j).length (jc j)) 195:=h.out.mod hm1 rfl;refine⟨⟨A1,fun j hj=>?_,fun x y hx hy hxy h1 h2=>?_⟩,hm1⟩
 ·by_cases e:j=i
  ·subst e;rw[Y0,Y0,Y0,List.length_append,List.map_append];exact hO.j6 hg (Own.Cm0 hO (P3 qy0) (by decide))
  ·rw[Z0 e,Z0 e,Z0 e];have h3:Own w1 N 71 1 (ja j) (sL j).length (jc j) ((sL j).map ptr):=Own.congr (h.inn j hj) fun ha=>hga.block _ ((h.inn j hj).lt ha) (by
    rw[Rg0 (h.inn i hi)];split
    ·exact fun z=>by cases z
    ·rename_i hi0;exact fun z=>h.inj j i hj hi e ha hi0 (Option.some.inj z))
   exact h3.j6 hg (Own.Cm0 h3 (P3 qy0) (by decide))
 ·have key:∀y,y<n'->y≠i->ja y≠none->a'≠none->ab a'≠ab (ja y):=fun y hy hyi hy0 ha'=>by
   rcases hwh ha' with⟨h3,h4⟩|h3
   ·rw[h4];exact h.inj i y hi hy (Ne.symm hyi) h3 hy0
   ·have:=(h.inn y hy).lt hy0;omega
  by_cases ex:x=i
  ·subst ex;rw[Y0]at h1;rw[Z0 (Ne.symm hxy)]at h2;rw[Y0,Z0 (Ne.symm hxy)];exact key y hy (Ne.symm hxy) h2 h1
  ·rw[Z0 ex]at h1;by_cases ey:y=i
   ·subst ey;rw[Y0]at h2;rw[Y0,Z0 ex];exact(key x hx ex h1 h2).symm
   ·rw[Z0 ey]at h2;rw[Z0 ex,Z0 ey];exact h.inj x y hx hy hxy h1 h2
end
theorem Bk.mod {w w':World} {B N n c:Nat} {a:Option Addr} {sl:Nat->List Nat} {ia:Nat->Option Addr} {ic:Nat->Nat} {TS:List TypeId} (h:Bk w B n a c sl ia ic) (hm:N4 w w' N TS) (hT:(TS.contains 195 ||TS.contains 71)=false):Bk w' B n a c sl ia ic:=by
 simp only[Bool.or_eq_false_iff]at hT;exact⟨h.out.mod hm hT.1,fun j hj=>(h.inn j hj).mod hm hT.2⟩
theorem as0.mod {w w':World} {Bl:Nat} {TS:List TypeId} {ky:Nat->ByteArray} {l:List Nat} (h:as0 w ky l) (hm:N4 w w' Bl TS) (hT:TS.contains 127=false):as0 w' ky l:=h.no1 hm hT
theorem WB.bk {w:World} {N n' ob B:Nat} {sL:Nat->List Nat} {ja:Nat->Option Addr} {jc:Nat->Nat} (h:WB w N n' ob sL ja jc) (hB:B <=ob) (hN:B <=N) (hm:n' <=maxLen):Bk w B n' (some ⟨ob,0,none⟩) n' sL ja jc:=by
 refine⟨?_,fun j hj=>(h.inn j hj).down hN⟩;have h1:=Own.Bm0 (s:=1) (n:=n') h.out (by rw[T5];omega) hB (Nat.le_refl _) hm;have h2:(arr n' fun j=>Value.slice (ja j) (sL j).length (jc j)).toList.take (n'*1)=lst (fun j=>.slice (ja j) (sL j).length (jc j)) n':=by
  apply List.ext_getElem?;intro j;rw[List.getElem?_take,Nat.mul_one,Array.getElem?_toList];by_cases hj:j<n'
  ·rw[if_pos hj,dt0 hj,gb0 hj]
  ·rw[if_neg hj,List.getElem?_eq_none (by rw[du0];omega)]
 rw[h2]at h1;exact h1
section
variable [Ctx prog]
end
section
theorem Ri0 (x0:Option Addr) (x1:Nat) (x2:Nat) (x3:Int) (x4:Int):prog.built 97 [(0,.slice x0 x1 x2),(1,.int .i64 x3),(2,.int .i64 x4)]=some #[.slice x0 x1 x2,.int .i64 x3,.int .i64 x4]:=by kernel_rfl
end
section
variable [Ctx prog]
omit [Ctx prog] in
theorem lq0 {sl:Nat->List Nat} {ia:Nat->Option Addr} {ic:Nat->Nat} {n:Nat} {u:Value} (h:u∈lst (fun j=>Value.slice (ia j) (sl j).length (ic j)) n):u.oneCell'=true:=by
 obtain⟨j,-,rfl⟩:=List.mem_map.1 h;rfl
omit [Ctx prog] in
theorem Is0 {l:List Nat} {u:Value} (h:u∈l.map ptr):u.oneCell'=true:=by
 obtain⟨j,-,rfl⟩:=List.mem_map.1 h;rfl
omit [Ctx prog] in
theorem jb0 {B N:Nat} {w0 w w':World} {TS:List TypeId} (h:Below B w0 w) (hm:N4 w w' N TS) (hN:B <=N):Below B w0 w' :=
 qw0 h ⟨hm.os,hm.tape,hm.output,hm.size,fun k hk=>hm.low k (by omega)⟩
omit [Ctx prog] in
theorem qz0 {w:World} {B n c:Nat} {E:TypeId} {a:Option Addr} {xs:List Value} (h:Own w B E 1 a n c xs) (h0:0<n):∃a1,a=some ⟨a1,0,none⟩:=by
 have h1:=h.ga0 h0;cases a with
 |none=>exact absurd rfl h1
 |some x=>exact⟨x.block,congrArg some (fl0 h x rfl)⟩
omit [Ctx prog] in
theorem Rj0 {w:World} {B n c9 i c8:Nat} {a9 a8:Option Addr} {sl:Nat->List Nat} {ia:Nat->Option Addr} {ic:Nat->Nat} {l:List Nat} (hC:Own w B 195 1 a9 n c9 (lst (upf (fun j=>Value.slice (ia j) (sl j).length (ic j)) i (.slice a8 l.length c8)) n)) :
  Own w B 195 1 a9 n c9 (lst (fun j=>Value.slice (o3 ia i a8 j) (o3 sl i l j).length (o3 ic i c8 j)) n):=by
 rwa [mh0 (g:=fun j=>Value.slice (o3 ia i a8 j) (o3 sl i l j).length (o3 ic i c8 j))]at hC
 intro j _;unfold upf o3;by_cases e:j=i
 ·rw[if_pos e,if_pos e,if_pos e,if_pos e]
 ·rw[if_neg e,if_neg e,if_neg e,if_neg e]
set_option maxHeartbeats 1000000 in
theorem Kr0 (ky:Nat->ByteArray) (Bl n c:Nat) (a:Option Addr) (ct md:Int) (sl:Nat->List Nat) (ia:Nat->Option Addr) (ic:Nat->Nat) (e:Nat) (h0:0<n) (hn:n <=1000000) (hsl:∀j,j<n->(sl j).length <=1000000) (w0:World) (_hBl:Bl <=w0.heap.size) (hB:Bk w0 Bl n a c sl ia ic) (hE:as0 w0 ky (sl (slot n (ky e)))) (he:e∈sl (slot n (ky e))) :
  C prog 57 #[.agg #[.slice a n c,.int .i64 ct,.int .i64 md],.pointer (some ⟨e,0,none⟩)] w0 fun v w=>∃a1 c1 a2 c2,v= .agg #[.slice (some ⟨a1,0,none⟩) n c1,.int .i64 (IntKind.i64.wrap (ct-1)),.int .i64 md]/\Own w w0.heap.size 195 1 (some ⟨a1,0,none⟩) n c1 (lst (fun j=>.slice (o3 ia (slot n (ky e)) a2 j) (o3 sl (slot n (ky e)) (wo (sl (slot n (ky e))) e) j).length (o3 ic (slot n (ky e)) c2 j)) n)/\Own w w0.heap.size 71 1 a2 (wo (sl (slot n (ky e))) e).length c2 ((wo (sl (slot n (ky e))) e).map ptr)/\Below w0.heap.size w0 w:=by
 refine C.enter (n:=35) func57 rfl rfl ?_;have hb:Below w0.heap.size w0 w0:=Below.refl _ _;have hj:=lp0 h0 (ky e);have hB0:=hB;have hE0:=hE;obtain⟨hkz,nm,lt,us,G7⟩:=hE.all e he;have su1:=hB.out.sl;refine U0 ?_;refine U296 ?_;intro w b2 F2 lt2 hb;have G7:=G7.j0 F2.below;have hB:=hB.j0 F2.below;have A2:=F2.blk;refine L.box (cs:=#[.pointer (some ⟨e,0,none⟩)]) rfl rfl (fun w b3 F3=>?_);refine U133 ?_;intro lt3 hb;have G7:=G7.j0 F3.below;have hB:=hB.j0 F3.below;have A2:=A2.j0 F3.below;have Z7:=F3.blk;refine U183 ?_;intro w b4 F4 lt4;have hb:=G0 hb F4.below;have G7:=G7.j0 F4.below;have hB:=hB.j0 F4.below;have A2:=A2.j0 F4.below;have Z7:=Z7.j0 F4.below;have X1:=F4.blk;refine U134 ?_;refine W.fl2 10 [2,9] 2 9 [0,1,3,4,5,6,7,2,8,9] [0,1,3,4,5,6,7,9,2,8] (fun w'=>K0 w' b2 #[.slice a n c,.int .i64 ct,.int .i64 md] 97) (by kernel_rfl) (by kernel_rfl) (by kernel_rfl) (by kernel_rfl) (by kernel_rfl) (by kernel_rfl) (A2.j0 (Below.refl w.heap.size w).drew) ?_ ?_
 ·have V3:Below w.heap.size w w.drew:=(Below.refl w.heap.size w).drew;have hb:=G0 hb V3;have G7:=G7.j0 V3;refine U57 ?_;intro hB A2;have Z7:=Z7.j0 V3;have X1:=X1.j0 V3;clear V3;generalize w.drew=w at *;refine U251 ?_;refine U397 ?_;refine U519 ?_;refine F.doo rfl rfl ?_;refine U425 ?_;intro Rk0;rintro _ w ⟨a9,c9,rfl,hC,G1⟩;have hb:=G0 hb G1;have G7:=G7.j0 G1;have hB:=hB.j0 G1;have A2:=A2.j0 G1;have Z7:=Z7.j0 G1;have X1:=X1.j0 G1;have hC:=hC.down Rk0;clear G1;refine L.nil ⟨rfl,A2,?_⟩;refine F.va rfl rfl (fun w' L1=>(G2 (parts:=[(0,.tmp 9),(1,.tmp 12),(2,.tmp 14)]) rfl (Ri0 a9 n c9 (IntKind.i64.wrap (ct-1)) md))) ?_;refine F.doo rfl rfl ?_;refine U64 ?_;intro w b5 F5 lt5;have mu0:=F5.ne A2;refine U40 ?_;intro J8 hb;have G7:=G7.j0 F5.below;have hB:=hB.j0 F5.below;have A2:=A2.j0 F5.below;have Z7:=Z7.j0 F5.below;have X1:=X1.j0 F5.below;have hC:=hC.j0 F5.below;have I2:=F5.blk;refine L.nil ⟨rfl,A2,?_⟩;refine U432 ?_;intro w A1 hg N2;refine U90 ?_;intro Y5 hb;have G7:=G7.mod Y5 rfl;refine U280 ?_;intro hB A2;have Z7:=Z7.mod Y5 rfl;have X1:=X1.other hg J8;have hC:=hC.mod Y5 rfl;have I2:=A1;refine U28 ?_;refine U154 ?_;refine U536 ?_;refine U399 ?_;refine U38 ?_;intro w O2 hb;have hB:=hB.j0 O2;refine U105 ?_;intro A2 Z7;have X1:=X1.j0 O2;have hC:=hC.j0 O2;have I2:=I2.j0 O2;refine U458 ?_;rintro _ w ⟨rfl,O2⟩;have hb:=G0 hb O2;have hB:=hB.j0 O2;refine U105 ?_;intro A2 Z7;have X1:=X1.j0 O2;have hC:=hC.j0 O2;have I2:=I2.j0 O2;refine U5 ?_;refine U350 ?_;refine U17 ?_;intro V3 hb;refine U57 ?_;intro hB A2;have Z7:=Z7.j0 V3;have X1:=X1.j0 V3;have hC:=hC.j0 V3;have I2:=I2.j0 V3;clear V3;generalize w.drew=w at *;refine U523 ?_;refine U393 ?_;refine U416 ?_;refine U362 ?_;refine F.doo rfl rfl ?_;have hk3:b3<w.heap.size:=(P3 Z7).lt;have hN0:=hb.size;obtain⟨N,hN⟩:∃N,N=w.heap.size:=⟨_,rfl⟩
  rw[<- hN]at hk3 hN0;refine L.call (K2 rfl func100 rfl Zm0 rfl) (Cw0 Bl (sl (slot n (ky e))).length _ _ _ (hsl _ hj) w (hB.inn _ hj) (fun u hu=>Is0 hu)) ?_;rintro _ w ⟨a8,c8,rfl,hD,G1⟩;have hN8:=G1.size;rw[<- hN]at hD hN8;have hb:=G0 hb G1;have hB:=hB.j0 G1;have A2:=A2.j0 G1;have Z7:=Z7.j0 G1;have X1:=X1.j0 G1;have hC:=hC.j0 G1;have I2:=I2.j0 G1;clear G1;refine L.nil ⟨rfl,⟨I2,A2,hB⟩,?_⟩;refine U400 ?_;rintro _ w ⟨rfl,hD,hm⟩;have hb:=jb0 hb hm hN0;have A2:=A2.mod hm rfl;have X1:=X1.mod hm rfl;have hC:=hC.mod hm rfl;have I2:=I2.mod hm rfl;have hB:=hB0.j0 hb;have hN8:=Nat.le_trans hN8 hm.size;clear hm;refine L.nil ⟨rfl,⟨I2,A2,hB⟩,?_⟩;refine U8 ?_;refine U413 ?_;intro w1 hC2 hmd;have hb:=jb0 hb hmd (Nat.le_refl _);have hD:=hD.mod hmd rfl;have X1:=X1.mod hmd rfl;have I2:=I2.mod hmd rfl;refine U26 ?_;refine U368 ?_;intro w A1 hg N2;refine U69 ?_;intro Y5 hb;have hC2:=hC2.mod Y5 rfl;have hD:=hD.mod Y5 rfl;have X1:=A1;refine U28 ?_;refine U414 ?_;obtain⟨a1,rfl⟩:=qz0 hC2 h0;exact⟨a1,c9,a8,c8,rfl,Rj0 hC2,hD.down hN0,hb⟩
 ·have V3:Below w.heap.size w w.drew:=(Below.refl w.heap.size w).drew;have hb:=G0 hb V3;have G7:=G7.j0 V3;refine U57 ?_;intro hB A2;have Z7:=Z7.j0 V3;have X1:=X1.j0 V3;clear V3;generalize w.drew=w at *;refine U251 ?_;refine U397 ?_;refine U519 ?_;refine F.doo rfl rfl ?_;refine U64 ?_;intro w b5 F5 lt5;have mu0:=F5.ne A2;refine U40 ?_;intro J8 hb;have G7:=G7.j0 F5.below;have hB:=hB.j0 F5.below;have A2:=A2.j0 F5.below;have Z7:=Z7.j0 F5.below;have X1:=X1.j0 F5.below;have I2:=F5.blk;refine L.nil ⟨rfl,A2,?_⟩;refine F.doo rfl rfl ?_;refine U425 ?_;intro Rk0;rintro _ w ⟨a9,c9,rfl,hC,G1⟩;have hb:=G0 hb G1;have G7:=G7.j0 G1;have hB:=hB.j0 G1;have A2:=A2.j0 G1;have Z7:=Z7.j0 G1;refine U147 ?_;intro X1 I2;have hC:=hC.down Rk0;clear G1;refine L.nil ⟨rfl,A2,?_⟩;refine F.va rfl rfl (fun w' L1=>(G2 (parts:=[(0,.tmp 9),(1,.tmp 12),(2,.tmp 14)]) rfl (Ri0 a9 n c9 (IntKind.i64.wrap (ct-1)) md))) ?_;refine U432 ?_;intro w A1 hg N2;refine U90 ?_;intro Y5 hb;have G7:=G7.mod Y5 rfl;refine U280 ?_;intro hB A2;have Z7:=Z7.mod Y5 rfl;have X1:=X1.other hg J8;have hC:=hC.mod Y5 rfl;have I2:=A1;refine U28 ?_;refine U154 ?_;refine U536 ?_;refine U399 ?_;refine U38 ?_;intro w O2 hb;have hB:=hB.j0 O2;refine U105 ?_;intro A2 Z7;refine U285 ?_;intro X1 I2;have hC:=hC.j0 O2;refine U458 ?_;rintro _ w ⟨rfl,O2⟩;have hb:=G0 hb O2;have hB:=hB.j0 O2;refine U105 ?_;intro A2 Z7;refine U285 ?_;intro X1 I2;have hC:=hC.j0 O2;refine U5 ?_;refine U350 ?_;refine U17 ?_;intro V3 hb;refine U57 ?_;intro hB A2;have Z7:=Z7.j0 V3;refine U148 ?_;intro X1 I2;have hC:=hC.j0 V3;clear V3;generalize w.drew=w at *;refine U523 ?_;refine U393 ?_;refine U416 ?_;refine U362 ?_;refine F.doo rfl rfl ?_;have hk3:b3<w.heap.size:=(P3 Z7).lt;have hN0:=hb.size;obtain⟨N,hN⟩:∃N,N=w.heap.size:=⟨_,rfl⟩
  rw[<- hN]at hk3 hN0;refine L.call (K2 rfl func100 rfl Zm0 rfl) (Cw0 Bl (sl (slot n (ky e))).length _ _ _ (hsl _ hj) w (hB.inn _ hj) (fun u hu=>Is0 hu)) ?_;rintro _ w ⟨a8,c8,rfl,hD,G1⟩;have hN8:=G1.size;rw[<- hN]at hD hN8;have hb:=G0 hb G1;have hB:=hB.j0 G1;have A2:=A2.j0 G1;have Z7:=Z7.j0 G1;refine U147 ?_;intro X1 I2;have hC:=hC.j0 G1;clear G1;refine L.nil ⟨rfl,⟨I2,A2,hB⟩,?_⟩;refine U400 ?_;rintro _ w ⟨rfl,hD,hm⟩;have hb:=jb0 hb hm hN0;have A2:=A2.mod hm rfl;have X1:=X1.mod hm rfl;have I2:=I2.mod hm rfl;have hC:=hC.mod hm rfl;have hB:=hB0.j0 hb;have hN8:=Nat.le_trans hN8 hm.size;clear hm;refine L.nil ⟨rfl,⟨I2,A2,hB⟩,?_⟩;refine U8 ?_;refine U413 ?_;intro w1 hC2 hmd;have hb:=jb0 hb hmd (Nat.le_refl _);have hD:=hD.mod hmd rfl;have X1:=X1.mod hmd rfl;have I2:=I2.mod hmd rfl;refine U26 ?_;refine U368 ?_;intro w A1 hg N2;refine U69 ?_;intro Y5 hb;have hC2:=hC2.mod Y5 rfl;have hD:=hD.mod Y5 rfl;have X1:=A1;refine U28 ?_;refine U414 ?_;obtain⟨a1,rfl⟩:=qz0 hC2 h0;exact⟨a1,c9,a8,c8,rfl,Rj0 hC2,hD.down hN0,hb⟩
end
theorem jc0 (m:Nat) (v:Value):Array.replicate (m*1) v=arr m fun _=>v:=by
 rw[Nat.mul_one];apply Array.ext_getElem?;intro i;rw[Array.getElem?_replicate];by_cases h:i<m
 ·rw[if_pos h,gb0 h]
 ·rw[if_neg h,Array.getElem?_eq_none (by rw[T5];omega)]
theorem ed0 {n i:Nat} {f g:Nat->Value} {v:Value} (hi:i<n) (hv:g i=v) (hg:∀j,j≠i->g j=f j):setRow (arr n f) (0+i*1) [v]=arr n g:=by
 have h1:=Es0 (N:=n) (o:=0+i*1) (m:=1) (F:=f) (g:=fun _=>v) (by omega);have h2:(arr 1 fun _=>v).toList=[v]:=rfl;rw[h2]at h1;rw[h1];congr 1;funext j;by_cases e:j=i
 ·rw[if_pos (by omega),e,hv]
 ·rw[if_neg (by omega),hg j e]
theorem K0.lr0 {w:World} {b n i:Nat} {f:Nat->Value} {T:TypeId} (h:K0 w b (arr n f) T) (hi:i<n):w.cell? ⟨b,0+i*1,none⟩=some (f i):=by
 have h1:=K0.row (o:=i) (m:=1) h (by omega) 0 (f i) rfl
 rwa [show 0+i*1=i+0 by omega]
structure Kg (w1 w:World) (ob:Nat):Prop where
 os:w.os=w1.os
 tape:w.tape=w1.tape
 output:w.output=w1.output
 size:w1.heap.size <=w.heap.size
 block:∀k,k<w1.heap.size->k≠ob->w.heap[k]? =w1.heap[k]?
section
variable {w1 w w':World}{ob:Nat}
theorem Kg.refl (w1:World) (ob:Nat):Kg w1 w1 ob:=⟨rfl,rfl,rfl,Nat.le_refl _,fun _ _ _=>rfl⟩
theorem Kg.j0 (h:Kg w1 w ob) (hb:Below w.heap.size w w'):Kg w1 w' ob:=⟨hb.os.trans h.os,hb.tape.trans h.tape,hb.output.trans h.output,Nat.le_trans h.size hb.size,fun k hk hn=>(hb.block k (Nat.lt_of_lt_of_le hk h.size)).trans (h.block k hk hn)⟩
theorem Kg.mod {TS:List TypeId} (h:Kg w1 w ob) (hm:N4 w w' w1.heap.size TS) (_:true=true):Kg w1 w' ob:=⟨hm.os.trans h.os,hm.tape.trans h.tape,hm.output.trans h.output,Nat.le_trans h.size hm.size,fun k hk hn=>(hm.low k hk).trans (h.block k hk hn)⟩
theorem Kg.other (h:Kg w1 w ob) (hg:w.grownBy w' (some ob)):Kg w1 w' ob:=⟨hg.os.trans h.os,hg.tape.trans h.tape,hg.output.trans h.output,Nat.le_trans h.size hg.size,fun k hk hn=>(hg.block k (Nat.lt_of_lt_of_le hk h.size) (fun z=>hn (Option.some.inj z))).trans (h.block k hk hn)⟩
theorem Kg.blk {b:Nat} {cs:Array Value} {T:TypeId} (h:Kg w1 w ob) (hB:K0 w1 b cs T) (hn:b≠ob):K0 w b cs T:=(h.block b (P3 hB).lt hn).trans hB
theorem Kg.own {B s n c:Nat} {E:TypeId} {a:Option Addr} {xs:List Value} (h:Kg w1 w ob) (hO:Own w1 B E s a n c xs) (hn:a≠none->ab a≠ob):Own w B E s a n c xs:=Own.congr hO fun ha=>h.block _ (hO.lt ha) (hn ha)
theorem Kg.zw0 {ky:Nat->ByteArray} {l:List Nat} {cs:Array Value} {T:TypeId} (h:Kg w1 w ob) (hE:as0 w1 ky l) (hB:K0 w1 ob cs T) (hT:T≠127):as0 w ky l :=
 ⟨fun b hl=>let⟨h1,nm,lt,us,h2⟩:=hE.all b hl;⟨h1,nm,lt,us,h.blk h2 (K0.ne h2 hB hT.symm)⟩⟩
end
structure Bd (N:Nat) (w:World):Prop where
 h:N <=w.heap.size
theorem Bd.j0 {N:Nat} {w w':World} (h:Bd N w) (hb:Below w.heap.size w w'):Bd N w':=⟨Nat.le_trans h.h hb.size⟩
theorem Bd.mod {N B:Nat} {w w':World} {TS:List TypeId} (h:Bd N w) (hm:N4 w w' B TS) (_:true=true):Bd N w':=⟨Nat.le_trans h.h hm.size⟩
theorem WB.mod {w w':World} {N n' ob B:Nat} {sL:Nat->List Nat} {ja:Nat->Option Addr} {jc:Nat->Nat} {TS:List TypeId} (h:WB w N n' ob sL ja jc) (hm:N4 w w' B TS) (hT:(TS.contains 195 ||TS.contains 71)=false):WB w' N n' ob sL ja jc:=by
 simp only[Bool.or_eq_false_iff]at hT;exact⟨h.out.mod hm hT.1,fun j hj=>(h.inn j hj).mod hm hT.2,h.inj⟩
def wn (n k:Nat):Nat:=if 4*n<k+1 then 2*n else n
def flv (q:Nat->List Nat) (u v:Nat):List Nat:=fl q u++(q u).take v
theorem Cx0 (q:Nat->List Nat) (u:Nat):flv q u 0=fl q u:=by simp[flv]
theorem Rl0 {q:Nat->List Nat} {u v b:Nat} (h:(q u)[v]? =some b):flv q u (v+1)=flv q u v ++ [b]:=by
 obtain⟨h1,h2⟩:=List.getElem?_eq_some_iff.1 h;unfold flv;rw[List.take_succ_eq_append_getElem h1,h2,List.append_assoc]
theorem Wy0 (q:Nat->List Nat) (u:Nat):flv q u (q u).length=fl q (u+1):=by rw[bb0,flv,List.take_length]
theorem ls0 (q:Nat->List Nat) {u m:Nat} (h:u <=m):(fl q u).length <=(fl q m).length:=by
 induction m with
 |zero=>rw[Nat.le_zero.1 h];exact Nat.le_refl _
 |succ m ih=>
  rcases Nat.lt_or_eq_of_le h with h1|h1
  ·rw[bb0,List.length_append];have:=ih (by omega);omega
  ·rw[h1];exact Nat.le_refl _
theorem zx0 (q:Nat->List Nat) {u m v:Nat} (h:u<m):(flv q u v).length <=(fl q m).length:=by
 have h1:=ls0 q (u:=u+1) (m:=m) h;rw[bb0,List.length_append]at h1;unfold flv;rw[List.length_append,List.length_take];omega
theorem er1 (ky:Nat->ByteArray) (n:Nat) (l:List Nat) (b:Nat):at_ ky n (l ++ [b])=o3 (at_ ky n l) (slot n (ky b)) (at_ ky n l (slot n (ky b)) ++ [b]):=by
 funext j;rw[Fx0];by_cases e:slot n (ky b)=j
 ·subst e;rw[if_pos rfl,Y0]
 ·rw[if_neg e,Z0 (Ne.symm e)]
theorem WB.next {w':World} {ky:Nat->ByteArray} {q:Nat->List Nat} {u v N n' ob b c':Nat} {ja:Nat->Option Addr} {jc:Nat->Nat} {a':Option Addr} (hb:(q u)[v]? =some b) (h:WB w' N n' ob (o3 (at_ ky n' (flv q u v)) (slot n' (ky b)) (at_ ky n' (flv q u v) (slot n' (ky b)) ++ [b])) (o3 ja (slot n' (ky b)) a') (o3 jc (slot n' (ky b)) c')) :
  WB w' N n' ob (at_ ky n' (flv q u (v+1))) (o3 ja (slot n' (ky b)) a') (o3 jc (slot n' (ky b)) c'):=by
 rw[Rl0 hb,er1];exact h
theorem WB.round {w:World} {ky:Nat->ByteArray} {q:Nat->List Nat} {u v N n' ob:Nat} {ja:Nat->Option Addr} {jc:Nat->Nat} (h:WB w N n' ob (at_ ky n' (flv q u v)) ja jc) (hv:v=(q u).length):WB w N n' ob (at_ ky n' (fl q (u+1))) ja jc:=by
 rw[<- Wy0,<- hv];exact h
theorem Rm0 {n:Nat} (h:n <=1000000):n <=maxLen:=Nat.le_trans h (by decide)
theorem es1 {w:World} {N n cL b e:Nat} {aL:Option Addr} {sl:Nat->List Nat} {ia:Nat->Option Addr} {ic:Nat->Nat} (hL:Own w N 195 1 aL (n+1) cL (lst (fun j=>.slice (ia j) (sl j).length (ic j)) n ++ [.slice (some ⟨b,0,none⟩) 1 1])) :
  Own w N 195 1 aL (n+1) cL (lst (fun j=>.slice (o3 ia n (some ⟨b,0,none⟩) j) (qs sl n e j).length (o3 ic n 1 j)) (n+1)):=by
 rw[Us0]at hL
 rwa [mh0 (g:=fun j=>Value.slice (o3 ia n (some ⟨b,0,none⟩) j) (qs sl n e j).length (o3 ic n 1 j))]at hL
 intro j hj;unfold upf o3 qs;by_cases h:j=n
 ·rw[if_pos h,if_pos h,if_pos h,if_neg (by omega)];rfl
 ·rw[if_neg h,if_neg h,if_neg h,if_pos (by omega)]
theorem et1 {w:World} {Bl n b e:Nat} {sl:Nat->List Nat} {ia:Nat->Option Addr} {ic:Nat->Nat} (hI:∀j,j<n->Own w Bl 71 1 (ia j) (sl j).length (ic j) ((sl j).map ptr)) (hB:K0 w b #[ptr e] 71) (hb:Bl <=b) :
  ∀j,j<n+1->Own w Bl 71 1 (o3 ia n (some ⟨b,0,none⟩) j) (qs sl n e j).length (o3 ic n 1 j) ((qs sl n e j).map ptr):=fun j hj=>by
 by_cases h:j=n
 ·subst h;rw[Y0,Y0];unfold qs;rw[if_neg (Nat.lt_irrefl _)];exact Own.Bm0 hB rfl hb (Nat.le_refl _) (by decide)
 ·rw[Z0 h,Z0 h];unfold qs;rw[if_pos (by omega)];exact hI j (by omega)
theorem nq1 {n:Nat} (h:n <=1000000):IntKind.i64.wrap (4*(n:Int))=((4*n:Nat):Int):=by rw[IntKind.wrap_i64];omega
theorem nr1 {n:Nat} (h:n <=1000000):IntKind.i64.wrap (2*(n:Int))=((2*n:Nat):Int):=by rw[IntKind.wrap_i64];omega
section
variable [Ctx prog]
end
section
theorem Rn0 (x0:Option Addr) (x1:Nat) (x2:Nat) (x3:Int) (x4:Int):prog.built 97 [(0,.slice x0 x1 x2),(1,.int .i64 x3),(2,.int .i64 x4)]=some #[.slice x0 x1 x2,.int .i64 x3,.int .i64 x4]:=by kernel_rfl
end
section
variable [Ctx prog]
set_option maxHeartbeats 2000000 in
theorem eu1 (ky:Nat->ByteArray) (Bl n c kc:Nat) (a:Option Addr) (md:Int) (sl:Nat->List Nat) (ia:Nat->Option Addr) (ic:Nat->Nat) (en:Nat) (h0:0<n) (hn:n <=400000) (hkc:kc <=900000) (hfl:(fl sl n).length <=900000) (hq:¬4*n<kc+1) (w0:World) (hBl:Bl <=w0.heap.size) (hB:Bk w0 Bl n a c sl ia ic) (hE:as0 w0 ky (fl sl n ++ [en])) :
  C prog 106 #[.agg #[.slice a n c,.int .i64 (kc:Int),.int .i64 md],.pointer (some ⟨en,0,none⟩)] w0 fun v w=>∃a1 c1 ia1 ic1,v= .agg #[.slice a1 n c1,.int .i64 ((kc:Int)+1),.int .i64 (IntKind.i64.wrap (md+1))]/\Bk w w0.heap.size n a1 c1 (at_ ky n (fl sl n ++ [en])) ia1 ic1/\Below w0.heap.size w0 w:=by
 refine C.enter (n:=74) func106 rfl rfl ?_;have hb:Below w0.heap.size w0 w0:=Below.refl _ _;have hB0:=hB;have hE0:=hE;refine U0 ?_;refine L.box (cs:=#[.slice a n c,.int .i64 (kc:Int),.int .i64 md]) rfl rfl (fun w b2 F2=>?_);refine U15 ?_;intro lt2 hb;have hB:=hB.j0 F2.below;have A2:=F2.blk;refine U183 ?_;intro w b4 F4 lt4;have hb:=G0 hb F4.below;have hB:=hB.j0 F4.below;have A2:=A2.j0 F4.below;have X1:=F4.blk;refine U134 ?_;refine W.fl2 12 [3,11] 3 11 [0,1,2,4,5,6,7,8,9,3,10,11] [0,1,2,4,5,6,7,8,9,11,3,10] (fun w'=>K0 w' b2 #[.slice a n c,.int .i64 (kc:Int),.int .i64 md] 97) (by kernel_rfl) (by kernel_rfl) (by kernel_rfl) (by kernel_rfl) (by kernel_rfl) (by kernel_rfl) (A2.j0 (Below.refl w.heap.size w).drew) ?_ ?_
 ·have V3:Below w.heap.size w w.drew:=(Below.refl w.heap.size w).drew;have hb:=G0 hb V3;refine U57 ?_;intro hB A2;have X1:=X1.j0 V3;clear V3;generalize w.drew=w at *;refine U184 ?_;refine U158 ?_;refine U195 ?_;refine U173 ?_;intro w b14 F14;have Ro0:=F14.lq hb.size;refine U222 ?_;intro hb hB;refine U226 ?_;intro A2 X1;have zy0:=F14.blk;have hob:K0 w b14 (arr n fun _=>.slice none 0 0) 195:=by have h9:=zy0;rw[jc0]at h9;exact h9
  clear zy0;refine L.nil ⟨rfl,A2,?_⟩;refine U386 ?_;refine U64 ?_;intro w b5 F5 lt5;have mu0:=F5.ne A2;refine U40 ?_;intro J8 hb;have hB:=hB.j0 F5.below;refine U71 ?_;intro A2 X1;have hob:=hob.j0 F5.below;have I2:=F5.blk;refine L.nil ⟨rfl,A2,?_⟩;refine U8 ?_;refine U156 ?_;intro w A1 hg N2 Y5;refine U228 ?_;intro hb hB A2 X1;have hob:=hob.mod Y5 rfl;have I2:=A1;refine U98 ?_;refine U163 ?_;refine U162 ?_;refine U268 ?_;refine U477 ?_;refine U6 ?_;refine U109 ?_;obtain⟨N7,hN7⟩:∃N7,N7=w.heap.size:=⟨_,rfl⟩
  have Fy0:b14<N7:=hN7▸(P3 hob).lt;have h07:w0.heap.size <=N7:=hN7▸hb.size;refine L.call (K2 rfl func98 rfl On0 rfl) (is0 Bl n c a (lst (fun j=>.slice (ia j) (sl j).length (ic j)) n) (by omega) w hB.out (fun u hu=>lq0 hu)) ?_;rintro _ w ⟨a7,c7,rfl,hC,G1⟩;have h7:Bd N7 w:=⟨hN7▸G1.size⟩
  rw[<- hN7]at hC;have hb:=G0 hb G1;have X1:=X1.j0 G1;have hob:=hob.j0 G1;have I2:=I2.j0 G1;clear G1 hN7;refine U169 ?_;intro w b39 F39;have Wz0:=F39.lq hb.size;refine U220 ?_;intro hb X1;have hob:=hob.j0 F39.below;have I2:=I2.j0 F39.below;refine U229 ?_;intro hC h7;have gn0:=F39.blk;refine U172 ?_;intro w b40 F40 Cy0;refine U221 ?_;intro hb X1;have hob:=hob.j0 F40.below;have I2:=I2.j0 F40.below;have hC:=hC.j0 F40.below;refine U227 ?_;intro h7 gn0;have kh0:=F40.blk;refine L.append (B:=N7) (m:=1) rfl rfl underlying95 nx0 rfl (by decide) hC (news:=[.slice (some ⟨b39,0,none⟩) 1 1]) rfl (fun j z hj=>by
   rw[Addr.add_lit]
   match j,hj with
   |0,hj=>cases hj;exact kh0.q0 0 rfl) (fun z hz=>by simp only[List.mem_cons,List.not_mem_nil,or_false]at hz;subst hz;rfl) (by omega) (by omega) h7.h (fun a41 c41 w hL hg G1 hnn=>?_)
  have hmA:=fm0 hC hg h7.h (TS:=[195]) rfl;have Fz0:=(G1.block b14 Fy0).trans hob;refine U52 ?_;intro X1 I2;have h7:=h7.mod hmA rfl;have gn0:=gn0.mod hmA rfl;have hob:K0 w b14 (arr n fun _=>.slice none 0 0) 195:=Fz0;refine U242 ?_;intro hb hL;refine U203 ?_;obtain⟨w1,hw1⟩:∃w1,w1=w:=⟨_,rfl⟩
  subst hw1;have hL1:=hL;have qy0:=hob;have Ga0:w0.heap.size <=b14:=Ro0;refine U534 ?_;intro hX1 hE1 Cz0;refine U191 ?_;intro Ks0 Rp0;have Kt0:=hb.size;have hN1:Bl <=w1.heap.size:=Nat.le_trans hBl hb.size;refine W.loop (fun k e w=>∃(u:Nat),∃(ja:Nat->Option Addr),∃(jc:Nat->Nat),k=n+1-u/\e 4= .pointer (some ⟨b4,0,none⟩)/\e 5= .pointer (some ⟨b5,0,none⟩)/\e 41= .slice a41 (n+1) c41/\e 42= .int .i64 ((n+1:Nat):Int)/\e 43= .int .i64 (u:Nat)/\u <=n+1/\Below w0.heap.size w0 w/\K0 w b4 #[.slice none 0 0,.int .i64 0,.int .i64 0] 97/\K0 w b5 #[.slice (some ⟨b14,0,none⟩) n n,.int .i64 ((kc:Int)+1),.int .i64 (IntKind.i64.wrap (md+1))] 97/\Kg w1 w b14/\WB w w1.heap.size n b14 (at_ ky n (fl (qs sl n en) u)) ja jc) _ ⟨0,(fun _=>none),(fun _=>0),rfl,rfl,rfl,rfl,rfl,rfl,Nat.zero_le _,hb,X1,I2,Kg.refl _ _,WB.start hob⟩ ?_;rintro k e w ⟨u,ja,jc,hk,s4,s5,s41,s42,s43,hu,hb,X1,I2,hK,hW⟩;refine U182 ?_;refine U20 ?_;refine W.w6 rfl (fun h44=>?_) (fun h44=>?_)
  ·have J1:u<n+1:=by omega
   have hxl:(qs sl n en u).length <=1000000:=by have h7:=ls0 (qs sl n en) (u:=u+1) (m:=n+1) J1;rw[bb0,List.length_append,fn0,List.length_append,List.length_singleton]at h7;omega
   refine U245 ?_;refine U341 ?_;rintro k e w ⟨v,ja,jc,hk,s4,s5,s41,s42,s43,s47,s48,s49,hv,hb,X1,I2,hK,hW⟩;refine U244 ?_;refine W.w6 rfl (fun h50=>?_) (fun h50=>?_)
   ·have hlv:v<(qs sl n en u).length:=by omega
    obtain⟨b,hb9⟩:∃b,(qs sl n en u)[v]? =some b:=⟨_,List.getElem?_eq_getElem hlv⟩
    refine U24 ?_;refine U178 ?_;intro hO9;refine L.va (A0 (v:=ptr b) rfl underlying71 rfl (by rw[hO9.off,Nat.zero_add,Nat.mul_one];exact hO9.cell (by rw[List.getElem?_map,hb9];rfl))) ?_;clear hO9;obtain⟨hkz,nm,lt,us,G7⟩:=(hK.zw0 hE1 qy0 (by decide)).all b (qx0.2 ⟨u,J1,List.mem_of_getElem? hb9⟩);have hoc:=hW.out;refine U18 ?_;refine U374 ?_;refine U236 ?_;refine U38 ?_;intro w O2 hb;refine U55 ?_;intro X1 I2 hK hW hoc;refine U401 ?_;rintro _ w ⟨rfl,O2⟩;have hb:=G0 hb O2;refine U55 ?_;intro X1 I2 hK hW hoc;refine U5 ?_;refine U351 ?_;intro hi;refine U17 ?_;intro V3 hb;refine U148 ?_;intro X1 I2;have hK:=hK.j0 V3;have hW:=hW.j0 V3;have hoc:=hoc.j0 V3;clear V3;generalize w.drew=w at *;refine U198 ?_;refine U198 ?_;refine U361 ?_;refine U207 ?_;intro w b68 F68;have ev1:=F68.lq hb.size;refine U217 ?_;intro hb X1;refine U223 ?_;intro I2 hK;refine U224 ?_;intro hW hoc;have Gb0:=F68.blk;refine L.nil ⟨rfl,⟨I2,hoc⟩,?_⟩;refine F.doo rfl rfl ?_;have hNo:=hK.size;have hWo:=hW;have Rq0:(at_ ky n (flv (qs sl n en) u v) (slot n (ky b))).length <=1000000:=by have h8:=oe0 ky n (flv (qs sl n en) u v) (slot n (ky b));have h7:=zx0 (qs sl n en) (v:=v) J1;rw[fn0,List.length_append,List.length_singleton]at h7;omega
    refine L.gk0 (B:=w1.heap.size) (m:=1) rfl rfl underlying195 Of0 rfl (by decide) (hW.inn _ hi) (news:=[ptr b]) rfl (fun j z hj=>by
     rw[Addr.add_lit]
     match j,hj with
     |0,hj=>cases hj;exact Gb0.q0 0 rfl) (fun z hz=>by simp only[List.mem_cons,List.not_mem_nil,or_false]at hz;subst hz;rfl) (by omega) (by omega) hNo (fun a69 c69 w Gc0 hga hwh=>?_)
    refine U200 ?_;intro hmA hb;refine U52 ?_;intro X1 I2;refine U241 ?_;intro hK hoc;refine L.nil ⟨rfl,⟨I2,hoc⟩,?_⟩;refine U8 ?_;refine U346 ?_;intro w A1 hg N2;obtain⟨hW2,-⟩:=WB.add hWo hi hNo hga hwh Gc0 A1 hg;refine U212 ?_;intro Y5 hb;have hK:=hK.other hg;have X1:=X1.mod Y5 rfl;refine U234 ?_;intro I2 hW;refine U237 ?_;exact U411
   ·refine W.exit ?_;exact U239
  ·refine W.exit ?_;refine U21 ?_;have hun:u=n+1:=by omega
   subst hun;rw[fn0]at hW;refine U357 ?_;intro w A1 hg N2;refine U69 ?_;intro Y5 hb;have hW:=hW.mod Y5 rfl;have X1:=A1;refine U56 ?_;exact U370
 ·have V3:Below w.heap.size w w.drew:=(Below.refl w.heap.size w).drew;have hb:=G0 hb V3;refine U57 ?_;intro hB A2;have X1:=X1.j0 V3;clear V3;generalize w.drew=w at *;refine U184 ?_;refine U158 ?_;refine U195 ?_;refine F.doo rfl rfl ?_;refine U64 ?_;intro w b5 F5 lt5;have mu0:=F5.ne A2;refine U40 ?_;intro J8 hb;have hB:=hB.j0 F5.below;refine U71 ?_;intro A2 X1;have I2:=F5.blk;refine L.nil ⟨rfl,A2,?_⟩;refine U173 ?_;intro w b14 F14;have Ro0:=F14.lq hb.size;refine U222 ?_;intro hb hB;refine U226 ?_;intro A2 X1;have I2:=I2.j0 F14.below;have zy0:=F14.blk;have hob:K0 w b14 (arr n fun _=>.slice none 0 0) 195:=by have h9:=zy0;rw[jc0]at h9;exact h9
  clear zy0;refine L.nil ⟨rfl,A2,?_⟩;refine U396 ?_;refine U156 ?_;intro w A1 hg N2 Y5;refine U228 ?_;intro hb hB A2 X1;have hob:=hob.mod Y5 rfl;have I2:=A1;refine U98 ?_;refine U163 ?_;refine U162 ?_;refine U268 ?_;refine U477 ?_;refine U6 ?_;refine U109 ?_;obtain⟨N7,hN7⟩:∃N7,N7=w.heap.size:=⟨_,rfl⟩
  have Fy0:b14<N7:=hN7▸(P3 hob).lt;have h07:w0.heap.size <=N7:=hN7▸hb.size;refine L.call (K2 rfl func98 rfl On0 rfl) (is0 Bl n c a (lst (fun j=>.slice (ia j) (sl j).length (ic j)) n) (by omega) w hB.out (fun u hu=>lq0 hu)) ?_;rintro _ w ⟨a7,c7,rfl,hC,G1⟩;have h7:Bd N7 w:=⟨hN7▸G1.size⟩
  rw[<- hN7]at hC;have hb:=G0 hb G1;refine U147 ?_;intro X1 I2;have hob:=hob.j0 G1;clear G1 hN7;refine U169 ?_;intro w b39 F39;have Wz0:=F39.lq hb.size;refine U220 ?_;intro hb X1;have I2:=I2.j0 F39.below;have hob:=hob.j0 F39.below;refine U229 ?_;intro hC h7;have gn0:=F39.blk;refine U172 ?_;intro w b40 F40 Cy0;refine U221 ?_;intro hb X1;have I2:=I2.j0 F40.below;have hob:=hob.j0 F40.below;have hC:=hC.j0 F40.below;refine U227 ?_;intro h7 gn0;have kh0:=F40.blk;refine L.append (B:=N7) (m:=1) rfl rfl underlying95 nx0 rfl (by decide) hC (news:=[.slice (some ⟨b39,0,none⟩) 1 1]) rfl (fun j z hj=>by
   rw[Addr.add_lit]
   match j,hj with
   |0,hj=>cases hj;exact kh0.q0 0 rfl) (fun z hz=>by simp only[List.mem_cons,List.not_mem_nil,or_false]at hz;subst hz;rfl) (by omega) (by omega) h7.h (fun a41 c41 w hL hg G1 hnn=>?_)
  have hmA:=fm0 hC hg h7.h (TS:=[195]) rfl;have Fz0:=(G1.block b14 Fy0).trans hob;refine U52 ?_;intro X1 I2;have h7:=h7.mod hmA rfl;have gn0:=gn0.mod hmA rfl;have hob:K0 w b14 (arr n fun _=>.slice none 0 0) 195:=Fz0;refine U242 ?_;intro hb hL;refine U203 ?_;obtain⟨w1,hw1⟩:∃w1,w1=w:=⟨_,rfl⟩
  subst hw1;have hL1:=hL;have qy0:=hob;have Ga0:w0.heap.size <=b14:=Ro0;refine U534 ?_;intro hX1 hE1 Cz0;refine U191 ?_;intro Ks0 Rp0;have Kt0:=hb.size;have hN1:Bl <=w1.heap.size:=Nat.le_trans hBl hb.size;refine W.loop (fun k e w=>∃(u:Nat),∃(ja:Nat->Option Addr),∃(jc:Nat->Nat),k=n+1-u/\e 4= .pointer (some ⟨b4,0,none⟩)/\e 5= .pointer (some ⟨b5,0,none⟩)/\e 41= .slice a41 (n+1) c41/\e 42= .int .i64 ((n+1:Nat):Int)/\e 43= .int .i64 (u:Nat)/\u <=n+1/\Below w0.heap.size w0 w/\K0 w b4 #[.slice none 0 0,.int .i64 0,.int .i64 0] 97/\K0 w b5 #[.slice (some ⟨b14,0,none⟩) n n,.int .i64 ((kc:Int)+1),.int .i64 (IntKind.i64.wrap (md+1))] 97/\Kg w1 w b14/\WB w w1.heap.size n b14 (at_ ky n (fl (qs sl n en) u)) ja jc) _ ⟨0,(fun _=>none),(fun _=>0),rfl,rfl,rfl,rfl,rfl,rfl,Nat.zero_le _,hb,X1,I2,Kg.refl _ _,WB.start hob⟩ ?_;rintro k e w ⟨u,ja,jc,hk,s4,s5,s41,s42,s43,hu,hb,X1,I2,hK,hW⟩;refine U182 ?_;refine U20 ?_;refine W.w6 rfl (fun h44=>?_) (fun h44=>?_)
  ·have J1:u<n+1:=by omega
   have hxl:(qs sl n en u).length <=1000000:=by have h7:=ls0 (qs sl n en) (u:=u+1) (m:=n+1) J1;rw[bb0,List.length_append,fn0,List.length_append,List.length_singleton]at h7;omega
   refine U245 ?_;refine U341 ?_;rintro k e w ⟨v,ja,jc,hk,s4,s5,s41,s42,s43,s47,s48,s49,hv,hb,X1,I2,hK,hW⟩;refine U244 ?_;refine W.w6 rfl (fun h50=>?_) (fun h50=>?_)
   ·have hlv:v<(qs sl n en u).length:=by omega
    obtain⟨b,hb9⟩:∃b,(qs sl n en u)[v]? =some b:=⟨_,List.getElem?_eq_getElem hlv⟩
    refine U24 ?_;refine U178 ?_;intro hO9;refine L.va (A0 (v:=ptr b) rfl underlying71 rfl (by rw[hO9.off,Nat.zero_add,Nat.mul_one];exact hO9.cell (by rw[List.getElem?_map,hb9];rfl))) ?_;clear hO9;obtain⟨hkz,nm,lt,us,G7⟩:=(hK.zw0 hE1 qy0 (by decide)).all b (qx0.2 ⟨u,J1,List.mem_of_getElem? hb9⟩);have hoc:=hW.out;refine U18 ?_;refine U374 ?_;refine U236 ?_;refine U38 ?_;intro w O2 hb;refine U55 ?_;intro X1 I2 hK hW hoc;refine U401 ?_;rintro _ w ⟨rfl,O2⟩;have hb:=G0 hb O2;refine U55 ?_;intro X1 I2 hK hW hoc;refine U5 ?_;refine U351 ?_;intro hi;refine U17 ?_;intro V3 hb;refine U148 ?_;intro X1 I2;have hK:=hK.j0 V3;have hW:=hW.j0 V3;have hoc:=hoc.j0 V3;clear V3;generalize w.drew=w at *;refine U198 ?_;refine U198 ?_;refine U361 ?_;refine U207 ?_;intro w b68 F68;have ev1:=F68.lq hb.size;refine U217 ?_;intro hb X1;refine U223 ?_;intro I2 hK;refine U224 ?_;intro hW hoc;have Gb0:=F68.blk;refine L.nil ⟨rfl,⟨I2,hoc⟩,?_⟩;refine F.doo rfl rfl ?_;have hNo:=hK.size;have hWo:=hW;have Rq0:(at_ ky n (flv (qs sl n en) u v) (slot n (ky b))).length <=1000000:=by have h8:=oe0 ky n (flv (qs sl n en) u v) (slot n (ky b));have h7:=zx0 (qs sl n en) (v:=v) J1;rw[fn0,List.length_append,List.length_singleton]at h7;omega
    refine L.gk0 (B:=w1.heap.size) (m:=1) rfl rfl underlying195 Of0 rfl (by decide) (hW.inn _ hi) (news:=[ptr b]) rfl (fun j z hj=>by
     rw[Addr.add_lit]
     match j,hj with
     |0,hj=>cases hj;exact Gb0.q0 0 rfl) (fun z hz=>by simp only[List.mem_cons,List.not_mem_nil,or_false]at hz;subst hz;rfl) (by omega) (by omega) hNo (fun a69 c69 w Gc0 hga hwh=>?_)
    refine U200 ?_;intro hmA hb;refine U52 ?_;intro X1 I2;refine U241 ?_;intro hK hoc;refine L.nil ⟨rfl,⟨I2,hoc⟩,?_⟩;refine U8 ?_;refine U346 ?_;intro w A1 hg N2;obtain⟨hW2,-⟩:=WB.add hWo hi hNo hga hwh Gc0 A1 hg;refine U212 ?_;intro Y5 hb;have hK:=hK.other hg;have X1:=X1.mod Y5 rfl;refine U234 ?_;intro I2 hW;refine U237 ?_;exact U411
   ·refine W.exit ?_;exact U239
  ·refine W.exit ?_;refine U21 ?_;have hun:u=n+1:=by omega
   subst hun;rw[fn0]at hW;refine U357 ?_;intro w A1 hg N2;refine U69 ?_;intro Y5 hb;have hW:=hW.mod Y5 rfl;have X1:=A1;refine U56 ?_;exact U370
set_option maxHeartbeats 2000000 in
theorem ew1 (ky:Nat->ByteArray) (Bl n c kc:Nat) (a:Option Addr) (md:Int) (sl:Nat->List Nat) (ia:Nat->Option Addr) (ic:Nat->Nat) (en:Nat) (h0:0<n) (hn:n <=400000) (hkc:kc <=900000) (hfl:(fl sl n).length <=900000) (hq:4*n<kc+1) (w0:World) (hBl:Bl <=w0.heap.size) (hB:Bk w0 Bl n a c sl ia ic) (hE:as0 w0 ky (fl sl n ++ [en])) :
  C prog 106 #[.agg #[.slice a n c,.int .i64 (kc:Int),.int .i64 md],.pointer (some ⟨en,0,none⟩)] w0 fun v w=>∃a1 c1 ia1 ic1,v= .agg #[.slice a1 (2*n) c1,.int .i64 ((kc:Int)+1),.int .i64 (IntKind.i64.wrap (md+1))]/\Bk w w0.heap.size (2*n) a1 c1 (at_ ky (2*n) (fl sl n ++ [en])) ia1 ic1/\Below w0.heap.size w0 w:=by
 refine C.enter (n:=74) func106 rfl rfl ?_;have hb:Below w0.heap.size w0 w0:=Below.refl _ _;have hB0:=hB;have hE0:=hE;refine U0 ?_;refine L.box (cs:=#[.slice a n c,.int .i64 (kc:Int),.int .i64 md]) rfl rfl (fun w b2 F2=>?_);refine U15 ?_;intro lt2 hb;have hB:=hB.j0 F2.below;have A2:=F2.blk;refine U183 ?_;intro w b4 F4 lt4;have hb:=G0 hb F4.below;have hB:=hB.j0 F4.below;have A2:=A2.j0 F4.below;have X1:=F4.blk;refine U134 ?_;refine W.fl2 12 [3,11] 3 11 [0,1,2,4,5,6,7,8,9,3,10,11] [0,1,2,4,5,6,7,8,9,11,3,10] (fun w'=>K0 w' b2 #[.slice a n c,.int .i64 (kc:Int),.int .i64 md] 97) (by kernel_rfl) (by kernel_rfl) (by kernel_rfl) (by kernel_rfl) (by kernel_rfl) (by kernel_rfl) (A2.j0 (Below.refl w.heap.size w).drew) ?_ ?_
 ·have V3:Below w.heap.size w w.drew:=(Below.refl w.heap.size w).drew;have hb:=G0 hb V3;refine U57 ?_;intro hB A2;have X1:=X1.j0 V3;clear V3;generalize w.drew=w at *;refine U184 ?_;refine U158 ?_;refine U195 ?_;refine U173 ?_;intro w b14 F14;have Ro0:=F14.lq hb.size;refine U222 ?_;intro hb hB;refine U226 ?_;intro A2 X1;have zy0:=F14.blk;clear zy0;refine L.nil ⟨rfl,A2,?_⟩;refine U386 ?_;refine U64 ?_;intro w b5 F5 lt5;have mu0:=F5.ne A2;refine U40 ?_;intro J8 hb;have hB:=hB.j0 F5.below;refine U71 ?_;intro A2 X1;have I2:=F5.blk;refine L.nil ⟨rfl,A2,?_⟩;refine U8 ?_;refine U156 ?_;intro w A1 hg N2 Y5;refine U228 ?_;intro hb hB A2 X1;have I2:=A1;refine U98 ?_;refine U163 ?_;refine U162 ?_;refine U480 ?_;refine U66 ?_;refine U539 ?_;refine U422 ?_;intro w b33 F33;have ex1:=F33.lq hb.size;have hb:=G0 hb F33.below;have hB:=hB.j0 F33.below;have A2:=A2.j0 F33.below;have X1:=X1.j0 F33.below;have I2:=I2.j0 F33.below;have Rr0:=F33.blk;have hob:K0 w b33 (arr (2*n) fun _=>.slice none 0 0) 195:=by have h9:=Rr0;rw[jc0]at h9;exact h9
  clear Rr0;refine U385 ?_;intro w A1 hg N2;refine U90 ?_;intro Y5 hb;refine U300 ?_;intro hB A2 X1;have hob:=hob.mod Y5 rfl;have I2:=A1;refine U98 ?_;refine U109 ?_;obtain⟨N7,hN7⟩:∃N7,N7=w.heap.size:=⟨_,rfl⟩
  have Fy0:b33<N7:=hN7▸(P3 hob).lt;have h07:w0.heap.size <=N7:=hN7▸hb.size;refine L.call (K2 rfl func98 rfl On0 rfl) (is0 Bl n c a (lst (fun j=>.slice (ia j) (sl j).length (ic j)) n) (by omega) w hB.out (fun u hu=>lq0 hu)) ?_;rintro _ w ⟨a7,c7,rfl,hC,G1⟩;have h7:Bd N7 w:=⟨hN7▸G1.size⟩
  rw[<- hN7]at hC;have hb:=G0 hb G1;refine U147 ?_;intro X1 I2;have hob:=hob.j0 G1;clear G1 hN7;refine U169 ?_;intro w b39 F39;have Wz0:=F39.lq hb.size;refine U220 ?_;intro hb X1;have I2:=I2.j0 F39.below;have hob:=hob.j0 F39.below;refine U229 ?_;intro hC h7;have gn0:=F39.blk;refine U172 ?_;intro w b40 F40 Cy0;refine U221 ?_;intro hb X1;have I2:=I2.j0 F40.below;have hob:=hob.j0 F40.below;have hC:=hC.j0 F40.below;refine U227 ?_;intro h7 gn0;have kh0:=F40.blk;refine L.append (B:=N7) (m:=1) rfl rfl underlying95 nx0 rfl (by decide) hC (news:=[.slice (some ⟨b39,0,none⟩) 1 1]) rfl (fun j z hj=>by
   rw[Addr.add_lit]
   match j,hj with
   |0,hj=>cases hj;exact kh0.q0 0 rfl) (fun z hz=>by simp only[List.mem_cons,List.not_mem_nil,or_false]at hz;subst hz;rfl) (by omega) (by omega) h7.h (fun a41 c41 w hL hg G1 hnn=>?_)
  have hmA:=fm0 hC hg h7.h (TS:=[195]) rfl;have Fz0:=(G1.block b33 Fy0).trans hob;refine U52 ?_;intro X1 I2;have h7:=h7.mod hmA rfl;have gn0:=gn0.mod hmA rfl;have hob:K0 w b33 (arr (2*n) fun _=>.slice none 0 0) 195:=Fz0;refine U242 ?_;intro hb hL;refine U203 ?_;obtain⟨w1,hw1⟩:∃w1,w1=w:=⟨_,rfl⟩
  subst hw1;have hL1:=hL;have qy0:=hob;have Ga0:w0.heap.size <=b33:=ex1;refine U535 ?_;intro hX1 hE1 Cz0;refine U191 ?_;intro Ks0 Rp0;have Kt0:=hb.size;have hN1:Bl <=w1.heap.size:=Nat.le_trans hBl hb.size;refine W.loop (fun k e w=>∃(u:Nat),∃(ja:Nat->Option Addr),∃(jc:Nat->Nat),k=n+1-u/\e 4= .pointer (some ⟨b4,0,none⟩)/\e 5= .pointer (some ⟨b5,0,none⟩)/\e 41= .slice a41 (n+1) c41/\e 42= .int .i64 ((n+1:Nat):Int)/\e 43= .int .i64 (u:Nat)/\u <=n+1/\Below w0.heap.size w0 w/\K0 w b4 #[.slice none 0 0,.int .i64 0,.int .i64 0] 97/\K0 w b5 #[.slice (some ⟨b33,0,none⟩) (2*n) (2*n),.int .i64 ((kc:Int)+1),.int .i64 (IntKind.i64.wrap (md+1))] 97/\Kg w1 w b33/\WB w w1.heap.size (2*n) b33 (at_ ky (2*n) (fl (qs sl n en) u)) ja jc) _ ⟨0,(fun _=>none),(fun _=>0),rfl,rfl,rfl,rfl,rfl,rfl,Nat.zero_le _,hb,X1,I2,Kg.refl _ _,WB.start hob⟩ ?_;rintro k e w ⟨u,ja,jc,hk,s4,s5,s41,s42,s43,hu,hb,X1,I2,hK,hW⟩;refine U182 ?_;refine U20 ?_;refine W.w6 rfl (fun h44=>?_) (fun h44=>?_)
  ·have J1:u<n+1:=by omega
   have hxl:(qs sl n en u).length <=1000000:=by have h7:=ls0 (qs sl n en) (u:=u+1) (m:=n+1) J1;rw[bb0,List.length_append,fn0,List.length_append,List.length_singleton]at h7;omega
   refine U245 ?_;refine U339 ?_;rintro k e w ⟨v,ja,jc,hk,s4,s5,s41,s42,s43,s47,s48,s49,hv,hb,X1,I2,hK,hW⟩;refine U244 ?_;refine W.w6 rfl (fun h50=>?_) (fun h50=>?_)
   ·have hlv:v<(qs sl n en u).length:=by omega
    obtain⟨b,hb9⟩:∃b,(qs sl n en u)[v]? =some b:=⟨_,List.getElem?_eq_getElem hlv⟩
    refine U24 ?_;refine U178 ?_;intro hO9;refine L.va (A0 (v:=ptr b) rfl underlying71 rfl (by rw[hO9.off,Nat.zero_add,Nat.mul_one];exact hO9.cell (by rw[List.getElem?_map,hb9];rfl))) ?_;clear hO9;obtain⟨hkz,nm,lt,us,G7⟩:=(hK.zw0 hE1 qy0 (by decide)).all b (qx0.2 ⟨u,J1,List.mem_of_getElem? hb9⟩);have hoc:=hW.out;refine U18 ?_;refine U372 ?_;refine U236 ?_;refine U38 ?_;intro w O2 hb;refine U55 ?_;intro X1 I2 hK hW hoc;refine U392 ?_;rintro _ w ⟨rfl,O2⟩;have hb:=G0 hb O2;refine U55 ?_;intro X1 I2 hK hW hoc;refine U5 ?_;refine U348 ?_;intro hi;refine U17 ?_;intro V3 hb;refine U148 ?_;intro X1 I2;have hK:=hK.j0 V3;have hW:=hW.j0 V3;have hoc:=hoc.j0 V3;clear V3;generalize w.drew=w at *;refine U197 ?_;refine U197 ?_;refine U358 ?_;refine U207 ?_;intro w b68 F68;have ev1:=F68.lq hb.size;refine U217 ?_;intro hb X1;refine U223 ?_;intro I2 hK;refine U224 ?_;intro hW hoc;have Gb0:=F68.blk;refine L.nil ⟨rfl,⟨I2,hoc⟩,?_⟩;refine F.doo rfl rfl ?_;have hNo:=hK.size;have hWo:=hW;have Rq0:(at_ ky (2*n) (flv (qs sl n en) u v) (slot (2*n) (ky b))).length <=1000000:=by have h8:=oe0 ky (2*n) (flv (qs sl n en) u v) (slot (2*n) (ky b));have h7:=zx0 (qs sl n en) (v:=v) J1;rw[fn0,List.length_append,List.length_singleton]at h7;omega
    refine L.gk0 (B:=w1.heap.size) (m:=1) rfl rfl underlying195 Of0 rfl (by decide) (hW.inn _ hi) (news:=[ptr b]) rfl (fun j z hj=>by
     rw[Addr.add_lit]
     match j,hj with
     |0,hj=>cases hj;exact Gb0.q0 0 rfl) (fun z hz=>by simp only[List.mem_cons,List.not_mem_nil,or_false]at hz;subst hz;rfl) (by omega) (by omega) hNo (fun a69 c69 w Gc0 hga hwh=>?_)
    refine U200 ?_;intro hmA hb;refine U52 ?_;intro X1 I2;refine U241 ?_;intro hK hoc;refine L.nil ⟨rfl,⟨I2,hoc⟩,?_⟩;refine U8 ?_;refine U343 ?_;intro w A1 hg N2;obtain⟨hW2,-⟩:=WB.add hWo hi hNo hga hwh Gc0 A1 hg;refine U212 ?_;intro Y5 hb;have hK:=hK.other hg;have X1:=X1.mod Y5 rfl;refine U234 ?_;intro I2 hW;refine U237 ?_;exact U404
   ·refine W.exit ?_;exact U239
  ·refine W.exit ?_;refine U21 ?_;have hun:u=n+1:=by omega
   subst hun;rw[fn0]at hW;refine U356 ?_;intro w A1 hg N2;refine U69 ?_;intro Y5 hb;have hW:=hW.mod Y5 rfl;have X1:=A1;refine U56 ?_;exact U369
 ·have V3:Below w.heap.size w w.drew:=(Below.refl w.heap.size w).drew;have hb:=G0 hb V3;refine U57 ?_;intro hB A2;have X1:=X1.j0 V3;clear V3;generalize w.drew=w at *;refine U184 ?_;refine U158 ?_;refine U195 ?_;refine F.doo rfl rfl ?_;refine U64 ?_;intro w b5 F5 lt5;have mu0:=F5.ne A2;refine U40 ?_;intro J8 hb;have hB:=hB.j0 F5.below;refine U71 ?_;intro A2 X1;have I2:=F5.blk;refine L.nil ⟨rfl,A2,?_⟩;refine U173 ?_;intro w b14 F14;have Ro0:=F14.lq hb.size;refine U222 ?_;intro hb hB;refine U226 ?_;intro A2 X1;have I2:=I2.j0 F14.below;have zy0:=F14.blk;clear zy0;refine L.nil ⟨rfl,A2,?_⟩;refine U396 ?_;refine U156 ?_;intro w A1 hg N2 Y5;refine U228 ?_;intro hb hB A2 X1;have I2:=A1;refine U98 ?_;refine U163 ?_;refine U162 ?_;refine U480 ?_;refine U66 ?_;refine U539 ?_;refine U422 ?_;intro w b33 F33;have ex1:=F33.lq hb.size;have hb:=G0 hb F33.below;have hB:=hB.j0 F33.below;have A2:=A2.j0 F33.below;have X1:=X1.j0 F33.below;have I2:=I2.j0 F33.below;have Rr0:=F33.blk;have hob:K0 w b33 (arr (2*n) fun _=>.slice none 0 0) 195:=by have h9:=Rr0;rw[jc0]at h9;exact h9
  clear Rr0;refine U385 ?_;intro w A1 hg N2;refine U90 ?_;intro Y5 hb;refine U300 ?_;intro hB A2 X1;have hob:=hob.mod Y5 rfl;have I2:=A1;refine U98 ?_;refine U109 ?_;obtain⟨N7,hN7⟩:∃N7,N7=w.heap.size:=⟨_,rfl⟩
  have Fy0:b33<N7:=hN7▸(P3 hob).lt;have h07:w0.heap.size <=N7:=hN7▸hb.size;refine L.call (K2 rfl func98 rfl On0 rfl) (is0 Bl n c a (lst (fun j=>.slice (ia j) (sl j).length (ic j)) n) (by omega) w hB.out (fun u hu=>lq0 hu)) ?_;rintro _ w ⟨a7,c7,rfl,hC,G1⟩;have h7:Bd N7 w:=⟨hN7▸G1.size⟩
  rw[<- hN7]at hC;have hb:=G0 hb G1;refine U147 ?_;intro X1 I2;have hob:=hob.j0 G1;clear G1 hN7;refine U169 ?_;intro w b39 F39;have Wz0:=F39.lq hb.size;refine U220 ?_;intro hb X1;have I2:=I2.j0 F39.below;have hob:=hob.j0 F39.below;refine U229 ?_;intro hC h7;have gn0:=F39.blk;refine U172 ?_;intro w b40 F40 Cy0;refine U221 ?_;intro hb X1;have I2:=I2.j0 F40.below;have hob:=hob.j0 F40.below;have hC:=hC.j0 F40.below;refine U227 ?_;intro h7 gn0;have kh0:=F40.blk;refine L.append (B:=N7) (m:=1) rfl rfl underlying95 nx0 rfl (by decide) hC (news:=[.slice (some ⟨b39,0,none⟩) 1 1]) rfl (fun j z hj=>by
   rw[Addr.add_lit]
   match j,hj with
   |0,hj=>cases hj;exact kh0.q0 0 rfl) (fun z hz=>by simp only[List.mem_cons,List.not_mem_nil,or_false]at hz;subst hz;rfl) (by omega) (by omega) h7.h (fun a41 c41 w hL hg G1 hnn=>?_)
  have hmA:=fm0 hC hg h7.h (TS:=[195]) rfl;have Fz0:=(G1.block b33 Fy0).trans hob;refine U52 ?_;intro X1 I2;have h7:=h7.mod hmA rfl;have gn0:=gn0.mod hmA rfl;have hob:K0 w b33 (arr (2*n) fun _=>.slice none 0 0) 195:=Fz0;refine U242 ?_;intro hb hL;refine U203 ?_;obtain⟨w1,hw1⟩:∃w1,w1=w:=⟨_,rfl⟩
  subst hw1;have hL1:=hL;have qy0:=hob;have Ga0:w0.heap.size <=b33:=ex1;refine U535 ?_;intro hX1 hE1 Cz0;refine U191 ?_;intro Ks0 Rp0;have Kt0:=hb.size;have hN1:Bl <=w1.heap.size:=Nat.le_trans hBl hb.size;refine W.loop (fun k e w=>∃(u:Nat),∃(ja:Nat->Option Addr),∃(jc:Nat->Nat),k=n+1-u/\e 4= .pointer (some ⟨b4,0,none⟩)/\e 5= .pointer (some ⟨b5,0,none⟩)/\e 41= .slice a41 (n+1) c41/\e 42= .int .i64 ((n+1:Nat):Int)/\e 43= .int .i64 (u:Nat)/\u <=n+1/\Below w0.heap.size w0 w/\K0 w b4 #[.slice none 0 0,.int .i64 0,.int .i64 0] 97/\K0 w b5 #[.slice (some ⟨b33,0,none⟩) (2*n) (2*n),.int .i64 ((kc:Int)+1),.int .i64 (IntKind.i64.wrap (md+1))] 97/\Kg w1 w b33/\WB w w1.heap.size (2*n) b33 (at_ ky (2*n) (fl (qs sl n en) u)) ja jc) _ ⟨0,(fun _=>none),(fun _=>0),rfl,rfl,rfl,rfl,rfl,rfl,Nat.zero_le _,hb,X1,I2,Kg.refl _ _,WB.start hob⟩ ?_;rintro k e w ⟨u,ja,jc,hk,s4,s5,s41,s42,s43,hu,hb,X1,I2,hK,hW⟩;refine U182 ?_;refine U20 ?_;refine W.w6 rfl (fun h44=>?_) (fun h44=>?_)
  ·have J1:u<n+1:=by omega
   have hxl:(qs sl n en u).length <=1000000:=by have h7:=ls0 (qs sl n en) (u:=u+1) (m:=n+1) J1;rw[bb0,List.length_append,fn0,List.length_append,List.length_singleton]at h7;omega
   refine U245 ?_;refine U339 ?_;rintro k e w ⟨v,ja,jc,hk,s4,s5,s41,s42,s43,s47,s48,s49,hv,hb,X1,I2,hK,hW⟩;refine U244 ?_;refine W.w6 rfl (fun h50=>?_) (fun h50=>?_)
   ·have hlv:v<(qs sl n en u).length:=by omega
    obtain⟨b,hb9⟩:∃b,(qs sl n en u)[v]? =some b:=⟨_,List.getElem?_eq_getElem hlv⟩
    refine U24 ?_;refine U178 ?_;intro hO9;refine L.va (A0 (v:=ptr b) rfl underlying71 rfl (by rw[hO9.off,Nat.zero_add,Nat.mul_one];exact hO9.cell (by rw[List.getElem?_map,hb9];rfl))) ?_;clear hO9;obtain⟨hkz,nm,lt,us,G7⟩:=(hK.zw0 hE1 qy0 (by decide)).all b (qx0.2 ⟨u,J1,List.mem_of_getElem? hb9⟩);have hoc:=hW.out;refine U18 ?_;refine U372 ?_;refine U236 ?_;refine U38 ?_;intro w O2 hb;refine U55 ?_;intro X1 I2 hK hW hoc;refine U392 ?_;rintro _ w ⟨rfl,O2⟩;have hb:=G0 hb O2;refine U55 ?_;intro X1 I2 hK hW hoc;refine U5 ?_;refine U348 ?_;intro hi;refine U17 ?_;intro V3 hb;refine U148 ?_;intro X1 I2;have hK:=hK.j0 V3;have hW:=hW.j0 V3;have hoc:=hoc.j0 V3;clear V3;generalize w.drew=w at *;refine U197 ?_;refine U197 ?_;refine U358 ?_;refine U207 ?_;intro w b68 F68;have ev1:=F68.lq hb.size;refine U217 ?_;intro hb X1;refine U223 ?_;intro I2 hK;refine U224 ?_;intro hW hoc;have Gb0:=F68.blk;refine L.nil ⟨rfl,⟨I2,hoc⟩,?_⟩;refine F.doo rfl rfl ?_;have hNo:=hK.size;have hWo:=hW;have Rq0:(at_ ky (2*n) (flv (qs sl n en) u v) (slot (2*n) (ky b))).length <=1000000:=by have h8:=oe0 ky (2*n) (flv (qs sl n en) u v) (slot (2*n) (ky b));have h7:=zx0 (qs sl n en) (v:=v) J1;rw[fn0,List.length_append,List.length_singleton]at h7;omega
    refine L.gk0 (B:=w1.heap.size) (m:=1) rfl rfl underlying195 Of0 rfl (by decide) (hW.inn _ hi) (news:=[ptr b]) rfl (fun j z hj=>by
     rw[Addr.add_lit]
     match j,hj with
     |0,hj=>cases hj;exact Gb0.q0 0 rfl) (fun z hz=>by simp only[List.mem_cons,List.not_mem_nil,or_false]at hz;subst hz;rfl) (by omega) (by omega) hNo (fun a69 c69 w Gc0 hga hwh=>?_)
    refine U200 ?_;intro hmA hb;refine U52 ?_;intro X1 I2;refine U241 ?_;intro hK hoc;refine L.nil ⟨rfl,⟨I2,hoc⟩,?_⟩;refine U8 ?_;refine U343 ?_;intro w A1 hg N2;obtain⟨hW2,-⟩:=WB.add hWo hi hNo hga hwh Gc0 A1 hg;refine U212 ?_;intro Y5 hb;have hK:=hK.other hg;have X1:=X1.mod Y5 rfl;refine U234 ?_;intro I2 hW;refine U237 ?_;exact U404
   ·refine W.exit ?_;exact U239
  ·refine W.exit ?_;refine U21 ?_;have hun:u=n+1:=by omega
   subst hun;rw[fn0]at hW;refine U356 ?_;intro w A1 hg N2;refine U69 ?_;intro Y5 hb;have hW:=hW.mod Y5 rfl;have X1:=A1;refine U56 ?_;exact U369
theorem ey1 (ky:Nat->ByteArray) (Bl n c kc:Nat) (a:Option Addr) (md:Int) (sl:Nat->List Nat) (ia:Nat->Option Addr) (ic:Nat->Nat) (en:Nat) (h0:0<n) (hn:n <=400000) (hkc:kc <=900000) (hfl:(fl sl n).length <=900000) (w0:World) (hBl:Bl <=w0.heap.size) (hB:Bk w0 Bl n a c sl ia ic) (hE:as0 w0 ky (fl sl n ++ [en])) :
  C prog 106 #[.agg #[.slice a n c,.int .i64 (kc:Int),.int .i64 md],.pointer (some ⟨en,0,none⟩)] w0 fun v w=>∃a1 c1 ia1 ic1,v= .agg #[.slice a1 (wn n kc) c1,.int .i64 ((kc:Int)+1),.int .i64 (IntKind.i64.wrap (md+1))]/\Bk w w0.heap.size (wn n kc) a1 c1 (at_ ky (wn n kc) (fl sl n ++ [en])) ia1 ic1/\Below w0.heap.size w0 w:=by
 unfold wn;by_cases hq:4*n<kc+1
 ·rw[if_pos hq];exact ew1 ky Bl n c kc a md sl ia ic en h0 hn hkc hfl hq w0 hBl hB hE
 ·rw[if_neg hq];exact eu1 ky Bl n c kc a md sl ia ic en h0 hn hkc hfl hq w0 hBl hB hE
end
end Go.Vy.Sc
end
section
namespace Go.Vy
open Go Go.Conc Go.Yc
open Go.Vc (Env upd R3 ev)
open Go.RowKit Go.Proofs
section
variable {P:Program}{ρ:Operand->Value}{d:Option Nat}{ty:TypeId}{ps:String}{af:Array Edge}{g:Option (Nat×Bool)}{x y:Operand}{w:World}
theorem _root_.Go.Vc.ra0 {f:FuncId} {fn:Func} {aT:Array TypeId} {a:Addr} {k:IntKind} {z:Int} {u:Value} (hx:ρ x= .pointer (some a)) (hy:ρ y= .int k z) (hf:P.funcs[f]? =some fn) (D4:(fn.name== "runtime.NumGoroutine")=false) (hb:fn.body.isNone=true) (hn:Extern.findNext fn=none)
  (he:Extern.find fn=some Extern.Atomic.storeT) (hc:w.cell? a=some u) (hz:w.frozen? a=false) (hρ:ρ (.func f)= .func (.func f) #[] #[]) :
  (execOp ρ ⟨d,.call ⟨.value (.func f),#[x,y],aT⟩,ty,ps,af,g⟩).run P w= .ok (.value (.tuple #[])) (w.setCell a (.int k z)):=by
 have h1:(callFunc f #[.pointer (some a),.int k z]).run P w= .ok (.value (.tuple #[])) (w.setCell a (.int k z)):=by
  rw[run_callFunc_extern hf D4 hb hn he];change (Sem.run P (do
   store (<- asAddr (.pointer (some a))) (.int k z) .atomic
   pure Extern.Atomic.none_) w).andThen _=_
  simp[asAddr,hc,hz,run_store P w a (.int k z) .atomic rfl,Result.andThen,Extern.Atomic.none_]
 simp[execOp,resolve,hρ,Deferred.ofValue,invoke,hx,hy,h1]
theorem ra0 {f:FuncId} {fn:Func} {aT:Array TypeId} {a:Addr} {k:IntKind} {z:Int} {u:Value} (hx:ρ x= .pointer (some a)) (hy:ρ y= .int k z) (hf:P.funcs[f]? =some fn) (D4:(fn.name== "runtime.NumGoroutine")=false) (hb:fn.body.isNone=true) (hn:Extern.findNext fn=none)
  (he:Extern.find fn=some Extern.Atomic.storeT) (hc:w.cell? a=some u) (hz:w.frozen? a=false) (hρ:ρ (.func f)= .func (.func f) #[] #[]) :
  Does P (execOp ρ ⟨d,.call ⟨.value (.func f),#[x,y],aT⟩,ty,ps,af,g⟩) w (.val (.tuple #[])) (w.setCell a (.int k z)) :=
 .Q0 (by
  show j1 P (do let d <- Deferred.ofValue (ρ (.func f)) (#[x,y].map ρ);invoke d.target d.args);rw[hρ];show j1 P (callFunc f (#[] ++ #[x,y].map ρ ++ #[]));refine Qq0 hf D4 hb hn he ?_;have e1:(#[] ++ #[x,y].map ρ ++ #[]:Array Value)=#[.pointer (some a),.int k z]:=by simp[hx,hy]
  rw[e1];show j1 P (do store (<- asAddr (.pointer (some a))) (.int k z) .atomic;pure Extern.Atomic.none_);exact C1 (P8 _) fun b=>C1 (N9 _ _ _) fun _=>B1 _) rfl rfl fun τ dd=>Go.Vc.ra0 hx hy hf D4 hb hn he hc hz hρ
end
end Go.Vy
namespace Go.Vy.Sc
open Go Go.Conc Go.Yc Go.RowKit Go.Proofs Go.Proofs.YtinppmaojmdmhaaGreat Tryz
open Go.Vc Go.Wg
theorem exI:Extern.find Tryz.f154=some Extern.Atomic.storeT:=by kernel_rfl
theorem enI:Extern.findNext Tryz.f154=none:=by kernel_rfl
theorem buM (x:Option Addr):prog.built 187 [(0,.iface 242 (.pointer x))]=some #[.iface 242 (.pointer x)]:=by kernel_rfl
theorem buR (x:Option Addr):prog.built 160 [(0,.iface 242 (.pointer x))]=some #[.iface 242 (.pointer x)]:=by kernel_rfl
section
variable [Ctx prog]
end
section
theorem Rs0 (x0:Int) (x1:Int):prog.built 162 [(0,.int .i64 x0),(1,.int .i64 x1)]=some #[.int .i64 x0,.int .i64 x1]:=by kernel_rfl
theorem ez1 (x0:Int) (x1:Int):prog.built 244 [(0,.agg #[.int .i64 x0,.int .i64 x1])]=some #[.int .i64 x0,.int .i64 x1,.bool false,.int .i64 0]:=by kernel_rfl
theorem fa1 (x0:Int) (x1:Int) (x2:Option Addr) (x3:Int):prog.built 191 [(0,.agg #[.int .i64 x0,.int .i64 x1]),(1,.pointer x2),(2,.int .i64 x3)]=some #[.int .i64 x0,.int .i64 x1,.pointer x2,.int .i64 x3,.int .i64 0]:=by kernel_rfl
theorem fb1 (x0:Option Addr) (x1:Nat) (x2:Nat):prog.built 97 [(0,.slice x0 x1 x2)]=some #[.slice x0 x1 x2,.int .i64 0,.int .i64 0]:=by kernel_rfl
end
section
variable [Ctx prog]
theorem Ku0 (wb:Nat) (obj num:Int) (w0:World) (hW:K0 w0 wb #[.bool false] 99):C prog 68 #[.pointer (some ⟨wb,0,none⟩),.int .i64 obj,.int .i64 num] w0 fun v w=>∃sb,v= .iface 242 (.pointer (some ⟨sb,0,none⟩))/\w0.heap.size <=sb/\K0 w sb #[.int .i64 obj,.int .i64 num,.bool false,.int .i64 0] 244/\Below w0.heap.size w0 w:=by
 refine C.enter (n:=18) func68 rfl rfl ?_;refine U1 ?_;intro hb;refine U19 ?_;refine U179 ?_;refine L.call (K2 rfl func69 rfl cw1 rfl) (qs0 wb _ hW) ?_;rintro _ w1 ⟨rfl,hw⟩;refine U96 ?_;refine U85 ?_;refine U326 ?_;refine L.va (G2 (parts:=[(0,.tmp 12),(1,.tmp 13)]) rfl (Rs0 obj num)) ?_;refine L.va (G2 (parts:=[(0,.tmp 14)]) rfl (ez1 obj num)) ?_;refine L.box (cs:=#[.int .i64 obj,.int .i64 num,.bool false,.int .i64 0]) rfl rfl (fun w b16 F16=>?_);have Xa0:=F16.lq hb.size;have hb:=G0 hb F16.below;have Kv0:=F16.blk;refine L.va (bh0 (v:=.pointer (some ⟨b16,0,none⟩)) rfl underlying242 rfl) ?_;refine U141 ?_;exact⟨b16,rfl,Xa0,Kv0,hb⟩
theorem Rt0 (wb:Nat) (obj num:Int) (w0:World) (hW:K0 w0 wb #[.bool false] 99):C prog 104 #[.pointer (some ⟨wb,0,none⟩),.int .i64 obj,.int .i64 num] w0 fun v w=>∃mb sb,v= .pointer (some ⟨mb,0,none⟩)/\w0.heap.size <=mb/\w0.heap.size <=sb/\K0 w mb #[.iface 242 (.pointer (some ⟨sb,0,none⟩))] 187/\K0 w sb #[.int .i64 obj,.int .i64 num,.bool false,.int .i64 0] 244/\Below w0.heap.size w0 w:=by
 refine C.enter (n:=13) func104 rfl rfl ?_;refine U1 ?_;intro hb;refine U41 ?_;refine U22 ?_;refine U451 ?_;rintro _ w ⟨sb,rfl,lts,hS,O2⟩;have lts:=Nat.le_trans hb.size lts;have hb:=G0 hb O2;refine L.va (G2 (vs:=[(0,(.iface 242 (.pointer (some ⟨sb,0,none⟩))))]) rfl (buM _)) ?_;refine L.box (cs:=#[(.iface 242 (.pointer (some ⟨sb,0,none⟩)))]) rfl rfl (fun w b12 F12=>?_);have Xb0:=F12.lq hb.size;have hb:=G0 hb F12.below;have hS:=hS.j0 F12.below;have Gd0:=F12.blk;refine U101 ?_;exact⟨b12,sb,rfl,Xb0,lts,Gd0,hS,hb⟩
theorem Ge0 (wb:Nat) (obj num:Int) (w0:World) (hW:K0 w0 wb #[.bool false] 99):C prog 37 #[.pointer (some ⟨wb,0,none⟩),.int .i64 obj,.int .i64 num] w0 fun v w=>∃mb sb,v= .pointer (some ⟨mb,0,none⟩)/\w0.heap.size <=mb/\w0.heap.size <=sb/\K0 w mb #[.iface 242 (.pointer (some ⟨sb,0,none⟩))] 160/\K0 w sb #[.int .i64 obj,.int .i64 num,.bool false,.int .i64 0] 244/\Below w0.heap.size w0 w:=by
 refine C.enter (n:=13) func37 rfl rfl ?_;refine U1 ?_;intro hb;refine U41 ?_;refine U22 ?_;refine U451 ?_;rintro _ w ⟨sb,rfl,lts,hS,O2⟩;have lts:=Nat.le_trans hb.size lts;have hb:=G0 hb O2;refine L.va (G2 (vs:=[(0,(.iface 242 (.pointer (some ⟨sb,0,none⟩))))]) rfl (buR _)) ?_;refine L.box (cs:=#[(.iface 242 (.pointer (some ⟨sb,0,none⟩)))]) rfl rfl (fun w b12 F12=>?_);have Xb0:=F12.lq hb.size;have hb:=G0 hb F12.below;have hS:=hS.j0 F12.below;have Gd0:=F12.blk;refine U101 ?_;exact⟨b12,sb,rfl,Xb0,lts,Gd0,hS,hb⟩
theorem Kw0 (cb:Nat) (a b c d e:Value) (x:Int) (w0:World) (hC:K0 w0 cb #[a,b,c,d,e] 191) :
  C prog 135 #[.pointer (some ⟨cb,4,none⟩),.int .i64 x] w0 fun _ w=>K0 w cb #[a,b,c,d,.int .i64 x] 191/\w0.grownBy w (some cb):=by
 refine C.enter (n:=9) func135 rfl rfl ?_;refine W.region rfl ?_;refine U10 ?_;refine L.va (B0 rfl underlying189 rfl sz2 (by decide)) ?_;refine L.va (C4 rfl) ?_;refine L.va (ra0 (u:=e) rfl rfl func154 lh1 rfl enI exI (hC.q0 4 rfl) hC.frozen rfl) ?_;refine U82 ?_;exact⟨hC.set (o:=4) (.int .i64 x),js0 w0 ⟨cb,4,none⟩ _⟩
theorem Gf0 (wb:Nat) (obj num:Int) (x:Int) (w0:World) (hW:K0 w0 wb #[.bool false] 99):C prog 105 #[.pointer (some ⟨wb,0,none⟩),.int .i64 obj,.int .i64 num,.int .i64 x] w0 fun v w=>∃cb sa,v= .pointer (some ⟨cb,0,none⟩)/\w0.heap.size <=cb/\K0 w cb #[.int .i64 obj,.int .i64 num,.pointer (some ⟨wb,0,none⟩),.int .i64 x,sa] 191/\Below w0.heap.size w0 w:=by
 refine C.enter (n:=23) func105 rfl rfl ?_;refine U1 ?_;intro hb;refine U18 ?_;refine U326 ?_;refine L.va (G2 (parts:=[(0,.tmp 10),(1,.tmp 11)]) rfl (Rs0 obj num)) ?_;refine U22 ?_;refine L.va (G2 (parts:=[(0,.tmp 12),(1,.tmp 13),(2,.tmp 14)]) rfl (fa1 obj num ((some ⟨wb,0,none⟩)) x)) ?_;refine L.box (cs:=#[.int .i64 obj,.int .i64 num,.pointer (some ⟨wb,0,none⟩),.int .i64 x,.int .i64 0]) rfl rfl (fun w b16 F16=>?_);have Xa0:=F16.lq hb.size;have hb:=G0 hb F16.below;have Kv0:=F16.blk;refine U41 ?_;refine U10 ?_;refine L.va (B0 rfl underlying191 rfl jt1 (by decide)) ?_;refine L.va (C4 rfl) ?_;refine L.call (P2 rfl rfl func135 rfl lc1 rfl) (Kw0 b16 _ _ _ _ _ x _ Kv0) ?_;rintro _ w ⟨A1,hg⟩;have Y5:=N4.ei0 Kv0 hg;have hb:=M4 hb hb.size hg Xa0;have Kv0:=A1;refine U28 ?_;refine U48 ?_;refine U101 ?_;exact⟨b16,_,rfl,Xa0,Kv0,hb⟩
theorem fc1 (b:Nat) (q:ByteArray) (nm:Int) (lt us:Option Addr) (w0:World) (hB:K0 w0 b #[.string q,.int .i64 nm,.pointer lt,.pointer us] 127):C prog 30 #[.pointer (some ⟨b,0,none⟩)] w0 fun v w=>v= .string q/\w=w0:=by
 refine C.enter (n:=9) func30 rfl rfl ?_;refine U145 ?_;refine U201 ?_;refine U25 ?_;refine U503 ?_;refine L.va (A0 rfl underlying9 rfl (hB.q0 0 (v:=.string q) rfl)) ?_;refine U19 ?_;exact U29
theorem fd1 (b:Nat) (q:ByteArray) (nm:Int) (lt us:Option Addr) (w0:World) (hB:K0 w0 b #[.string q,.int .i64 nm,.pointer lt,.pointer us] 127):C prog 31 #[.pointer (some ⟨b,0,none⟩)] w0 fun v w=>v= .int .i64 nm/\w=w0:=by
 refine C.enter (n:=9) func31 rfl rfl ?_;refine U42 ?_;refine U201 ?_;refine U25 ?_;refine U10 ?_;refine L.va (B0 rfl underlying127 rfl sz3 (by decide)) ?_;refine L.va (A0 rfl underlying3 rfl (hB.q0 1 (v:=.int .i64 nm) rfl)) ?_;refine U5 ?_;exact U29
theorem Ru0 (w0:World):C prog 30 #[.pointer none] w0 fun v w=>v= .string ⟨#[]⟩/\w=w0:=by
 refine C.enter (n:=9) func30 rfl rfl ?_;refine U145 ?_;refine U201 ?_;refine U33 ?_;refine U145 ?_;exact U29
theorem Rv0 (w0:World):C prog 31 #[.pointer none] w0 fun v w=>v= .int .i64 (-1)/\w=w0:=by
 refine C.enter (n:=9) func31 rfl rfl ?_;refine U42 ?_;refine U201 ?_;refine U33 ?_;refine U42 ?_;exact U29
def ak0 (wb:Nat) (obj:Int) (n:Nat) (rl cl:Nat->Nat) (u v:Nat) (j:Nat):Value :=
 if j=0 then .pointer (some ⟨wb,0,none⟩) else if j=1 then .int .i64 obj else if j=2 then .int .i64 (n:Int) else if j<67 then(if j-3<u then .pointer (some ⟨rl (j-3),0,none⟩) else .pointer none) else(if j-67<v then .pointer (some ⟨cl (j-67),0,none⟩) else .pointer none)
omit [Ctx prog] in
theorem K0.at_ {w:World} {b N i:Nat} {f:Nat->Value} {T:TypeId} (h:K0 w b (arr N f) T) (hi:i<N):w.cell? ⟨b,i,none⟩=some (f i):=by
 have h1:=K0.lr0 h hi
 rwa [show 0+i*1=i by omega]at h1
theorem Da0 (tb wb:Nat) (obj:Int) (n:Nat) (rl cl:Nat->Nat) (u v:Nat) (q:ByteArray) (hk:q.size <=1000000000000) (h0:0<n) (hn:n <=64) (w0:World) (hT:K0 w0 tb (arr 131 (ak0 wb obj n rl cl u v)) 92) :
  C prog 51 #[.pointer (some ⟨tb,0,none⟩),.string q] w0 fun x w=>x= .int .i64 (M9 n q:Int)/\w=w0:=by
 refine C.enter (n:=11) func51 rfl rfl ?_;refine U42 ?_;refine U130 ?_;refine U509 ?_;refine L.va (A0 (v:=.int .i64 (n:Int)) rfl underlying3 rfl (K0.at_ hT (i:=2) (by omega))) ?_;refine L.call (P2 rfl rfl func91 rfl rn1 rfl) (Wu0 q n hk h0 hn _) ?_;rintro _ w9 ⟨rfl,hw9⟩;refine U30 ?_;refine U5 ?_;exact U29
omit [Ctx prog] in
theorem Db0 {N o:Nat} {f g:Nat->Value} {v:Value} (ho:o<N) (hv:g o=v) (hg:∀j,j≠o->g j=f j):setRow (arr N f) o [v]=arr N g:=by
 have h1:=ed0 (i:=o) (f:=f) (g:=g) ho hv hg
 rwa [show 0+o*1=o by omega]at h1
omit [Ctx prog] in
theorem Rw0 {wb n i v mb:Nat} {obj:Int} {rl cl:Nat->Nat} (hi:i<64):setRow (arr 131 (ak0 wb obj n rl cl i v)) (3+i*1) [.pointer (some ⟨mb,0,none⟩)]=arr 131 (ak0 wb obj n (o3 rl i mb) cl (i+1) v):=by
 refine Db0 (by omega) ?_ fun j hj=>?_
 ·unfold ak0;rw[if_neg (by omega),if_neg (by omega),if_neg (by omega),if_pos (by omega),show 3+i*1-3=i by omega,if_pos (by omega),Y0]
 ·unfold ak0;by_cases h0:j=0
  ·rw[if_pos h0,if_pos h0]
  by_cases h1:j=1
  ·rw[if_neg h0,if_neg h0,if_pos h1,if_pos h1]
  by_cases h2:j=2
  ·rw[if_neg h0,if_neg h0,if_neg h1,if_neg h1,if_pos h2,if_pos h2]
  rw[if_neg h0,if_neg h0,if_neg h1,if_neg h1,if_neg h2,if_neg h2];by_cases h3:j<67
  ·rw[if_pos h3,if_pos h3];by_cases h4:j-3<i
   ·rw[if_pos h4,if_pos (by omega),Z0 (by omega)]
   ·rw[if_neg h4,if_neg (by omega)]
  ·rw[if_neg h3,if_neg h3]
omit [Ctx prog] in
theorem Rx0 {wb n i u cb:Nat} {obj:Int} {rl cl:Nat->Nat} (hi:i<64):setRow (arr 131 (ak0 wb obj n rl cl u i)) (67+i*1) [.pointer (some ⟨cb,0,none⟩)]=arr 131 (ak0 wb obj n rl (o3 cl i cb) u (i+1)):=by
 refine Db0 (by omega) ?_ fun j hj=>?_
 ·unfold ak0;rw[if_neg (by omega),if_neg (by omega),if_neg (by omega),if_neg (by omega),show 67+i*1-67=i by omega,if_pos (by omega),Y0]
 ·unfold ak0;by_cases h0:j=0
  ·rw[if_pos h0,if_pos h0]
  by_cases h1:j=1
  ·rw[if_neg h0,if_neg h0,if_pos h1,if_pos h1]
  by_cases h2:j=2
  ·rw[if_neg h0,if_neg h0,if_neg h1,if_neg h1,if_pos h2,if_pos h2]
  rw[if_neg h0,if_neg h0,if_neg h1,if_neg h1,if_neg h2,if_neg h2];by_cases h3:j<67
  ·rw[if_pos h3,if_pos h3]
  ·rw[if_neg h3,if_neg h3];by_cases h4:j-67<i
   ·rw[if_pos h4,if_pos (by omega),Z0 (by omega)]
   ·rw[if_neg h4,if_neg (by omega)]
structure TLk (w:World) (B:Nat) (obj:Int) (rl ls:Nat->Nat) (u:Nat):Prop where
 all:∀j,j<u->B <=rl j/\B <=ls j/\K0 w (rl j) #[.iface 242 (.pointer (some ⟨ls j,0,none⟩))] 160/\K0 w (ls j) #[.int .i64 obj,.int .i64 (j:Nat),.bool false,.int .i64 0] 244
structure TCl (w:World) (B wb:Nat) (obj:Int) (cl bk:Nat->Nat) (v:Nat):Prop where
 all:∀j,j<v->B <=cl j/\B <=bk j/\K0 w (cl j) #[.int .i64 obj,.int .i64 (j:Nat),.pointer (some ⟨wb,0,none⟩),.slice (some ⟨bk j,0,none⟩) 1 1,.int .i64 0,.int .i64 0] 164/\K0 w (bk j) #[.slice none 0 0] 195
section
omit [Ctx prog]
variable {w w':World}{B wb u:Nat}{obj:Int}{rl ls cl bk:Nat->Nat}
theorem TLk.j0 (h:TLk w B obj rl ls u) (hb:Below w.heap.size w w'):TLk w' B obj rl ls u:=⟨fun j hj=>let⟨a,b,c,d⟩:=h.all j hj;⟨a,b,c.j0 hb,d.j0 hb⟩⟩
theorem TCl.j0 (h:TCl w B wb obj cl bk u) (hb:Below w.heap.size w w'):TCl w' B wb obj cl bk u:=⟨fun j hj=>let⟨a,b,c,d⟩:=h.all j hj;⟨a,b,c.j0 hb,d.j0 hb⟩⟩
theorem TLk.mod {N:Nat} {TS:List TypeId} (h:TLk w B obj rl ls u) (hm:N4 w w' N TS) (hT:(TS.contains 160 ||TS.contains 244)=false):TLk w' B obj rl ls u:=by
 simp only[Bool.or_eq_false_iff]at hT;exact⟨fun j hj=>let⟨a,b,c,d⟩:=h.all j hj;⟨a,b,c.mod hm hT.1,d.mod hm hT.2⟩⟩
theorem TCl.mod {N:Nat} {TS:List TypeId} (h:TCl w B wb obj cl bk u) (hm:N4 w w' N TS) (hT:(TS.contains 164 ||TS.contains 195)=false):TCl w' B wb obj cl bk u:=by
 simp only[Bool.or_eq_false_iff]at hT;exact⟨fun j hj=>let⟨a,b,c,d⟩:=h.all j hj;⟨a,b,c.mod hm hT.1,d.mod hm hT.2⟩⟩
theorem TLk.add {mb sb:Nat} (h:TLk w B obj rl ls u) (h1:B <=mb) (h2:B <=sb) (hM:K0 w mb #[.iface 242 (.pointer (some ⟨sb,0,none⟩))] 160) (hS:K0 w sb #[.int .i64 obj,.int .i64 (u:Nat),.bool false,.int .i64 0] 244):TLk w B obj (o3 rl u mb) (o3 ls u sb) (u+1):=⟨fun j hj=>by
 by_cases e:j=u
 ·subst e;rw[Y0,Y0];exact⟨h1,h2,hM,hS⟩
 ·rw[Z0 e,Z0 e];exact h.all j (by omega)⟩
theorem TCl.add {cb sb:Nat} (h:TCl w B wb obj cl bk u) (h1:B <=cb) (h2:B <=sb) (hC:K0 w cb #[.int .i64 obj,.int .i64 (u:Nat),.pointer (some ⟨wb,0,none⟩),.slice (some ⟨sb,0,none⟩) 1 1,.int .i64 0,.int .i64 0] 164) (hS:K0 w sb #[.slice none 0 0] 195):TCl w B wb obj (o3 cl u cb) (o3 bk u sb) (u+1):=⟨fun j hj=>by
 by_cases e:j=u
 ·subst e;rw[Y0,Y0];exact⟨h1,h2,hC,hS⟩
 ·rw[Z0 e,Z0 e];exact h.all j (by omega)⟩
theorem TLk.none:TLk w B obj rl ls 0:=⟨fun _j hj=>absurd hj (Nat.not_lt_zero _)⟩
theorem TCl.none:TCl w B wb obj cl bk 0:=⟨fun _j hj=>absurd hj (Nat.not_lt_zero _)⟩
end
omit [Ctx prog] in
theorem ns1 (wb:Nat) (obj:Int) (n:Nat):prog.built 92 [(0,.pointer (some ⟨wb,0,none⟩)),(1,.int .i64 obj),(2,.int .i64 (n:Int))]=some (arr 131 (ak0 wb obj n (fun _=>0) (fun _=>0) 0 0)):=by kernel_rfl
set_option maxHeartbeats 1000000 in
theorem Xc0 (wb:Nat) (obj:Int) (n:Nat) (h0:0<n) (hn:n <=64) (w0:World) (hW:K0 w0 wb #[.bool false] 99):C prog 12 #[.pointer (some ⟨wb,0,none⟩),.int .i64 obj,.int .i64 (n:Int)] w0 fun v w=>∃tb rl ls cl bk,v= .tuple #[.pointer (some ⟨tb,0,none⟩),.int .i64 0]/\w0.heap.size <=tb/\K0 w tb (arr 131 (ak0 wb obj n rl cl n n)) 92/\TLk w w0.heap.size obj rl ls n/\TCl w w0.heap.size wb (IntKind.i64.wrap (obj+1)) cl bk n/\Below w0.heap.size w0 w:=by
 refine C.enter (n:=48) func12 rfl rfl ?_;refine U1 ?_;intro hb;refine L.va (dr0 rfl) ?_;refine U5 ?_;refine U14 ?_;refine U479 ?_;refine U80 ?_;refine U455 ?_;refine U25 ?_;refine U22 ?_;refine L.va (C4 rfl) ?_;refine L.va (G2 (vs:=[(0,.pointer (some ⟨wb,0,none⟩)),(1,.int .i64 obj),(2,.int .i64 (n:Int))]) rfl (ns1 wb obj n)) ?_;refine L.box (cs:=arr 131 (ak0 wb obj n (fun _=>0) (fun _=>0) 0 0)) rfl rfl (fun w b20 F20=>?_);have fe1:=F20.lq hb.size;have hb:=G0 hb F20.below;have hW:=hW.j0 F20.below;have hT:=F20.blk;refine U18 ?_;refine U14 ?_;refine U51 ?_;refine W.loop (fun k e w=>∃(i:Nat),∃(rl:Nat->Nat),∃(ls:Nat->Nat),∃(cl:Nat->Nat),∃(bk:Nat->Nat),k=n-i/\e 0= .pointer (some ⟨wb,0,none⟩)/\e 1= .int .i64 obj/\e 2= .int .i64 (n:Int)/\e 8= .p b20/\e 21= .int .i64 (n:Int)/\e 22= .int .i64 (i:Nat)/\i <=n/\Below w0.heap.size w0 w/\K0 w wb #[.bool false] 99/\K0 w b20 (arr 131 (ak0 wb obj n rl cl i i)) 92/\TLk w w0.heap.size obj rl ls i/\TCl w w0.heap.size wb (IntKind.i64.wrap (obj+1)) cl bk i) _ ⟨0,(fun _=>0),(fun _=>0),(fun _=>0),(fun _=>0),rfl,rfl,rfl,rfl,rfl,rfl,rfl,Nat.zero_le _,hb,hW,hT,TLk.none,TCl.none⟩ ?_;rintro k e w ⟨i,rl,ls,cl,bk,hk,s0,s1,s2,s8,s21,s22,hi,hb,hW,hT,hL,hQ⟩;rw[P0 s0,P0 s1,P0 s2,P0 s8,P0 s21,P0 s22];clear s0 s1 s2 s8 s21 s22;refine U20 ?_;refine W.w6 rfl (fun h23=>?_) (fun h23=>?_)
 ·have J1:i<n:=by omega
  refine U140 ?_;refine W.seq ?_;refine W.fl 8 [5] [0,1,2,3,4,6,7,5] (fun w'=>True) (by kernel_rfl) (by kernel_rfl) (by kernel_rfl) (by kernel_rfl) (by kernel_rfl) trivial ?_;refine U17 ?_;intro V3 hb;have hW:=hW.j0 V3;have hT:=hT.j0 V3;have hL:=hL.j0 V3;have hQ:=hQ.j0 V3;clear V3;generalize w.drew=w at *;refine U62 ?_;refine U62 ?_;refine F.va rfl rfl (fun w' L1=>(C4 rfl)) ?_;refine F.va rfl rfl (fun w' L1=>(E1 rfl)) ?_;refine F.va rfl rfl (fun w' L1=>(B0 rfl underlying92 rfl jp1 (by decide))) ?_;refine F.doo rfl rfl ?_;refine L.call (r6 rfl rfl rfl func37 rfl qt1 rfl) (Ge0 wb obj i w hW) ?_;rintro _ w ⟨mb,sb,rfl,l1,l2,hM,hS,G1⟩;have l1:=Nat.le_trans hb.size l1;have l2:=Nat.le_trans hb.size l2;have hb:=G0 hb G1;have hW:=hW.j0 G1;have hT:=hT.j0 G1;have hL:=hL.j0 G1;have hQ:=hQ.j0 G1;have hL:=hL.add l1 l2 hM hS;clear G1;refine L.nil ⟨rfl,trivial,?_⟩;refine U8 ?_;refine L.va (Q8 (i:=i) (n:=64) rfl rfl underlying88 cu1 (by omega)) ?_;refine L.put (b:=b20) (o:=3+i*1) (vs:=[.pointer (some ⟨mb,0,none⟩)]) (arr 131 (ak0 wb obj n (o3 rl i mb) cl (i+1) i)) rfl rfl rfl cu1 rfl rfl hT (by rw[T5];omega) (Rw0 (by omega)) (fun w A1 hg N2=>?_);have Y5:=N4.ei0 hT hg;have hb:=M4 hb hb.size hg fe1;have hW:=hW.mod Y5 rfl;have hL:=hL.mod Y5 rfl;have hQ:=hQ.mod Y5 rfl;have hT:=A1;clear Y5 hg A1;refine U3 ?_;refine W.fl 11 [6,8] [0,1,2,3,4,5,9,10,6,7,8] (fun w'=>True) (by kernel_rfl) (by kernel_rfl) (by kernel_rfl) (by kernel_rfl) (by kernel_rfl) trivial ?_;refine U17 ?_;intro V3 hb;have hW:=hW.j0 V3;have hL:=hL.j0 V3;have hQ:=hQ.j0 V3;have hT:=hT.j0 V3;clear V3;generalize w.drew=w at *;refine U62 ?_;refine U62 ?_;refine U277 ?_;refine U270 ?_;refine F.doo rfl rfl ?_;refine L.Va0 (m:=1) (c:=1) rfl rfl underlying95 nx0 rfl (by decide) (by decide) (by decide) (by decide) (fun w b40 F40=>?_);have Cy0:=F40.lq hb.size;have hb:=G0 hb F40.below;have hW:=hW.j0 F40.below;have hL:=hL.j0 F40.below;have hQ:=hQ.j0 F40.below;have hT:=hT.j0 F40.below;have kh0:=F40.blk;have kh0:K0 w b40 #[.slice none 0 0] 195:=kh0;refine L.nil ⟨rfl,trivial,?_⟩;refine F.va rfl rfl (fun w' L1=>(G2 (parts:=[(0,.tmp 40)]) rfl (fb1 (some ⟨b40,0,none⟩) 1 1))) ?_;refine F.doo rfl rfl ?_;refine L.call (fz0 rfl rfl rfl rfl func38 rfl qu1 rfl) (ng1 wb (IntKind.i64.wrap (obj+1)) i (some ⟨b40,0,none⟩) 1 1 0 0 w) ?_;rintro _ w ⟨cb,rfl,l1,hC,G1⟩;have l1:=Nat.le_trans hb.size l1;have hb:=G0 hb G1;have hW:=hW.j0 G1;have hL:=hL.j0 G1;have hQ:=hQ.j0 G1;have hT:=hT.j0 G1;have kh0:=kh0.j0 G1;have hQ:=hQ.add l1 Cy0 hC kh0;clear G1;refine L.nil ⟨rfl,trivial,?_⟩;refine U8 ?_;refine L.va (Q8 (i:=i) (n:=64) rfl rfl underlying90 Og0 (by omega)) ?_;refine L.put (b:=b20) (o:=67+i*1) (vs:=[.pointer (some ⟨cb,0,none⟩)]) (arr 131 (ak0 wb obj n (o3 rl i mb) (o3 cl i cb) (i+1) (i+1))) rfl rfl rfl Og0 rfl rfl hT (by rw[T5];omega) (Rx0 (by omega)) (fun w A1 hg N2=>?_);have Y5:=N4.ei0 hT hg;have hb:=M4 hb hb.size hg fe1;have hW:=hW.mod Y5 rfl;have hL:=hL.mod Y5 rfl;have hQ:=hQ.mod Y5 rfl;have hT:=A1;clear Y5 hg A1;refine L.nil ?_;refine U35 ?_;refine U13 ?_;exact⟨_,by omega,⟨i+1,(o3 rl i mb),(o3 ls i sb),(o3 cl i cb),(o3 bk i b40),rfl,rfl,rfl,rfl,rfl,rfl,rfl,J1,hb,hW,hT,hL,hQ⟩⟩
 ·refine W.exit ?_;refine U116 ?_;refine U48 ?_;refine L.va (dr0 rfl) ?_;refine U5 ?_;refine U210 ?_;have hin:i=n:=by omega
  subst hin;exact⟨b20,rl,ls,cl,bk,rfl,fe1,hT,hL,hQ,hb⟩
end
end Go.Vy.Sc
end
section
namespace Go.Vy.Sc
open Go Go.Conc Go.Yc Go.RowKit Go.Proofs Go.Proofs.YtinppmaojmdmhaaGreat Tryz
open Go.Vc Go.Wg
section
variable [Ctx prog]
def Y8 (f:Nat->Nat) (n:Nat):Nat:=((List.range n).map f).sum
section
omit [Ctx prog]
theorem H6 (f:Nat->Nat) (n:Nat):Y8 f (n+1)=Y8 f n+f n:=by
 unfold Y8;rw[List.range_succ,List.map_append,List.sum_append];simp
theorem zz0 {f:Nat->Nat} {n B:Nat} (h:∀j,j<n->f j <=B):Y8 f n <=n*B:=by
 induction n with
 |zero=>exact Nat.zero_le _
 |succ n ih=>
  rw[H6,Nat.succ_mul];have h1:=ih fun j hj=>h j (by omega);have h2:=h n (Nat.lt_succ_self _);omega
theorem Gg0 {f g:Nat->Nat} {n:Nat} (h:∀j,j<n->f j=g j):Y8 f n=Y8 g n:=by
 unfold Y8;congr 1;exact List.map_congr_left fun j hj=>h j (List.mem_range.1 hj)
theorem Gh0 {wb n i:Nat} {obj:Int} {rl cl:Nat->Nat} (hi:i<n):ak0 wb obj n rl cl n n (67+i*1)= .pointer (some ⟨cl i,0,none⟩):=by
 unfold ak0;rw[if_neg (by omega),if_neg (by omega),if_neg (by omega),if_neg (by omega),show 67+i*1-67=i by omega,if_pos hi]
theorem ff1 {wb n i:Nat} {obj:Int} {rl cl:Nat->Nat} (hi:i<n) (hn:n <=64):ak0 wb obj n rl cl n n (3+i*1)= .pointer (some ⟨rl i,0,none⟩):=by
 unfold ak0;rw[if_neg (by omega),if_neg (by omega),if_neg (by omega),if_pos (by omega),show 3+i*1-3=i by omega,if_pos hi]
theorem go0 {w:World} {tb wb n o:Nat} {obj:Int} {rl cl:Nat->Nat} {v:Value} (hT:K0 w tb (arr 131 (ak0 wb obj n rl cl n n)) 92) (ho:o<131) (hv:ak0 wb obj n rl cl n n o=v):w.cell? ⟨tb,o,none⟩=some v:=by
 rw[K0.at_ hT ho,hv]
structure BCl (w:World) (wb:Nat) (obj:Int) (cl:Nat->Nat) (n:Nat) (sa:Nat->Option Addr) (sn sc ct:Nat->Nat) (md:Nat->Int):Prop where
 all:∀j,j<n->K0 w (cl j) #[.int .i64 obj,.int .i64 (j:Nat),.pointer (some ⟨wb,0,none⟩),.slice (sa j) (sn j) (sc j),.int .i64 (ct j:Nat),.int .i64 (md j)] 164
theorem BCl.j0 {w w':World} {wb:Nat} {obj:Int} {cl:Nat->Nat} {n:Nat} {sa:Nat->Option Addr} {sn sc ct:Nat->Nat} {md:Nat->Int} (h:BCl w wb obj cl n sa sn sc ct md) (hb:Below w.heap.size w w'):BCl w' wb obj cl n sa sn sc ct md:=⟨fun j hj=>(h.all j hj).j0 hb⟩
end
theorem Kx0 (tb wb:Nat) (obj Ry0:Int) (n:Nat) (rl cl:Nat->Nat) (sa:Nat->Option Addr) (sn sc ct:Nat->Nat) (md:Nat->Int) (hn:n <=64) (w0:World) (hT:K0 w0 tb (arr 131 (ak0 wb obj n rl cl n n)) 92) (hC:BCl w0 wb Ry0 cl n sa sn sc ct md) (hW:K0 w0 wb #[.bool false] 99) (hct:∀j,j<n->ct j <=1000000):C prog 16 #[.pointer (some ⟨tb,0,none⟩)] w0 fun v w=>v= .int .i64 (Y8 ct n:Nat)/\Below w0.heap.size w0 w:=by
 refine C.enter (n:=26) func16 rfl rfl ?_;refine U1 ?_;intro hb;refine U5 ?_;refine U301 ?_;refine U25 ?_;refine U5 ?_;refine U6 ?_;refine U509 ?_;refine L.va (A0 (v:=.int .i64 (n:Int)) rfl underlying3 rfl (go0 (o:=2) hT (by omega) rfl)) ?_;refine U51 ?_;refine W.loop (fun k e w=>∃(i:Nat),k=n-i/\e 0= .p tb/\e 3= .int .i64 (Y8 ct i:Nat)/\e 10= .int .i64 (n:Int)/\e 11= .int .i64 (i:Nat)/\i <=n/\Below w0.heap.size w0 w/\K0 w tb (arr 131 (ak0 wb obj n rl cl n n)) 92/\BCl w wb Ry0 cl n sa sn sc ct md/\K0 w wb #[.bool false] 99) _ ⟨0,rfl,rfl,rfl,rfl,rfl,Nat.zero_le _,hb,hT,hC,hW⟩ ?_;rintro k e w ⟨i,hk,s0,s3,s10,s11,hi,hb,hT,hC,hW⟩;rw[P0 s0,P0 s3,P0 s10,P0 s11];clear s0 s3 s10 s11;refine U20 ?_;refine W.w6 rfl (fun h12=>?_) (fun h12=>?_)
 ·have J1:i<n:=by omega
  have hle:=zz0 (f:=ct) (n:=i) fun j hj=>hct j (by omega);have at0:=hct i J1;have Ji0:((Y8 ct (i+1):Nat):Int)=((Y8 ct i:Nat):Int)+((ct i:Nat):Int):=by rw[H6];omega
  refine U140 ?_;refine U68 ?_;refine U22 ?_;refine U481 ?_;refine U365 ?_;rintro _ w ⟨rfl,G1⟩;have hb:=G0 hb G1;have hT:=hT.j0 G1;have hC:=hC.j0 G1;have hW:=hW.j0 G1;clear G1;refine L.va (Co0 rfl underlying97 rfl underlying3 rfl rfl) ?_;refine L.va (Ji0▸eh0 (m:=((Y8 ct i:Nat):Int)) (k:=((ct i:Nat):Int)) rfl rfl (by omega)) ?_;refine L.va (gt0 rfl) ?_;refine L.nil ?_;refine U35 ?_;refine U13 ?_;exact⟨_,by omega,⟨i+1,rfl,rfl,rfl,rfl,rfl,J1,hb,hT,hC,hW⟩⟩
 ·refine W.exit ?_;refine U116 ?_;refine U309 ?_;refine U16 ?_;have hin:i=n:=by omega
  subst hin;exact⟨rfl,hb⟩
theorem Rz0 (tb wb:Nat) (obj Ry0:Int) (n:Nat) (rl cl:Nat->Nat) (sa:Nat->Option Addr) (sn sc ct:Nat->Nat) (md:Nat->Int) (hn:n <=64) (w0:World) (hT:K0 w0 tb (arr 131 (ak0 wb obj n rl cl n n)) 92) (hC:BCl w0 wb Ry0 cl n sa sn sc ct md) (hW:K0 w0 wb #[.bool false] 99) (i:Nat) (J1:i<n):C prog 17 #[.pointer (some ⟨tb,0,none⟩),.int .i64 (i:Int)] w0 fun v w=>v= .int .i64 (sn i:Nat)/\Below w0.heap.size w0 w:=by
 refine C.enter (n:=28) func17 rfl rfl ?_;refine U1 ?_;intro hb;refine U5 ?_;refine U301 ?_;refine U31 ?_;refine U80 ?_;refine L.va (R5 (r:=false) (decide_eq_false (by omega)) (gv0 rfl rfl)) ?_;refine L.va (A7 rfl) ?_;refine U31 ?_;refine U80 ?_;refine U111 ?_;refine U260 ?_;refine L.va (B0 rfl underlying92 rfl sz3 (by decide)) ?_;refine L.on rfl ?_;refine L.va (A0 (v:=.int .i64 (n:Int)) rfl underlying3 rfl (go0 (o:=2) hT (by omega) rfl)) ?_;refine L.on rfl ?_;refine L.va (R5 (r:=false) (decide_eq_false (by omega)) (Hp0 rfl rfl)) ?_;refine L.va (A7 rfl) ?_;refine U25 ?_;refine U22 ?_;refine U481 ?_;refine U365 ?_;rintro _ w ⟨rfl,G1⟩;have hb:=G0 hb G1;clear G1;refine L.va (Co0 rfl underlying97 rfl underlying95 rfl rfl) ?_;refine L.va (M6 rfl underlying95 rfl) ?_;refine U5 ?_;exact U49
end
set_option maxHeartbeats 400000 in
theorem Sa0 {K:Y9 prog} (hK:KOk K) {L3:K.L} {m:Gm} {F:Nat->Prop} (cb wb:Nat) (obj num:Int) (sa2:Option Addr) (sn2 sc2:Nat) (ct2 md2:Int) (w0:World) (hT:K.Told w0 m F (.inl L3)) (S2:K.stp L3=⟨8,obj,num⟩) (hrd:∀s,K.rdy L3 s=true) (hW:K0 w0 wb #[.bool false] 99) (hC:K0 w0 cb #[.int .i64 obj,.int .i64 num,.pointer (some ⟨wb,0,none⟩),.slice sa2 sn2 sc2,.int .i64 ct2,.int .i64 md2] 164) (hgo:∀u F',K.Goes w0 m F L3 u F'->∃sa sn sc ct md,K0 u cb #[.int .i64 obj,.int .i64 num,.pointer (some ⟨wb,0,none⟩),.slice sa sn sc,.int .i64 ct,.int .i64 md] 164) :
  @Calls prog (I0 K) 39 #[.pointer (some ⟨cb,0,none⟩),.pointer (some ⟨K.ptr,0,none⟩)] w0 (A3 K w0 fun v u=>∃F',Gn K w0 m F L3 u F'/\∃sa sn sc ct md,v= .agg #[.slice sa sn sc,.int .i64 ct,.int .i64 md]/\K0 u cb #[.int .i64 obj,.int .i64 num,.pointer (some ⟨wb,0,none⟩),.slice sa sn sc,.int .i64 ct,.int .i64 md] 164):=by
 letI:Ctx prog:=I0 K;refine Calls.n6 (n:=26) func39 rfl rfl ?_;refine U1 ?_;intro hb;refine L.box (cs:=#[.pointer (some ⟨cb,0,none⟩)]) rfl rfl (fun w b2 F2=>?_);refine U15 ?_;intro lt2 hb;have hW:=hW.j0 F2.below;refine U129 ?_;intro hC A2;refine U183 ?_;intro w b4 F4 lt4;have hb:=G0 hb F4.below;have hW:=hW.j0 F4.below;have hC:=hC.j0 F4.below;have A2:=A2.j0 F4.below;have X1:=F4.blk;refine U26 ?_;refine U64 ?_;intro w b5 F5 lt5;refine U40 ?_;intro J8 hb;refine U94 ?_;intro hW hC;refine U71 ?_;intro A2 X1;have I2:=F5.blk;refine U3 ?_;refine U6 ?_;refine L.va (A0 rfl underlying89 rfl (A2.q0 0 (v:=.pointer (some ⟨cb,0,none⟩)) rfl)) ?_;refine L.va (c5 rfl rfl underlying89) ?_;refine U235 ?_;refine U429 ?_;refine L.va (B0 rfl underlying164 rfl Vi0 (by decide)) ?_;refine U359 ?_;rintro _ w1 ⟨rfl,hw⟩;refine U146 ?_;refine U429 ?_;refine L.va (B0 rfl underlying164 rfl qb0 (by decide)) ?_;refine U423 ?_;have hbL:=hb;refine U294 ?_;intro hF5 hF2;have hF4:¬F b4:=fun z=>by have:=hK.tlt hT z;omega
 have hpl:@Calls prog (I0 K) 70 #[.agg #[.int .i64 obj,.int .i64 num],.pointer (some ⟨K.ptr,0,none⟩),.int .i64 8,.nilFunc,.func (.func 71) #[] #[.pointer (some ⟨b2,0,none⟩),.pointer (some ⟨b5,0,none⟩)]] w (A3 K w fun v u2=>v= .tuple #[]/\∃u F',K.Goes w m F L3 u F'/\(∃sa sn sc ct md,K0 u2 b5 #[.slice sa sn sc,.int .i64 ct,.int .i64 md] 97/\K0 u cb #[.int .i64 obj,.int .i64 num,.pointer (some ⟨wb,0,none⟩),.slice sa sn sc,.int .i64 ct,.int .i64 md] 164/\u.grownBy u2 (some b5))/\u2.tape=u.tape):=by
  refine cc0 hK w (hK.j0 hT hb) S2 (fun w1 O7=>.inl ⟨rfl,hrd⟩) ⟨0,#[],.inl rfl⟩ (.inr ⟨71,_,fj0 func71 rfl Om0⟩) (fun u u2=>∃sa sn sc ct md,K0 u2 b5 #[.slice sa sn sc,.int .i64 ct,.int .i64 md] 97/\K0 u cb #[.int .i64 obj,.int .i64 num,.pointer (some ⟨wb,0,none⟩),.slice sa sn sc,.int .i64 ct,.int .i64 md] 164/\u.grownBy u2 (some b5)) (fun w1 O7 u F' hg=>.inr ⟨71,_,fj0 func71 rfl Om0,?_⟩);obtain⟨sa,sn,sc,ct,md,hCu⟩:=hgo u F' (Goes.down (G0 hb O7) hg);exact @C.mono _ (I5 prog K.P4 K.ptr K.num) _ _ _ _ _ (@Fr0 (I5 prog K.P4 K.ptr K.num) b2 b5 cb obj num _ _ _ _ _ _ _ _ _ _ _ u (Goes.ai0 hg (A2.j0 O7) (Nat.zero_lt_succ _) hF2).1 (Goes.ai0 hg (I2.j0 O7) (Nat.zero_lt_succ _) hF5).1 hCu) fun v w' h=>⟨sa,sn,sc,ct,md,h.2.1,hCu,h.2.2⟩
 refine L.Y2 rfl (V7 rfl rfl rfl rfl rfl func70 rfl oi0 rfl) hpl ?_ ?_ (fun _ h=>h)
 ·rintro v u ⟨rfl,u0,F',hg,⟨sa,sn,sc,ct,md,tq0,hCu,j3⟩,ht⟩;refine U275 ?_;intro h5 hgn;obtain⟨ee1,h4⟩:=Goes.ai0 hg X1 (by decide) hF4;have sv1:=(Goes.ai0 hg I2 (Nat.zero_lt_succ _) hF5).1;have X1:=ee1.other j3 J8;have hC9:=hCu.other j3 (K0.ne hCu sv1 (by decide));have I2:=tq0;clear hb tq0 A2 hC hpl;have hC:=hC9;clear hC9;rename_i wL;clear hW;refine U26 ?_;refine L.va (D2 (cs:=[.slice sa sn sc,.int .i64 ct,.int .i64 md]) rfl underlying97 rfl o8 rfl (I2.T6 rfl)) ?_;refine L.pu 0 [.slice sa sn sc,.int .i64 ct,.int .i64 md] #[.slice sa sn sc,.int .i64 ct,.int .i64 md] o8 X1 (fun w A1 hg N2=>?_);have Y5:=N4.ei0 X1 hg;have hgn:=hgn.j6 hg ⟨lt4,h4⟩;have hC:=hC.mod Y5 rfl;have X1:=A1;refine U56 ?_;refine ends.cell (cs:=#[.slice sa sn sc,.int .i64 ct,.int .i64 md]) (.inr rfl) rfl rfl underlying97 rfl o8 X1 ?_;exact⟨F',hgn,sa,sn,sc,ct,md,rfl,hC⟩
 ·rintro ch u ⟨l7,hh⟩;exact⟨l7,hh.at hbL.os hbL.output⟩
def lt0 (n:Nat):ByteArray:=ByteArray.empty.push (UInt8.ofNat (48+n%10))
def ia0 (n:Nat):ByteArray:=if n<10 then lt0 n else ia0 (n/10)++lt0 n
termination_by n
decreasing_by omega
theorem Aa0 {n:Nat} (h:n<10):ia0 n=lt0 n:=by rw[ia0,if_pos h]
theorem It0 {n:Nat} (h:¬n<10):ia0 n=ia0 (n/10)++lt0 n:=by rw[ia0,if_neg h]
theorem ki0 (n:Nat):(lt0 n).size=1:=rfl
theorem fo0:∀(k n:Nat),n<10 ^ k->(ia0 n).size <=k+1
 |0,n,h=>by rw[Aa0 (by simp at h;omega),ki0];omega
 |k+1,n,h=>by
  by_cases hn:n<10
  ·rw[Aa0 hn,ki0];omega
  ·rw[It0 hn,ByteArray.size_append,ki0];have:=fo0 k (n/10) (by rw[Nat.pow_succ]at h;omega);omega
def mv0 (n:Int):ByteArray:=if n<0 then ByteArray.mk #[45]++ia0 (-n).toNat else ia0 n.toNat
theorem yi0 {n:Int} (h:-9223372036854775808 <=n/\n <=9223372036854775807):(mv0 n).size <=30:=by
 unfold mv0;split
 ·rw[ByteArray.size_append];have:=fo0 19 (-n).toNat (by(have:(10:Nat) ^ 19=10000000000000000000:=by decide);omega);have h1:(ByteArray.mk #[45]).size=1:=rfl;omega
 ·have:=fo0 19 n.toNat (by(have:(10:Nat) ^ 19=10000000000000000000:=by decide);omega);omega
end Go.Vy.Sc
end
