/- What the claim leans on, part 4. Laws. -/
import Derived.Test.YtnifpkopeheodaaGreatKA3
import Derived.Conc.LeavingOf
import Derived.ProofKit
import Derived.Deep.Slices
import Derived.SizedLaws
import Derived.Conc.SmallLaws
import Derived.Laws.LoneSync
import Derived.FollowTie
set_option linter.unusedVariables false
section
namespace Go.Vy.Sc
open Go Go.Conc Go.Yc Go.RowKit Go.Proofs Go.Proofs.YtnifpkopeheodaaGreat Tryz
open Go.Vc Go.Wg
section
attribute [local irreducible] KK
def wj0 (lb:Nat) (pl:Nat->w6) (Post:Value->World->Prop) (g:Goroutine) (u:World):Prop:=∀X,Lone X u->lb <=u.heap.size->(∀b,X.low b->lb <=b)->X.N4=pl->Fin prog Post X 0 g u
theorem Hj0 (lb:Nat) (pl:Nat->w6) (Post:Value->World->Prop):Cl prog true (wj0 lb pl Post):=⟨fun g u hr hs X hX h1 h2 h3=>Fin.Bu0 hr fun τ d=>by
 obtain⟨g',u',d',hF,hz⟩:=hs τ d;refine⟨g',u',hF,fun⟨ρ,w,gz0⟩=>?_⟩;have he:=(hF.2 ρ w gz0).1;have hX':Lone X (Yc.P2 u' u.tape d'):=(hX.mono he.size:Lone X u')|> fun h=>⟨h.C1,h.cap,h.pend,h.dn,h.under,h.N4,h.ii0⟩
 exact ke0 (hz X hX' (Nat.le_trans h1 he.size) h2 h3)⟩
theorem Ck0 (lb:Nat) (pl:Nat->w6) (Post:Value->World->Prop):Ign (wj0 lb pl Post):=fun _g _u hz X hX h1 h2 h3=>v9 _ _ fun hv=>hz hv X hX h1 h2 h3
@[reducible] def l7 (lb:Nat) (pl:Nat->w6):Ctx prog:=⟨true,fun Z=>∃Post,Z=wj0 lb pl Post,fun Z h=>by obtain⟨Post,rfl⟩:=h;exact Hj0 lb pl Post⟩
structure Lx0 (Y:Sys) (q:PR Y) (Mn:Nat->Option Obj) (w0 w:World) (R:Rn):Prop where
 mem:K4 w w0.heap.size R
 m:R.m=Y.m
 evs:R.evs=q.evs
 I2:R.I2=q.I2
 used:R.used=q.used
 ends:∀j,j<Y.m->R.ends[j]? =some (ap0 q.ft[j]?)
 Z7:∀j,j<Y.m->R.Z7[j]? =some (Rl0 Y j (q.ft[j]?))
 stuck:R.stuck=(q.ft.any (·.isLeft)&&(Y.rds q).isEmpty)
 inv:∃m F,Y.Inv q.s m w F/\∀b,F b->¬R.fp b
 fp:∀b,R.fp b->w0.heap.size <=b
 A0:∀b,Mn b≠none->w.heap[b]? =Mn b
 size:w0.heap.size <=w.heap.size
 os:w.os=w0.os
 output:w.output=w0.output
 tape:w.tape=w0.tape
section
variable {Y:Sys}{fb:Nat->FuncId}{caps:Nat->Array Value}{fv:Nat->Value}{ba sa:Option Addr}{sn:Nat}{sc:Nat->Int}{Mn:Nat->Option Obj}{w0:World}
theorem Yc0 (hO:jm0 Y fb caps fv ba sa sn sc) (hmn:∀b o,Mn b=some o->w0.heap[b]? =some o) {F:Nat->Prop} {m0:Gm} (hinv:Y.Inv Y.s0 m0 w0 F) (hFm:∀b,F b->Mn b=none)
  (hbc:∀w:World,(∀b,Mn b≠none->w.heap[b]? =Mn b)->∀j,j<Y.m->w.cell? ⟨ab ba,ao ba+j*1,none⟩=some (fv j)) (hsc:∀w:World,(∃s m F,Y.Inv s m w F)->(∀b,Mn b≠none->w.heap[b]? =Mn b)->∀j,j<sn->w.cell? ⟨ab sa,ao sa+j*1,none⟩=some (.i (sc j))) {bc scp:Nat} :
  @C prog (l7 Y.lb Y.pl) 48 #[.slice ba Y.m bc,.slice sa sn scp] w0 fun v w=>∃R,v= .tuple #[Go0 R,.i 0]/\Lx0 Y (Y.pn sc sn) Mn w0 w R:=by
 intro Z hZ cs hk;obtain⟨Post,rfl⟩:=hZ;intro X hX E5 hb2 hb3;refine Ll0 (fv:=fv) (sc:=sc) hO.m1 hO.sn1 hX.under hX.N4 hX.cap fun w4 rb yb eb wb tb hB=>?_;have K8:=hO.sys.vis _ _ _ _ hinv;have om0:=hB.low;have Yd0:Mn tb=none:=by
  cases h:Mn tb with
  |none=>rfl
  |some o=>
   have:=(Array.getElem?_eq_some_iff.1 (hmn tb o h)).1;have:=hB.le.2.2.2.2;omega
 have C2:∀b o,Mn b=some o->b<w0.heap.size:=fun b o h=>(Array.getElem?_eq_some_iff.1 (hmn b o h)).1
 let Mn':Nat->Option Obj:=fun b=>if b=tb then some (.cells #[.slice none 0 0,.slice none 0 0,.slice none 0 0,.slice none 0 0,.bool false,.i 0] 30 (0,0)) else Mn b
 have hMn:∀w:World,(∀b,Mn' b≠none->w.heap[b]? =Mn' b)->∀b,Mn b≠none->w.heap[b]? =Mn b:=fun w h b hb=>by
  have n3:b≠tb:=fun e=>hb (e▸Yd0);have:=h b (by show(if b=tb then _ else Mn b)≠none;rw[if_neg n3];exact hb);rw[this];show(if b=tb then _ else Mn b)=_;rw[if_neg n3]
 refine⟨_,_,_,_,ring (Mn:=Mn') (w0:=w0) (rb0:=rb) hO (if_pos rfl) (fun w h=>hbc w (hMn w h)) (fun w hI h=>hsc w hI (hMn w h)),⟨fun X' R w w' fr hJ G3 hfn hl=>?_⟩,?_⟩
 ·obtain⟨_,⟨Γ,hM⟩,hT,W9,ad0⟩:=hJ;have hF:=hM.fix;have hlen:R.cl.length=Y.m:=hT.len.trans (Sys.Q8 sc sn);have wk0:=hMn w hM.get;obtain⟨Fq,Ow0,Ye0⟩:=hM.inv;have htb:w.heap[tb]? =Mn' tb:=hM.get tb (by show(if tb=tb then _ else _)≠none;rw[if_pos rfl];simp);have htl:tb<w.heap.size:=by
   have:Mn' tb=some (.cells #[.slice none 0 0,.slice none 0 0,.slice none 0 0,.slice none 0 0,.bool false,.i 0] 30 (0,0)):=if_pos rfl;rw[this]at htb;exact(Array.getElem?_eq_some_iff.1 htb).1
  have td0:∀b,b<w.heap.size->b≠tb->w'.heap[b]? =w.heap[b]?:=fun b hb n3=>G3.block b hb fun e=>n3 (Option.some.inj e);have htk:Kept Y Γ R Mn' tb:=.inl (by show(if tb=tb then _ else _)≠none;rw[if_pos rfl];simp);have hfp:∀b,R.fp b->b≠tb:=fun b hb e=>(hF.mn tb (by show(if tb=tb then _ else _)≠none;rw[if_pos rfl];simp)).2.1 (e▸hb);refine ke0 (τ:=w0.tape) (d:=w0.drawn) (hk (.returned _) (Yc.P2 w' w0.tape w0.drawn) fr ⟨R,rfl,?_⟩ hfn (lz0 hl) {X' with pend:=0,cap:=0,dn:=0} ?_ (Nat.le_trans E5 (Nat.le_trans hF.size G3.size)) hF.base.low hF.base.pl)
  ·refine⟨hF.mem.congr fun b hb=>td0 b (hF.mem.lt hb) (hfp b hb),hF.m,hT.evs,hT.I2,hT.used,hT.ends,fun j hj=>?_,ad0,⟨_,Fq,hO.sys.loc _ _ w _ Fq Ow0 fun b hb=>td0 b (hO.sys.vis _ _ _ _ Ow0 b hb).1 fun e=>(Ye0 b hb).2 (e▸htk),fun b hb=>(Ye0 b hb).1⟩,hF.fpB,fun b hb=>?_,Nat.le_trans hF.size G3.size,G3.os.trans (hF.os rfl),G3.output.trans (hF.output rfl),rfl⟩
   ·rw[W9 j hj,if_pos hj]
   ·have h1:=wk0 b hb;have hbl:b<w.heap.size:=by
     rcases Nat.lt_or_ge b w.heap.size with z|z
     ·exact z
     ·exact absurd (h1.symm.trans (Array.getElem?_eq_none z)) hb
    exact(td0 b hbl fun e=>hb (e▸Yd0)).trans h1
  ·refine⟨fun i=>?_,rfl,rfl,rfl,?_,fun b hb=>hF.N4 b (Nat.le_trans G3.size hb),hF.ii0⟩
   ·show X'.C1 i=none;by_cases h0:i=0
    ·subst h0;exact hF.lw0 rfl
    ·cases hs:X'.C1 i with
     |none=>rfl
     |some s=>
      obtain⟨j,c,h5,h6,h7,_⟩:=hF.O3 i s h0 hs;have hjl:=(List.getElem?_eq_some_iff.1 h5).1;rcases hF.waits h5 with⟨_,_,l,h8,_⟩|⟨_,x,_,h8⟩
      ·have h8:(if j<Y.m then x8 ((Y.pn sc sn).ft[j]?) else(Y.pn sc sn).ft[j]?)=some (.inl l):=h8;rw[if_pos (by omega)]at h8;cases hx:(Y.pn sc sn).ft[j]? with
       |none=>rw[hx]at h8;cases h8
       |some f=>cases f <;> (rw[hx]at h8;cases h8)
      ·rcases h8 with h8|h8
       ·rw[h6]at h8;cases h8
       ·rw[<- h7,hs]at h8;cases h8
   ·have hu:=hF.under.mono G3.size;exact⟨hu.stay,hu.X3,hu.J7,hu.K2,hu.low⟩
 ·have hle:=hB.le;have Rs0:∀b,(rn0 rb yb eb wb Y.m).fp b->w0.heap.size <=b:=fun b hb=>by
   rcases hb with rfl|rfl|rfl|⟨h,_⟩|⟨h,_⟩|⟨h,_⟩|⟨j,c,h,_⟩
   ·exact hle.1
   ·exact hle.2.2.1
   ·exact hle.2.2.2.1
   ·exact absurd rfl h
   ·exact absurd rfl h
   ·exact absurd rfl h
   ·simp[rn0]at h
  have Yf0:yb<w4.heap.size:=(Array.getElem?_eq_some_iff.1 hB.yb).1;have dy1:¬(rn0 rb yb eb wb Y.m).fp tb:=hB.mem.Oo0 hB.tb (by decide);have hu:=hX.under.mono om0.size;have hnl:∀{j:Nat},¬j<(rn0 rb yb eb wb Y.m).cl.length:=fun h=>Nat.not_lt_zero _ h;have hnc:∀{j:Nat} {c:CB},(rn0 rb yb eb wb Y.m).cl[j]? =some c->False:=fun h=>by simp[rn0]at h
  refine⟨Nat.zero_le _,⟨⟨m0,fun _=>0,fun _=>0,fun _=>0,fun _=>[],fun _ _=>False⟩,⟨⟨hB.mem,rfl,fun j c hc=>(hnc hc).elim,fun j c hc=>(hnc hc).elim,Rs0,fun j hj=>(hnl hj).elim,fun j b hb=>hb.elim,fun b hb=>?_,hX.ii0,fun _=>om0.os,fun _=>om0.output,om0.size,rfl,show Go.ConcN.upd X.stay 0 _ 0=_ from Go.ConcN.upd_same _ _ _,.inr rfl,fun g s hg hs=>?_,fun j k hj=>(hnl hj).elim,fun j k hj=>(hnl hj).elim,fun j k c d hc=>(hnc hc).elim,fun j c hc=>(hnc hc).elim,hX.dn,hX.pend,?_,?_,fun b hb=>hX.N4 b (Nat.le_trans om0.size hb),fun _=>hX.C1 0,⟨E5,fun b hb=>?_,hb3⟩⟩,F,?_,fun b hb=>⟨fun z=>?_,fun z=>?_⟩⟩⟩,⟨rfl,rfl,rfl,rfl,rfl,fun j c hc=>(hnc hc).elim,fun j hj=>?_⟩,rfl,rfl⟩
  ·by_cases hbt:b=tb
   ·subst hbt;refine⟨?_,dy1,fun k hk=>(hnl hk).elim⟩;show _=(if b=b then _ else _);rw[if_pos rfl];exact hB.tb
   ·have hMb:Mn' b=Mn b:=if_neg hbt;rw[hMb]at hb⊢;cases ho:Mn b with
    |none=>exact absurd ho hb
    |some o=>
     have hl:=C2 b o ho;exact⟨(om0.block b hl).trans (hmn b o ho),fun z=>by have:=Rs0 b z;omega,fun k hk=>(hnl hk).elim⟩
  ·have:=hX.C1 g;have hs:X.C1 g=some s:=hs;rw[this]at hs;cases hs
  ·show X.cap <=0;rw[hX.cap];exact Nat.le_refl _
  ·refine⟨fun g p hp=>?_,hu.X3,fun b hb=>?_,fun G hG=>?_,fun b hb=>?_⟩
   ·by_cases hg:g=0
    ·subst hg;have hp':p∈Go.ConcN.upd X.stay 0 [((⟨rb,8-1,none⟩:Addr),Value.chan (some yb))] 0:=hp;rw[Go.ConcN.upd_same]at hp';simp at hp';rw[hp'];exact hB.mem.run.lt
    ·have hp':p∈Go.ConcN.upd X.stay 0 [((⟨rb,8-1,none⟩:Addr),Value.chan (some yb))] g:=hp;rw[Go.ConcN.upd_ne _ _ hg]at hp';exact hu.stay g p hp'
   ·rcases hb with z|rfl
    ·exact hu.J7 b z
    ·exact Yf0
   ·rcases hG with z|z
    ·have z:some (⟨rb,8⟩:M4)=some G:=z;cases z;exact hB.mem.run.lt
    ·have z:G∈X.K2.toList++X.old:=z;rw[List.mem_append]at z;rcases z with z|z
     ·exact hu.K2 G (.inl (by simpa using z))
     ·exact hu.K2 G (.inr z)
   ·rcases hb with(z|rfl)|rfl
    ·exact hu.low b z
    ·exact Yf0
    ·exact hB.mem.run.lt
  ·rcases hb with(z|rfl)|rfl
   ·exact hb2 b z
   ·have:=hle.2.1;omega
   ·have:=hle.1;omega
  ·exact hO.sys.loc _ _ w0 w4 F hinv fun b hb=>om0.block b (K8 b hb).1
  ·have:=Rs0 b z;have:=(K8 b hb).1;omega
  ·rcases z with z|⟨k,hk,_⟩|⟨j,z⟩
   ·by_cases hbt:b=tb
    ·have:=(K8 b hb).1;have:=hle.2.2.2.2;omega
    ·exact z ((if_neg hbt).trans (hFm b hb))
   ·exact(hnl hk).elim
   ·exact z
  ·show(List.replicate Y.m (0:Int))[j]? =_;simp[hj];rfl
end
end
end Go.Vy.Sc
end
section
namespace Go.Vy
open Go Go.Conc Go.Yc Go.RowKit
open Go.Vc
section
variable {P:Program}[Ctx P]
end
section
variable {P:Program}[Ctx P]{n:Nat}{Q:Exit->Env->World->Prop}{e:Env}{w:World}{ops:Array Oper}{rest:List Oper}{d:Nat}{ty:TypeId}{ps:String}{af:Array Edge}{T E:TypeId}
theorem L.ug0 {s m:Nat} {parts:List (Nat×Operand)} {vs:List (Nat×Value)} {zv:Value} {cs:Array Value} (hv:parts.map (fun(i,y)=>(i,ev e y))=vs) (hT:P.underlying T=some (.slice E)) (hs:(P.info? E).map (·.size)=some s) (hz:(P.info? E).bind (·.zero)=some zv) (C2:0<m*s/\m*s <=16777216)
  (hf:Instr.fill (fun i=>some (i*s,s)) ((Array.range (m*s)).map (fun i=>zv.cells[i%zv.cells.size]!)) vs=some cs)
  (k:∀w1 b,et0 w w1 b cs E->L P n ops Q rest (upd e d (.slice (some ⟨b,0,none⟩) m m)) w1) :
  L P n ops Q (⟨some d,.buildSlice T m parts.toArray,ty,ps,af,none⟩::rest) e w:=by
 refine L.va (w':=w.alloc (.cells cs E)) (.j1 (n2 rfl _) rfl rfl fun τ d'=>?_) (k _ _ (D8 w _ E));show(execOp (ev e) ⟨some d,.buildSlice T m parts.toArray,ty,ps,af,none⟩).run P (Yc.P2 w τ d')= .ok (.value (.slice (some ⟨(Yc.P2 w τ d').heap.size,0,none⟩) m m)) ((Yc.P2 w τ d').alloc (.cells cs E));generalize Yc.P2 w τ d'=w;have h1:¬(m*s>2 ^ 24):=by omega
 have h2:¬(m*s=0):=by omega
 simp only[execOp,Instr.buildSlice,List.map_toArray,hv,Go.Vc.run_underlying hT,Go.Vc.run_sizeOf hs,Sem.run_bind,Result.andThen_ok,h1,h2,if_false,Sem.run_pure,Go.Vc.ax0 hz];rw[hf];simp[newRow]
end
def Yg0 (P:Program) (fn:Func) (R:Ending->World->Prop):Exit->Env->World->Prop:=fun x e w=>match x with
 | .panic ch=>R (.panicked ch) w
 |x=>ends P fn (fun v w=>R (.returned v) w) x e w
theorem Calls.V5 {P:Program} [Ctx P] {f:FuncId} {fn:Func} {c:Code} {args:Array Value} {w:World} {R:Ending->World->Prop} {n:Nat} (hf:P.funcs[f]? =some fn) (hb:fn.body=some c) (hn:args.size+(fn.ntmps-args.size)=n)
  (h:W P n c (Yg0 P fn R) (Vc.G7 args) w):Calls P f args w R:=by
 refine calls_of_wp hf hb (wp_mono (h _ ⟨?_,rfl,?_⟩) ?_)
 ·simp[hn]
 ·intro t;simp only[Vc.G7,Array.getD_eq_getD_getElem?,Array.getElem?_append];split
  ·rfl
  ·rename_i ht;rw[Array.getElem?_eq_none (by omega:args.size <=t)];simp only[Array.getElem?_replicate];split <;> rfl
 ·rintro x a w' ⟨e',r,hx⟩;cases x with
  |panic ch=>exact⟨r.defers,hx⟩
  |normal=>obtain⟨_,v,hv,hR⟩:=hx;exact⟨r.defers,v,hv a.tmps r.get,hR⟩
  |ret=>obtain⟨_,v,hv,hR⟩:=hx;exact⟨r.defers,v,hv a.tmps r.get,hR⟩
  |exit id=>obtain⟨hx,_⟩:=hx;rcases hx with hx|hx <;> cases hx
  |goto l=>obtain⟨hx,_⟩:=hx;rcases hx with hx|hx <;> cases hx
  |outgrown=>obtain⟨hx,_⟩:=hx;rcases hx with hx|hx <;> cases hx
end Go.Vy
end
section
namespace Go.Vy.Sc
open Go Go.Conc Go.Yc Go.RowKit Go.Proofs Go.Proofs.YtnifpkopeheodaaGreat Tryz
open Go.Vc Go.Wg
theorem gm0 {w:World} {a:Addr} {v:Value} (h:w.cell? a=some v):a.block<w.heap.size:=by
 unfold World.cell? at h;rcases Nat.lt_or_ge a.block w.heap.size with z|z
 ·exact z
 ·rw[Array.getElem?_eq_none z]at h;simp at h
theorem eg0 {w0 w:World} {a:Addr} {v:Value} (h:w0.cell? a=some v) (hb:Below w0.heap.size w0 w):w.cell? a=some v:=by
 rw[(y5 (u:=w0) (u':=w) (a:=a) (hb.block _ (gm0 h))).1];exact h
theorem K4.down {B B':Nat} {w:World} {R:Rn} (h:K4 w B' R) (hB:B <=B'):K4 w B R:=⟨h.run,h.cls.down hB,h.evs.down hB,h.I2.down hB,h.ends,h.Z7,h.em0,h.jz0,h.lcl,h.blk⟩
theorem L2 {P:Program} {S:Sem Next} {w:World} {b r:Bool} (h:b=r) (hd:Does P S w (.val (.bool b)) w):Does P S w (.val (.bool r)) w:=h▸hd
structure uh0 (w:World) (sa:Option Addr) (sn scp:Nat) (sc:Nat->Int):Prop where
 sl:SL sa sn
 nil:sa=none->sn=0/\scp=0
 cap:sn <=scp
 cell:∀j,j<sn->w.cell? ⟨ab sa,ao sa+j*1,none⟩=some (.i (sc j))
theorem uh0.A0 {w w':World} {sa:Option Addr} {sn scp:Nat} {sc:Nat->Int} (h:uh0 w sa sn scp sc) (hb:Below w.heap.size w w'):uh0 w' sa sn scp sc:=⟨h.sl,h.nil,h.cap,fun j hj=>eg0 (h.cell j hj) hb⟩
theorem Sys.ind {Y:Sys} (I:PR Y->Prop) (h0:I Y.p0) (hb:∀p,I p->p.ft.length<Y.m->I (Y.bgn p)) (ht:∀p i l,I p->p.ft.length=Y.m->p.ft[i]? =some (.inl l)->Y.rdy i l p.s=true->I (Y.A5 p i)):∀p,Y.Reach p->I p:=by
 have hB:∀n,n <=Y.m->I (Y.L4 n):=by
  intro n
  induction n with
  |zero=>exact fun _=>h0
  |succ n ih=>exact fun hn=>hb _ (ih (by omega)) (by rw[Sys.B5];omega)
 have hP:∀(sc:Nat->Int) n,I (Y.pn sc n):=by
  intro sc n
  induction n with
  |zero=>exact hB Y.m (Nat.le_refl _)
  |succ n ih=>
   show I (Y.step (Y.pn sc n) (sc n));unfold Sys.step;split
   ·rename_i i hi;obtain⟨_,hr⟩:=Sys.ue0 hi;unfold Sys.dn0 at hr;cases hx:(Y.pn sc n).ft[i]? with
    |none=>rw[hx]at hr;cases hr
    |some f=>
     cases f with
     |inl l=>rw[hx]at hr;exact ht _ i l ih (Sys.Q8 sc n) hx hr
     |inr x=>rw[hx]at hr;cases hr
   ·exact ih
 rintro p (⟨n,hn,rfl⟩|⟨sc,n,rfl⟩)
 ·exact hB n hn
 ·exact hP sc n
end Go.Vy.Sc
end
section
namespace Go.Vy
open Go Go.Conc Go.Yc Go.RowKit
open Go.Vc
theorem Yh0 {P:Program} {fr:Frame} {fn:Func} {v:Value} {t:Tmp} (hm:fr.mode= .returning) (hd:fr.defers=[]) (hk:fr.kind= .normal) (hf:P.funcs[fr.fn]? =some fn) (hr:fn.results=#[.tmp t]) (hv:fr.tmps.getD t undef=v) (hi:P.inits.idxOf? fr.fn=none) (w:World):stepG P true (G fr []) w= .ended (.done v) w #[]:=by
 have h1:=results_tmp hr fr.tmps P w;have h2:=events_results_tmp (P:=P) (w:=w) hr fr.tmps;simp[G,stepG,unwind,doReturn,hm,hd,hk,hf,hi,h1,h2,hv,seen,GStep.after]
theorem ym0 {P:Program} {fr:Frame} {fn:Func} {w:World} {v:Value} {t:Tmp} (hl:Leaves P fr w (.returned v)) (hf:P.funcs[fr.fn]? =some fn) (hr:fn.results=#[.tmp t]) (hnv:m6 w):fr.tmps.getD t undef=v:=by
 obtain⟨h1,h2,h3,fn',h4,h5⟩:=hl;rw[hf]at h4;obtain rfl:=Option.some.inj h4;obtain⟨x',es,h6,_⟩:=h5 w.tape w.drawn _ w hnv.sim;have h7:=results_tmp hr fr.tmps P w;rw[Sem.runT_eq]at h6;have h8:=(Prod.mk.inj h6).1;rw[h7]at h8;injection h8
end Go.Vy
namespace Go.Vy.Sc
open Go Go.Conc Go.Yc Go.RowKit Go.Proofs Go.Proofs.YtnifpkopeheodaaGreat Tryz
open Go.Vc Go.Wg
def ma0 (W w':World):Prop:=Below W.heap.size W {w' with tape:=W.tape}
theorem ma0.frame {W w':World} (h:ma0 W w') (may:MemPlace->Prop):W.keptBut w' may:=Below.frame h may
theorem ma0.trod {H:Type} {enc:TypeId×Value->H} {P:Program} {t:TypeId} (hl:laidOutB P=true) (hr:P.readableRec t=true) (dz1:t<P.types.size) {W W':World} {v:Value} {d:DataW H} {ps:List MemPlace}
  (h:DataW.Trod enc P W 0 (fun _=>true) true t v d ps) (hb:ma0 W W') (C2:∀x∈ps,x.block<W.heap.size) :
  DataW.Trod enc P W' 0 (fun b=>decide (b<W.heap.size)) true t v d ps :=
 WideElems.Trod_stays hl hr dz1 h (fun x hx=>(Below.same hb (C2 x hx):W.sameAt {W' with tape:=W.tape} x)) (fun x hx=>by simpa using C2 x hx)
theorem Hk0 {x y:Obj} (h:cb0 .all x y):y=x:=by cases h;rfl
theorem Cm0 {o x y:Obj} (h:cb0 (.gone o) x y):y=o:=by cases h;rfl
theorem Ub0 {f:FuncId} {fn:Func} {t:Tmp} {args:Array Value} {W:World} (hf:prog.funcs[f]? =some fn) (hr:fn.results=#[.tmp t]) (hi:prog.inits.idxOf? f=none) (h:@C prog (l7 W.heap.size (X0 W).N4) f args (dc0 W) fun v w=>v= .bool true/\Below (dc0 W).heap.size (dc0 W) w) :
  Yc.Ends prog (fun v w'=>v= .bool true/\ma0 W w') (solo (G (Frame.enter prog f args .normal) []) W) #[]:=by
 have D2:(dc0 W).heap.size=W.heap.size:=by simp[dc0]
 refine Fin.start (h _ ⟨_,rfl⟩ [] (fun e w' fr he hfr hl=>?_) (X0 W) ⟨fun _=>rfl,rfl,rfl,rfl,Dv0 W _,fun b hb=>zs0 (by rw[<- D2];exact hb),Nat.one_pos⟩ (by rw[D2];exact Nat.le_refl _) (fun _ hb=>hb.elim) rfl);cases e with
 |panicked ch=>exact he.elim
 |outgrown=>exact he.elim
 |returned v=>
  obtain⟨rfl,hb⟩:=he;rw[D2]at hb;refine Ck0 _ _ _ _ _ fun hnv X hX h1 h2 h3=>?_;have wl0:prog.funcs[fr.fn]? =some fn:=by rw[hfr];exact hf
  have hv:=ym0 hl wl0 hr hnv;obtain⟨hm,hd,hk,_⟩:=hl;refine Fin.ends rfl hX.C1 hX.cap (Yh0 hm hd hk wl0 hr hv (by rw[hfr];exact hi)) fun ρ w hs hρ=>⟨rfl,?_⟩
  refine⟨hs.os.trans hb.os,rfl,hs.output.trans hb.output,?_,fun k hk=>?_⟩
  ·show W.heap.size <=w.heap.size;rw[hs.size];show W.heap.size <=w'.heap.size;rw[<- D2];exact hb.size
  ·show w.heap[k]? =W.heap[k]?;have hk':k<w'.heap.size:=by have:=hb.size;rw[D2]at this;omega
   obtain⟨y,hy,hlk⟩:=hs.obj k _ (Array.getElem?_eq_getElem hk');have e1:some w'.heap[k]=(dc0 W).heap[k]?:=by rw[<- hb.block k hk];exact(Array.getElem?_eq_getElem hk').symm
   have e2:(dc0 W).heap[k]? =(W.heap[k]?).map fun o=>if S3 o then nothing else o:=by
    show(W.heap.map _)[k]? =_;rw[Array.getElem?_map]
   rw[Array.getElem?_eq_getElem hk]at e2;rw[e2]at e1;have e1:=Option.some.inj e1;have hp:ρ k=(X0 W).N4 k:=by
    rw[hρ k fun z=>by have:=h2 k z;omega,h3]
   have hp2:(X0 W).N4 k=if S3 W.heap[k] then .gone W.heap[k] else .all:=by
    show(match W.heap[k]? with|some o=>if S3 o then w6.gone o else .all|none=>.all)=_;rw[Array.getElem?_eq_getElem hk]
   rw[hy,Array.getElem?_eq_getElem hk];have hlk:cb0 (ρ k) w'.heap[k] y:=hlk;rw[hp,hp2,e1]at hlk;cases hv:S3 W.heap[k]
   ·simp only[hv,Bool.false_eq_true,if_false]at hlk;rw[Hk0 hlk]
   ·simp only[hv,if_true]at hlk;rw[Cm0 hlk]
end Go.Vy.Sc
end
section
namespace Go.Vy.Sc
open Go Go.Conc Go.Yc Go.RowKit Go.Proofs Go.Proofs.YtnifpkopeheodaaGreat Tryz
open Go.Vc Go.Wg Go.ChangeShapes Go.WideShapes Go.ChangeAt Go.Deep
theorem im0 {W:World} {a:Addr} {v:Value} (h:W.cell? a=some v):(dc0 W).cell? a=some v:=by
 unfold World.cell? at h⊢;cases ho:W.heap[a.block]? with
 |none=>rw[ho]at h;cases h
 |some o=>
  cases o with
  |cells c e f=>
   rw[Dw0 ho rfl];rw[ho]at h;exact h
  |_=>rw[ho]at h;cases h
theorem mb0 {α:Type} [Inhabited α] {n:Nat} {p:Nat->α->Prop} (h:∀i,i<n->∃x,p i x):∃f:Nat->α,∀i,i<n->p i (f i):=by
 classical
 exact⟨fun i=>if hi:i<n then(h i hi).choose else default,fun i hi=>by
  show p i (if hi:i<n then(h i hi).choose else default);rw[dif_pos hi];exact(h i hi).choose_spec⟩
section
variable {H:Type}{enc:TypeId×Value->H}{W:World}{base:Nat}{spare:Nat->Bool}{held:Bool}{P:Program}
theorem yn0 {t:TypeId} {fs:Array Field} {fuel:Nat} {cs:List Value} {x:DataW H×List MemPlace} (ht:P.underlying t=some (.struct fs)) (h:DataW.trod enc P W base spare held fuel t cs=some x) :
  ∃m,cs.length=P.cellsOf t/\∀(j:Nat) f,fs[j]? =some f->∃y,DataW.trod enc P W base spare held m f.type ((cs.drop f.offset).take (P.cellsOf f.type))=some y:=by
 obtain⟨xs,m,_,_,hl,hxl,hf⟩:=DataW.trod_struct ht h;refine⟨m,hl,fun j f hj=>?_⟩;have hjl:j<xs.length:=by rw[hxl];exact(Array.getElem?_eq_some_iff.1 hj).1
 exact⟨xs[j],by rw[hf j f hj];exact List.getElem?_eq_getElem hjl⟩
end
section
theorem wm0:prog.cellsOf 3=1:=by kernel_rfl
end
end Go.Vy.Sc
end
section
namespace Go.Vy
open Go Go.Conc Go.Yc
open Go.Vc (Env upd T2 ev)
theorem Does.quiet {P:Program} {S:Sem Next} {u:World} {r:Out} (h:∀τ d ρ x,N5 ρ (P2 u τ d) x->S.run P x=r.res x/\S.events P x #[]=#[]):Does P S u r u :=
 ⟨rfl,rfl,fun τ d ρ x hs=>by
  obtain⟨h1,h2⟩:=h τ d ρ x hs;exact⟨X8.refl _,x,#[],by rw[Sem.runT_eq,h1,h2],hs,fun e he=>by simp at he⟩⟩
section
variable {P:Program}{ρ:Operand->Value}{d:Option Nat}{ty:TypeId}{ps:String}{af:Array Edge}{g:Option (Nat×Bool)}{x y:Operand}{w:World}
theorem ey0 {src dst t:TypeId} {a:Addr} {v:Value} (hx:ρ x= .pointer (some a)) (hs:P.underlying src=some (.pointer t)) (hd:P.underlying dst=some .unsafePointer) (hz:(P.info? t).map (fun i=>decide (i.size=0))=some false) (hc:w.cell? a=some v) :
  Does P (execOp ρ ⟨d,.convert src dst x,ty,ps,af,g⟩) w (.val (.pointer (some a))) w :=
 .quiet fun τ dd ρ' X h=>by
  have L6:=h.cell (a:=a) (v:=v) hc;refine⟨Go.Vc.ey0 hx hs hd hz L6,?_⟩;simp[execOp,hx,events_convert_to_unsafe hs hd hz L6]
theorem Hl0 {f:FuncId} {fn:Func} {args:Array Value} {e:Array Value->Sem Value} (hf:P.funcs[f]? =some fn) (H2:(fn.name== "runtime.NumGoroutine")=false) (hb:fn.body.isNone=true) (hn:Extern.findNext fn=none) (he:Extern.find fn=some e) (ht:B1 P (e args)):B1 P (callFunc f args):=by
 unfold callFunc;refine vo0 ?_;rw[hf];simp only[H2,Bool.false_eq_true,if_false,hb,if_true,hn,he];exact D1 (s:=mark (Mark.extern f)) (show(if xf0 (Mark.extern f)=true then B1 P (.pure ()) else dead P (.pure ()))by rw[if_pos (show xf0 (Mark.extern f)=true from rfl)];trivial) fun _=>D1 ht fun _=>J1 _
theorem lf0 {f:FuncId} {fn:Func} {aT:Array TypeId} {a:Addr} {p:Option Addr} {u:Value} (hx:ρ x= .pointer (some a)) (hy:ρ y= .pointer p) (hf:P.funcs[f]? =some fn) (H2:(fn.name== "runtime.NumGoroutine")=false) (hb:fn.body.isNone=true) (hn:Extern.findNext fn=none)
  (he:Extern.find fn=some Extern.Atomic.storeT) (hc:w.cell? a=some u) (hz:w.frozen? a=false) (hρ:ρ (.func f)= .func (.func f) #[] #[]) :
  Does P (execOp ρ ⟨d,.call ⟨.value (.func f),#[x,y],aT⟩,ty,ps,af,g⟩) w (.val (.tuple #[])) (w.setCell a (.pointer p)) :=
 .j1 (by
  show B1 P (do let d <- Deferred.ofValue (ρ (.func f)) (#[x,y].map ρ);invoke d.target d.args);rw[hρ];refine U457 ?_;have e1:(#[] ++ #[x,y].map ρ ++ #[]:Array Value)=#[.pointer (some a),.pointer p]:=by simp[hx,hy]
  rw[e1];show B1 P (do store (<- asAddr (.pointer (some a))) (.pointer p) .atomic;pure Extern.Atomic.none_);exact D1 (fs0 _) fun b=>D1 (tf0 _ _ _) fun _=>J1 _) rfl rfl fun τ dd=>Go.Vc.lf0 hx hy hf H2 hb hn he hc hz hρ
end
section
open Go.Vc Go.RowKit
variable {P:Program}[Ctx P]
end
end Go.Vy
end
section
namespace Go.Vy.Sc
open Go Go.Conc Go.Yc Go.RowKit Go.Proofs Go.Proofs.YtnifpkopeheodaaGreat Tryz
open Go.Vc Go.Wg
structure x9 (K:M8 prog) (w:World) (o:gi0 K.S K.L):Prop where
 on:gh w 2=0
 I2:gh w 1=0
 out:K.out (gh w 0)=o
 none:o.I2=[]
 os:w.os=K.base.os
 output:w.output=K.base.output
section
variable {K:M8 prog}{w w':World}{o:gi0 K.S K.L}
theorem x9.to (h:x9 K w o) (ht:w'.tape=w.tape) (ho:w'.os=w.os) (ho2:w'.output=w.output):x9 K w' o :=
 ⟨by rw[k4 ht];exact h.on,by rw[k4 ht];exact h.I2,by rw[k4 ht];exact h.out,h.none,ho.trans h.os,ho2.trans h.output⟩
theorem x9.A0 {B:Nat} (h:x9 K w o) (hb:Below B w w'):x9 K w' o:=h.to hb.tape hb.os hb.output
theorem x9.n5 {r:Option Nat} (h:x9 K w o) (hg:w.grownBy w' r) (_:True):x9 K w' o:=h.to hg.tape hg.os hg.output
theorem x9.K3 {F:Nat->Prop} {m:Gm} {f:K.L ⊕ Nat} (h:x9 K w o) (hf:o.X7=f) (hm:K.gu (gm w) m) (hi:K.Inv o.s m w F):K.Told w m F f :=
 ⟨h.on,by rw[h.out];exact hf,by rw[h.I2,h.out,h.none];rfl,by rw[h.out];exact hi,hm,h.os,h.output⟩
theorem x9.done {F:Nat->Prop} {m:Gm} {v:Value} (h:x9 K w o) (hf:o.X7= .inr 1) (hm:K.gu (gm w) m) (hi:K.Inv o.s m w F):K.xx0 w F (.returned v):=.inl ⟨m,h.K3 hf hm hi⟩
theorem x9.goes {F F':Nat->Prop} {m:Gm} {u:World} {l:K.L} (h:x9 K w o) (hg:K.Goes w m F l u F') (hn:∀s,(K.go l s).I2=[]):x9 K u (K.go l (K.sOf (gh u 0))) :=
 ⟨hg.on,hg.I2,hg.out,hn _,hg.W6.os.trans h.os,hg.W6.output.trans h.output⟩
end
structure gn0 (Y:Sys) (sc:Nat->Int) (sn B:Nat) (R:Rn) (w:World):Prop where
 mem:K4 w B R
 hm:R.m=Y.m
 evs:R.evs=(Y.pn sc sn).evs
 I2:R.I2=(Y.pn sc sn).I2
 used:R.used=(Y.pn sc sn).used
 ends:∀j,j<Y.m->R.ends[j]? =some (ap0 (Y.pn sc sn).ft[j]?)
 Z7:∀j,j<Y.m->R.Z7[j]? =some (Rl0 Y j ((Y.pn sc sn).ft[j]?))
 stuck:R.stuck=((Y.pn sc sn).ft.any (·.isLeft)&&(Y.rds (Y.pn sc sn)).isEmpty)
 fp:∀b,R.fp b->B <=b
section
variable {Y:Sys}{sc:Nat->Int}{sn B B':Nat}{R:Rn}{w w':World}
theorem gn0.congr (h:gn0 Y sc sn B R w) (he:∀k,R.fp k->w'.heap[k]? =w.heap[k]?):gn0 Y sc sn B R w' :=
 ⟨h.mem.congr he,h.hm,h.evs,h.I2,h.used,h.ends,h.Z7,h.stuck,h.fp⟩
theorem gn0.A0 (h:gn0 Y sc sn B R w) (hb:Below w.heap.size w w'):gn0 Y sc sn B R w':=h.congr fun k hk=>hb.block k (h.mem.lt hk)
theorem gn0.n5 {b:Nat} (h:gn0 Y sc sn B R w) (hg:w.grownBy w' (some b)) (hn:¬R.fp b):gn0 Y sc sn B R w':=h.congr fun k hk=>hg.block k (h.mem.lt hk) fun e=>hn (by cases e;exact hk)
theorem gn0.down (h:gn0 Y sc sn B' R w) (hB:B <=B'):gn0 Y sc sn B R w :=
 ⟨h.mem.down hB,h.hm,h.evs,h.I2,h.used,h.ends,h.Z7,h.stuck,fun b hb=>Nat.le_trans hB (h.fp b hb)⟩
theorem Ly0 {fb:Nat->FuncId} {caps:Nat->Array Value} {fv:Nat->Value} {l sa:Option Addr} {lc scp:Nat} {F:Nat->Prop} (hO:jm0 Y fb caps fv l sa sn sc) {m0:Gm} (hinv:Y.Inv Y.s0 m0 w F) (hl:∀j,j<Y.m->w.cell? ⟨ab l,ao l+j*1,none⟩=some (fv j)) (hlF:0<Y.m->¬F (ab l)) (hSc:uh0 w sa sn scp sc) (hsF:0<sn->¬F (ab sa)\/∀s m w' F',Y.Inv s m w' F'->w'.heap[ab sa]? =w.heap[ab sa]?) :
  @C prog (l7 Y.lb Y.pl) 48 #[.slice l Y.m lc,.slice sa sn scp] w fun v w'=>∃R,v= .tuple #[Go0 R,.i 0]/\gn0 Y sc sn w.heap.size R w'/\(∃m' F',Y.Inv (Y.pn sc sn).s m' w' F'/\∀b,F' b->¬R.fp b)/\w'.os=w.os/\w'.output=w.output/\w'.tape=w.tape/\w.heap.size <=w'.heap.size/\∀b,b<w.heap.size->¬F b->w'.heap[b]? =w.heap[b]?:=by
 classical
 let Mn:Nat->Option Obj:=fun b=>if F b then none else w.heap[b]?
 have T9:∀(w':World) (a:Addr) (v:Value),(∀b,Mn b≠none->w'.heap[b]? =Mn b)->¬F a.block->w.cell? a=some v->w'.cell? a=some v:=fun w' a v hw hF ha=>by
  have h1:Mn a.block=w.heap[a.block]?:=if_neg hF;have h2:w'.heap[a.block]? =w.heap[a.block]?:=by
   rw[<- h1];refine hw _ ?_;rw[h1,Array.getElem?_eq_getElem (gm0 ha)];simp
  rw[(y5 (u:=w) (u':=w') (a:=a) h2).1];exact ha
 have key:=Yc0 (Mn:=Mn) (w0:=w) (F:=F) (bc:=lc) (scp:=scp) hO (fun b o h=>by
   have h:(if F b then none else w.heap[b]?)=some o:=h;split at h
   ·cases h
   ·exact h) hinv (fun b hb=>if_pos hb) (fun w' hw j hj=>T9 w' _ _ hw (hlF (by omega)) (hl j hj)) (fun w' hI hw j hj=>by
   rcases hsF (by omega)with h|h
   ·exact T9 w' _ _ hw h (hSc.cell j hj)
   ·obtain⟨s,m,F',hI⟩:=hI;rw[(y5 (u:=w) (u':=w') (a:=⟨ab sa,ao sa+j*1,none⟩) (h s m w' F' hI)).1];exact hSc.cell j hj)
 refine @Calls.mono _ (l7 Y.lb Y.pl) _ _ _ _ _ key fun e w' he=>?_;cases e with
 |panicked ch=>exact he.elim
 |outgrown=>exact he.elim
 |returned v=>
  obtain⟨R,rfl,hD⟩:=he;refine⟨R,rfl,⟨hD.mem,hD.m,hD.evs,hD.I2,hD.used,hD.ends,hD.Z7,hD.stuck,hD.fp⟩,hD.inv,hD.os,hD.output,hD.tape,hD.size,fun b hb hF=>?_⟩;have h1:Mn b=w.heap[b]?:=if_neg hF;rw[<- h1];refine hD.A0 b ?_;rw[h1,Array.getElem?_eq_getElem hb];simp
end
section
variable [Ctx prog]
theorem go0 (wb:Nat) (w0:World) (hW:Q0 w0 wb #[.bool false] 105):C prog 44 #[.p wb] w0 fun v w=>v= .bool false/\w=w0:=by
 refine C.enter (n:=11) func44 rfl rfl ?_;refine U3 ?_;refine U76 ?_;refine U503 ?_;refine U102 ?_;refine U491 ?_;refine L.on rfl ?_;refine L.va (F0 rfl underlying4 rfl (hW.E0 0 (v:=.bool false) rfl)) ?_;refine L.va (K5 rfl) ?_;refine U34 ?_;exact⟨rfl,rfl⟩
theorem Rt0 (b0 b1 cb:Nat) (obj num:Int) (q:Value) (x:Int) (x2:Int) (w0:World) (g6:Q0 w0 b0 #[.p cb] 69) (hB1:Q0 w0 b1 #[.i x2] 2) (hC:Q0 w0 cb #[.i obj,.i num,q,.i x] 115) :
  C prog 58 #[.p b0,.p b1] w0 fun v w=>v= .tuple #[]/\Q0 w b1 #[.i x] 2/\w0.grownBy w (some b1):=by
 refine C.enter (n:=6) func58 rfl rfl ?_;refine W.region rfl ?_;refine L.va (F0 rfl underlying69 rfl (g6.E0 0 (v:=.p cb) rfl)) ?_;refine U453 ?_;refine L.va (F0 rfl underlying2 rfl (hC.E0 3 (v:=.i x) rfl)) ?_;refine L.pu 0 [.i x] #[.i x] sz2 hB1 (fun w I1 hg D2=>?_);have T5:=O7.dh0 hB1 hg;have hB1:=I1;exact U275
theorem Ru0 (b0 b1 cb:Nat) (obj num:Int) (q:Value) (x:Int) (x2:Int) (w0:World) (g6:Q0 w0 b0 #[.i x] 2) (hB1:Q0 w0 b1 #[.p cb] 69) (hC:Q0 w0 cb #[.i obj,.i num,q,.i x2] 115) :
  C prog 57 #[.p b0,.p b1] w0 fun v w=>v= .tuple #[]/\Q0 w cb #[.i obj,.i num,q,.i x] 115/\w0.grownBy w (some cb):=by
 refine C.enter (n:=6) func57 rfl rfl ?_;refine W.region rfl ?_;refine L.va (F0 rfl underlying69 rfl (hB1.E0 0 (v:=.p cb) rfl)) ?_;refine L.va (F0 rfl underlying2 rfl (g6.E0 0 (v:=.i x) rfl)) ?_;refine U453 ?_;refine L.pu 3 [.i x] #[.i obj,.i num,q,.i x] sz2 hC (fun w I1 hg D2=>?_);have T5:=O7.dh0 hC hg;have hC:=I1;refine U95 ?_;exact⟨rfl,hC,hg⟩
end
theorem ct0 {w:World} {b:Nat} {cs:Array Value} {T:TypeId} {f:Nat×Nat} (h:E1 w b cs T f) (h0:0<cs.size):w.heap[b]? ≠some nothing:=by
 unfold E1 at h;rw[h];intro e;have e1:=Option.some.inj e;unfold nothing at e1;injection e1 with e2
 rw[e2]at h0;exact absurd h0 (Nat.lt_irrefl 0)
theorem ae0 {P:Program} {f:FuncId} {fn:Func} {caps:Array Value} (hf:P.funcs[f]? =some fn) (hb:fn.body.isSome=true) (hn:(fn.name== "runtime.NumGoroutine")=false):Kq0 P (.func (.func f) #[] caps) f caps:=⟨rfl,fn,hf,hb,hn⟩
structure Cn0 (w:World) (t:Nat):Prop where
 eq:gh w 0=t
structure KOk (K:M8 prog):Prop where
 loc:∀s m (w w':World) F,K.Inv s m w F->(∀b,F b->w'.heap[b]? =w.heap[b]?)->K.Inv s m w' F
 vis:∀s m (w:World) F,K.Inv s m w F->∀b,F b->b<w.heap.size/\w.heap[b]? ≠some nothing
 refl:∀a,K.gu a a
 step:K.jg0=83
 number:K.I3=47
theorem Sys.kok {Y:Sys} (h:lx0 Y) {fb:Nat->FuncId} {q:PR Y} {w0:World} {i cb:Nat} {top:List Frame}:KOk (Y.cfg fb q w0 i cb top):=⟨h.loc,h.vis,fun a j _=>h.refl j a,rfl,rfl⟩
section
variable {K:M8 prog}{w0 w u u':World}{m:Gm}{F F':Nat->Prop}{l:K.L}{f:K.L ⊕ Nat}
theorem KOk.K3 (hK:KOk K) (h:K.Told w0 m F f) (ht:w.tape=w0.tape) (ho:w.os=w0.os) (hp:w.output=w0.output) (hk:∀b,F b->w.heap[b]? =w0.heap[b]?):K.Told w m F f :=
 ⟨by rw[k4 ht];exact h.on,by rw[k4 ht];exact h.X7,by rw[k4 ht,k4 ht];exact h.I2,hK.loc _ _ w0 w F (by rw[k4 ht];exact h.inv) hk,by rw[gh0 ht];exact h.le,ho.trans h.os,hp.trans h.output⟩
theorem KOk.A0 (hK:KOk K) (h:K.Told w0 m F f) (hb:Below w0.heap.size w0 w):K.Told w m F f :=
 hK.K3 h hb.tape hb.os hb.output fun b hF=>hb.block b (hK.vis _ _ _ _ h.inv b hF).1
theorem KOk.tlt (hK:KOk K) (h:K.Told w0 m F f) {b:Nat} (hF:F b):b<w0.heap.size:=(hK.vis _ _ _ _ h.inv b hF).1
theorem m5.down (hb:Below w0.heap.size w0 w) (h:K.m5 w m F u F'):K.m5 w0 m F u F' :=
 ⟨Nat.le_trans hb.size h.size,fun b C2 hn hF=>by
  have e:=hb.block b C2;have:=h.A0 b (Nat.lt_of_lt_of_le C2 hb.size) (by rw[e];exact hn) hF;exact⟨this.1.trans e,this.2⟩,h.inv,h.le,h.os.trans hb.os,h.output.trans hb.output⟩
theorem Goes.down (hb:Below w0.heap.size w0 w) (h:K.Goes w m F l u F'):K.Goes w0 m F l u F':=⟨m5.down hb h.W6,h.I2,h.on,h.out,h.rdy,h.at_⟩
theorem Goes.own (hK:KOk K) (h:K.Goes w0 m F l u F') (ht:u'.tape=u.tape) (ho:u'.os=u.os) (hp:u'.output=u.output) (hs:u.heap.size <=u'.heap.size) (hk:∀b,(b<w0.heap.size\/F' b)->b<u.heap.size->u'.heap[b]? =u.heap[b]?):K.Goes w0 m F l u' F':=by
 have hv:=hK.vis _ _ _ _ h.W6.inv;refine⟨⟨Nat.le_trans h.W6.size hs,fun b C2 hn hF=>?_,?_,?_,ho.trans h.W6.os,hp.trans h.W6.output⟩,?_,?_,?_,?_,?_⟩
 ·have:=h.W6.A0 b C2 hn hF;exact⟨(hk b (.inl C2) (Nat.lt_of_lt_of_le C2 h.W6.size)).trans this.1,this.2⟩
 ·rw[k4 ht,gh0 ht];exact hK.loc _ _ u u' F' h.W6.inv fun b hb=>hk b (.inr hb) (hv b hb).1
 ·rw[gh0 ht];exact h.W6.le
 ·rw[k4 ht];exact h.I2
 ·rw[k4 ht];exact h.on
 ·rw[k4 ht];exact h.out
 ·rw[k4 ht];exact h.rdy
 ·rw[k4 ht];exact h.at_
structure Gn (K:M8 prog) (w0:World) (m:Gm) (F:Nat->Prop) (l:K.L) (u:World) (F':Nat->Prop):Prop where
 ok:KOk K
 goes:K.Goes w0 m F l u F'
theorem Gn.n5 (h:Gn K w0 m F l u F') {b:Nat} (hg:u.grownBy u' (some b)) (hn:w0.heap.size <=b/\¬F' b):Gn K w0 m F l u' F' :=
 ⟨h.ok,Goes.own h.ok h.goes hg.tape hg.os hg.output hg.size fun k hk hl=>hg.block k hl fun e=>by cases e;rcases hk with hk|hk;omega;exact hn.2 hk⟩
theorem Goes.af0 (h:K.Goes w0 m F l u F') {b:Nat} {cs:Array Value} {T:TypeId} (hB:Q0 w0 b cs T) (h0:0<cs.size) (hF:¬F b):Q0 u b cs T/\¬F' b:=by
 have hB':E1 w0 b cs T (0,0):=R3 hB;have:=h.W6.A0 b hB'.lt (ct0 hB' h0) hF;exact⟨this.1.trans hB',this.2⟩
end
structure ff0 (K:M8 prog) (w0 u:World):Prop where
 g2:gh u 2=1
 inv:∃F',K.Inv (K.sOf (gh u 0)) (gm u) u F'
 os:u.os=w0.os
 output:u.output=w0.output
theorem ff0.at {K:M8 prog} {w0 w1 u:World} (h:ff0 K w1 u) (ho:w1.os=w0.os) (hp:w1.output=w0.output):ff0 K w0 u:=⟨h.g2,h.inv,h.os.trans ho,h.output.trans hp⟩
theorem ui0 {K:M8 prog} {w0 u:World} {m:Gm} {F F':Nat->Prop} (h:K.m5 w0 m F u F') (h2:gh u 2=1):ff0 K w0 u:=⟨h2,⟨F',h.inv⟩,h.os,h.output⟩
theorem ff0.done {K:M8 prog} {w0 u:World} {ch:List PanicEntry} (hK:KOk K) (h:ff0 K w0 u) (hr:bb0 ch) (ho:w0.os=K.base.os) (hp:w0.output=K.base.output):∃F,K.xx0 u F (.panicked ch):=by
 obtain⟨F',hi⟩:=h.inv;exact⟨F',hr,.inr ⟨h.g2,⟨gm u,hK.refl _,hi⟩,h.os.trans ho,h.output.trans hp⟩⟩
def r3 (K:M8 prog) (w0:World) (R:Value->World->Prop):Ending->World->Prop
 | .returned v,u=>R v u
 | .panicked ch,u=>bb0 ch/\ff0 K w0 u
 | .outgrown,_=>False
theorem Rv0 (x0:Int) (x1:Int) (x2:Int):prog.built 47 [(0,.i x0),(1,.i x1),(2,.i x2)]=some #[.i x0,.i x1,.i x2]:=by kernel_rfl
theorem y8 {K:M8 prog} (hK:KOk K) {l:K.L} {m:Gm} {F:Nat->Prop} {o n ki:Int} {rd df:Value} (w0:World) (hT:K.Told w0 m F (.inl l)) (E2:K.stp l=⟨ki,o,n⟩) (hr:∀w,Below w0.heap.size w0 w->K.ck0 w m F rd l) (_hrc:∃f caps,rd= .nilFunc\/rd= .func (.func f) #[] caps) (hdf:FnV prog df) (Rdo:World->World->Prop) (hdo:∀w,Below w0.heap.size w0 w->∀u F',K.Goes w m F l u F'->Bv0 prog K.y4 df u (Rdo u)) :
  @Calls prog (J0 K) 56 #[.agg #[.i o,.i n],.p K.ptr,.i ki,rd,df] w0 (r3 K w0 fun v u=>v= .tuple #[]/\∃u0 F',K.Goes w0 m F l u0 F'/\Rdo u0 u/\u.tape=u0.tape):=by
 letI:Ctx prog:=J0 K;refine Calls.V5 (n:=20) func56 rfl rfl ?_;refine U4 ?_;intro hb;refine L.box (cs:=#[.i o,.i n]) rfl rfl (fun w b5 F5=>?_);refine U236 ?_;intro lt5 hb;have C3:=F5.blk;refine U50 ?_;refine U43 ?_;refine L.va (K0 rfl underlying107 rfl sz3 (by decide)) ?_;refine L.va (F0 rfl underlying3 rfl (C3.E0 0 (v:=.i o) rfl)) ?_;refine L.va (K0 rfl underlying107 rfl sz3 (by decide)) ?_;refine L.va (F0 rfl underlying3 rfl (C3.E0 1 (v:=.i n) rfl)) ?_;refine L.va (L3 (parts:=[(0,.tmp 11),(1,.tmp 13),(2,.tmp 15)]) rfl (Rv0 ki o n)) ?_;refine L.va cg0 ?_;refine L.va cg0 ?_;have y9:=hb;refine L.T3 rfl (w8 rfl rfl rfl rfl func83 rfl cx1 rfl) (hK.step▸Bw0 (K:=K) (hK.A0 hT hb) (by rw[E2];rfl) (hr _ hb) hdf Rdo (hdo _ hb)) ?_ ?_ (fun _ h=>h)
 ·rintro v u ⟨rfl,u0,F',hg,hR,ht⟩;rename_i wL;refine U62 ?_;exact⟨rfl,u0,F',Goes.down y9 hg,hR,ht⟩
 ·rintro ch u ⟨Q6,F',hl,h2⟩;exact⟨Q6,(ui0 hl h2).at y9.os y9.output⟩
set_option maxHeartbeats 400000 in
theorem Lz0 {K:M8 prog} (hK:KOk K) {T4:K.L} {m:Gm} {F:Nat->Prop} (cb wb:Nat) (obj num:Int) (x:Nat->Int) (x2:Int) (w0:World) (hT:K.Told w0 m F (.inl T4)) (E2:K.stp T4=⟨8,obj,num⟩) (hrd:∀s,K.rdy T4 s=true) (hW:Q0 w0 wb #[.bool false] 105) (hC:Q0 w0 cb #[.i obj,.i num,.p wb,.i x2] 115) (hgo:∀u F',K.Goes w0 m F T4 u F'->Q0 u cb #[.i obj,.i num,.p wb,.i (x (gh u 0))] 115) :
  @Calls prog (J0 K) 22 #[.p cb,.p K.ptr] w0 (r3 K w0 fun v u=>∃F' tt,Gn K w0 m F T4 u F'/\Cn0 u tt/\v= .i (x tt)):=by
 letI:Ctx prog:=J0 K;refine Calls.V5 (n:=26) func22 rfl rfl ?_;refine U4 ?_;intro hb;refine L.box (cs:=#[.p cb]) rfl rfl (fun w b2 F2=>?_);refine U19 ?_;intro lt2 hb;have hW:=hW.A0 F2.below;refine U55 ?_;intro hC H7;refine U64 ?_;refine L.alloc (cs:=#[.i 0]) zr2 rfl (fun w b5 F5=>?_);refine U75 ?_;intro lt5 hb hW hC;have H7:=H7.A0 F5.below;have C3:=F5.blk;refine U54 ?_;refine L.va (F0 rfl underlying69 rfl (H7.E0 0 (v:=.p cb) rfl)) ?_;refine L.va (k5 rfl rfl underlying69) ?_;refine U183 ?_;refine U436 ?_;refine U509 ?_;rintro _ w1 ⟨rfl,hw⟩;refine U107 ?_;refine U436 ?_;refine U366 ?_;refine L.va (H3 rfl) ?_;refine L.va (Q3 (l:=[.tmp 2,.tmp 5]) (vs:=[.p b2,.p b5]) rfl) ?_;have y9:=hb;refine U241 ?_;intro hF5 hF2;have K9:@Calls prog (J0 K) 56 #[.agg #[.i obj,.i num],.p K.ptr,.i 8,.nilFunc,.func (.func 58) #[] #[.p b2,.p b5]] w (r3 K w fun v u=>v= .tuple #[]/\∃u0 F',K.Goes w m F T4 u0 F'/\(Q0 u b5 #[.i (x (gh u0 0))] 2/\u0.grownBy u (some b5))/\u.tape=u0.tape):=by
  refine y8 hK w (hK.A0 hT hb) E2 (fun w1 E5=>.inl ⟨rfl,hrd⟩) ⟨0,#[],.inl rfl⟩ (.inr ⟨58,_,ae0 func58 rfl We0⟩) (fun u u2=>Q0 u2 b5 #[.i (x (gh u 0))] 2/\u.grownBy u2 (some b5)) (fun w1 E5 u F' hg=>.inr ⟨58,_,ae0 func58 rfl We0,?_⟩);exact @C.mono _ (y4 prog K.I3 K.ptr K.num) _ _ _ _ _ (@Rt0 (y4 prog K.I3 K.ptr K.num) b2 b5 cb obj num _ _ _ u (Goes.af0 hg (H7.A0 E5) (Nat.zero_lt_succ _) hF2).1 (Goes.af0 hg (C3.A0 E5) (Nat.zero_lt_succ _) hF5).1 (hgo u F' (Goes.down (N0 hb E5) hg))) fun v w' h=>h.2
 refine L.T3 rfl (g7 rfl rfl rfl rfl rfl func56 rfl ob0 rfl) K9 ?_ ?_ (fun _ h=>h)
 ·rintro v u ⟨rfl,u0,F',hg,⟨mc0,G3⟩,ht⟩;refine U226 ?_;intro h5 hgn;obtain⟨tt,htt⟩:∃tt,gh u0 0=tt:=⟨_,rfl⟩
  rw[htt]at mc0;have htt:Cn0 u tt:=⟨(k4 ht 0).trans htt⟩
  have C3:=mc0;clear hb mc0 H7 hC K9;rename_i wL;clear hW;refine U9 ?_;refine L.va (F0 rfl underlying2 rfl (C3.E0 0 (v:=.i (x tt)) rfl)) ?_;refine U24 ?_;exact⟨F',tt,hgn,htt,rfl⟩
 ·rintro ch u ⟨Q6,hh⟩;exact⟨Q6,hh.at y9.os y9.output⟩
set_option maxHeartbeats 400000 in
theorem Ma0 {K:M8 prog} (hK:KOk K) {T4:K.L} {m:Gm} {F:Nat->Prop} (cb wb:Nat) (obj num:Int) (x:Int) (x2:Int) (w0:World) (hT:K.Told w0 m F (.inl T4)) (E2:K.stp T4=⟨9,obj,num⟩) (hrd:∀s,K.rdy T4 s=true) (hW:Q0 w0 wb #[.bool false] 105) (hC:Q0 w0 cb #[.i obj,.i num,.p wb,.i x2] 115) (hgo:∀u F',K.Goes w0 m F T4 u F'->∃x2,Q0 u cb #[.i obj,.i num,.p wb,.i x2] 115) :
  @Calls prog (J0 K) 21 #[.p cb,.p K.ptr,.i x] w0 (r3 K w0 fun v u=>v= .tuple #[]/\∃u0 F',Gn K w0 m F T4 u0 F'/\Q0 u cb #[.i obj,.i num,.p wb,.i x] 115/\u0.grownBy u (some cb)):=by
 letI:Ctx prog:=J0 K;refine Calls.V5 (n:=26) func21 rfl rfl ?_;refine U4 ?_;intro hb;refine L.box (cs:=#[.p cb]) rfl rfl (fun w b3 F3=>?_);have lt3:=F3.lq hb.size;have hb:=N0 hb F3.below;have hW:=hW.A0 F3.below;have hC:=hC.A0 F3.below;have hB3:=F3.blk;refine L.box (cs:=#[.i x]) rfl rfl (fun w b5 F5=>?_);refine U75 ?_;intro lt5 hb hW hC;have hB3:=hB3.A0 F5.below;have C3:=F5.blk;refine U0 ?_;refine U21 ?_;refine L.va (F0 rfl underlying69 rfl (hB3.E0 0 (v:=.p cb) rfl)) ?_;refine L.va (k5 rfl rfl underlying69) ?_;refine U5 ?_;refine U437 ?_;refine U509 ?_;rintro _ w1 ⟨rfl,hw⟩;refine U37 ?_;refine U195 ?_;refine W.region rfl ?_;refine U437 ?_;refine U366 ?_;refine L.va (H3 rfl) ?_;refine L.va (Q3 (l:=[.tmp 5,.tmp 3]) (vs:=[.p b5,.p b3]) rfl) ?_;have y9:=hb;have hF5:¬F b5:=fun z=>by have:=hK.tlt hT z;omega
 have hF3:¬F b3:=fun z=>by have:=hK.tlt hT z;omega
 have K9:@Calls prog (J0 K) 56 #[.agg #[.i obj,.i num],.p K.ptr,.i 9,.nilFunc,.func (.func 57) #[] #[.p b5,.p b3]] w (r3 K w fun v u=>v= .tuple #[]/\∃u0 F',K.Goes w m F T4 u0 F'/\(Q0 u cb #[.i obj,.i num,.p wb,.i x] 115/\u0.grownBy u (some cb))/\u.tape=u0.tape):=by
  refine y8 hK w (hK.A0 hT hb) E2 (fun w1 E5=>.inl ⟨rfl,hrd⟩) ⟨0,#[],.inl rfl⟩ (.inr ⟨57,_,ae0 func57 rfl Wd0⟩) (fun u u2=>Q0 u2 cb #[.i obj,.i num,.p wb,.i x] 115/\u.grownBy u2 (some cb)) (fun w1 E5 u F' hg=>.inr ⟨57,_,ae0 func57 rfl Wd0,?_⟩);obtain⟨y0,hCu⟩:=hgo u F' (Goes.down (N0 hb E5) hg);exact @C.mono _ (y4 prog K.I3 K.ptr K.num) _ _ _ _ _ (@Ru0 (y4 prog K.I3 K.ptr K.num) b5 b3 cb obj num _ x _ u (Goes.af0 hg (C3.A0 E5) (Nat.zero_lt_succ _) hF5).1 (Goes.af0 hg (hB3.A0 E5) (Nat.zero_lt_succ _) hF3).1 hCu) fun v w' h=>h.2
 refine L.T3 rfl (g7 rfl rfl rfl rfl rfl func56 rfl ob0 rfl) K9 ?_ ?_ (fun _ h=>h)
 ·rintro v u ⟨rfl,u0,F',hg,⟨hCn,G3⟩,ht⟩;have I8:=Goes.down y9 hg;rename_i wL;refine U137 ?_;refine U112 ?_;exact⟨rfl,u0,F',⟨hK,I8⟩,hCn,G3⟩
 ·rintro ch u ⟨Q6,hh⟩;exact⟨Q6,hh.at y9.os y9.output⟩
end Go.Vy.Sc
end
section
namespace Go.Vy
open Go Go.Yc Go.RowKit
open Go.Vc
section
variable {P:Program}{ρ:Operand->Value}{w:World}{d:Option Nat}{ty:TypeId}{ps:String}{af:Array Edge}{g:Option (Nat×Bool)}
theorem md0 {S:Sem Next} {r:Out} (h:∀x,S.run P x=r.res x) (he:∀x,S.events P x #[]=#[]):Does P S w r w :=
 ⟨rfl,rfl,fun τ d ρ x hs=>⟨X8.refl _,x,#[],by rw[Sem.runT_eq,h,he],hs,fun e he=>by simp at he⟩⟩
theorem E9 {T:TypeId} {r x0:Operand} {v v0:Value} {name:String} {aT:Array TypeId} {F:FuncId} {fn:Func} (hx:ρ r= .iface T v) (h0:ρ x0=v0) (hm:∀recv w,(Go.method (P.types.size+Made.depth) T recv name).run P w= .ok (F,recv) w) (hme:∀recv w,(Go.method (P.types.size+Made.depth) T recv name).events P w #[]=#[]) (hf:P.funcs[F]? =some fn) (hb:fn.body.isSome=true) (hn:(fn.name== "runtime.NumGoroutine")=false) :
  Does P (execOp ρ ⟨d,.call ⟨.invoke r name,#[x0],aT⟩,ty,ps,af,g⟩) w (.enter F #[v,v0]) w:=by
 have L7:fn.body.isNone=false:=by cases h:fn.body <;> simp_all
 have hn':fn.name≠ "runtime.NumGoroutine":=by simpa using hn
 have hb2:fn.body≠none:=by intro h;rw[h]at hb;cases hb
 refine md0 (fun x=>?_) fun x=>?_
 ·have hm':Sem.run P (Go.method (P.types.size+100) T v name) x= .ok (F,v) x:=hm v x;show _=Result.ok (Next.enter F #[v,v0]) x;simp[execOp,resolve,hx,h0,invoke,callMethod,go_sem,hm',callFunc,hf,hn',hb2]
 ·have hm':Sem.run P (Go.method (P.types.size+100) T v name) x= .ok (F,v) x:=hm v x;have ea1:Sem.events P (Go.method (P.types.size+100) T v name) x #[]=#[]:=hme v x;simp[execOp,resolve,hx,h0,invoke,callMethod,go_sem,hm',ea1,callFunc,hf,hn',hb2]
end
end Go.Vy
end
section
namespace Go.Vy.Sc
open Go Go.Conc Go.Yc Go.RowKit Go.Proofs Go.Proofs.YtnifpkopeheodaaGreat Tryz
open Go.Vc Go.Wg
theorem Rw0 [Ctx prog] (b0 b1 cb:Nat) (obj num:Int) (q:Value) (x x2:Int) (sa:Value) (w0:World) (g6:Q0 w0 b0 #[.pointer (some ⟨cb,0,none⟩)] 67) (hB1:Q0 w0 b1 #[.int .i64 x2] 2) (hC:Q0 w0 cb #[.int .i64 obj,.int .i64 num,q,.int .i64 x,sa] 132) :
  C prog 64 #[.pointer (some ⟨b0,0,none⟩),.pointer (some ⟨b1,0,none⟩)] w0 fun v w=>v= .tuple #[]/\Q0 w b1 #[.int .i64 x] 2/\w0.grownBy w (some b1):=by
 refine C.enter (n:=6) func64 rfl rfl ?_;refine U399 ?_;refine U454 ?_;refine U484 ?_;intro w I1 hg D2;have T5:=O7.dh0 hB1 hg;have hB1:=I1;exact U275
set_option maxHeartbeats 400000 in
theorem Mb0 {K:M8 prog} (hK:KOk K) {T4:K.L} {m:Gm} {F:Nat->Prop} (cb wb:Nat) (obj num:Int) (x:Nat->Int) (x2:Int) (sa:Value) (w0:World) (hT:K.Told w0 m F (.inl T4)) (E2:K.stp T4=⟨5,obj,num⟩) (hrd:∀s,K.rdy T4 s=true) (hW:Q0 w0 wb #[.bool false] 105) (hC:Q0 w0 cb #[.int .i64 obj,.int .i64 num,.pointer (some ⟨wb,0,none⟩),.int .i64 x2,sa] 132) (hgo:∀u F',K.Goes w0 m F T4 u F'->∃sa,Q0 u cb #[.int .i64 obj,.int .i64 num,.pointer (some ⟨wb,0,none⟩),.int .i64 (x (gh u 0)),sa] 132) :
  @Calls prog (J0 K) 29 #[.pointer (some ⟨cb,0,none⟩),.pointer (some ⟨K.ptr,0,none⟩)] w0 (r3 K w0 fun v u=>∃F' tt,Gn K w0 m F T4 u F'/\Cn0 u tt/\v= .int .i64 (x tt)):=by
 letI:Ctx prog:=J0 K;refine Calls.V5 (n:=28) func29 rfl rfl ?_;refine U4 ?_;intro hb;refine L.box (cs:=#[.pointer (some ⟨cb,0,none⟩)]) rfl rfl (fun w b2 F2=>?_);refine U19 ?_;intro lt2 hb;have hW:=hW.A0 F2.below;refine U55 ?_;intro hC H7;refine U64 ?_;refine L.alloc (cs:=#[.int .i64 0]) zr2 rfl (fun w b5 F5=>?_);refine U75 ?_;intro lt5 hb hW hC;have H7:=H7.A0 F5.below;have C3:=F5.blk;refine U54 ?_;refine L.va (F0 rfl underlying67 rfl (H7.E0 0 (v:=.pointer (some ⟨cb,0,none⟩)) rfl)) ?_;refine L.va (k5 rfl rfl underlying67) ?_;refine U183 ?_;refine U385 ?_;refine U506 ?_;rintro _ w1 ⟨rfl,hw⟩;refine U107 ?_;refine U385 ?_;refine L.va (K0 rfl underlying132 rfl ji0 (by decide)) ?_;refine U381 ?_;have y9:=hb;refine U241 ?_;intro hF5 hF2;have K9:@Calls prog (J0 K) 56 #[.agg #[.int .i64 obj,.int .i64 num],.pointer (some ⟨K.ptr,0,none⟩),.int .i64 5,.nilFunc,.func (.func 64) #[] #[.pointer (some ⟨b2,0,none⟩),.pointer (some ⟨b5,0,none⟩)]] w (r3 K w fun v u=>v= .tuple #[]/\∃u0 F',K.Goes w m F T4 u0 F'/\(Q0 u b5 #[.int .i64 (x (gh u0 0))] 2/\u0.grownBy u (some b5))/\u.tape=u0.tape):=by
  refine y8 hK w (hK.A0 hT hb) E2 (fun w1 E5=>.inl ⟨rfl,hrd⟩) ⟨0,#[],.inl rfl⟩ (.inr ⟨64,_,ae0 func64 rfl Wh0⟩) (fun u u2=>Q0 u2 b5 #[.int .i64 (x (gh u 0))] 2/\u.grownBy u2 (some b5)) (fun w1 E5 u F' hg=>.inr ⟨64,_,ae0 func64 rfl Wh0,?_⟩);obtain⟨y0,hCu⟩:=hgo u F' (Goes.down (N0 hb E5) hg);exact @C.mono _ (y4 prog K.I3 K.ptr K.num) _ _ _ _ _ (@Rw0 (y4 prog K.I3 K.ptr K.num) b2 b5 cb obj num _ _ _ _ u (Goes.af0 hg (H7.A0 E5) (Nat.zero_lt_succ _) hF2).1 (Goes.af0 hg (C3.A0 E5) (Nat.zero_lt_succ _) hF5).1 hCu) fun v w' h=>h.2
 refine L.T3 rfl (g7 rfl rfl rfl rfl rfl func56 rfl ob0 rfl) K9 ?_ ?_ (fun _ h=>h)
 ·rintro v u ⟨rfl,u0,F',hg,⟨mc0,G3⟩,ht⟩;refine U226 ?_;intro h5 hgn;obtain⟨tt,htt⟩:∃tt,gh u0 0=tt:=⟨_,rfl⟩
  rw[htt]at mc0;have htt:Cn0 u tt:=⟨(k4 ht 0).trans htt⟩
  clear hb H7 hC K9 C3;have C3:=mc0;clear mc0;rename_i wL;clear hW;refine U9 ?_;refine U447 ?_;exact⟨F',tt,hgn,htt,rfl⟩
 ·rintro ch u ⟨Q6,hh⟩;exact⟨Q6,hh.at y9.os y9.output⟩
theorem Rx0 [Ctx prog] (b0 b1 cb:Nat) (obj num:Int) (q:Value) (x x2:Int) (sa:Value) (w0:World) (g6:Q0 w0 b0 #[.pointer (some ⟨cb,0,none⟩)] 67) (hB1:Q0 w0 b1 #[.int .i64 x] 2) (hC:Q0 w0 cb #[.int .i64 obj,.int .i64 num,q,.int .i64 x2,sa] 132) :
  C prog 62 #[.pointer (some ⟨b1,0,none⟩),.pointer (some ⟨b0,0,none⟩)] w0 fun v w=>v= .tuple #[]/\Q0 w cb #[.int .i64 obj,.int .i64 num,q,.int .i64 x,sa] 132/\w0.grownBy w (some cb):=by
 refine C.enter (n:=6) func62 rfl rfl ?_;refine U399 ?_;refine L.va (F0 rfl underlying2 rfl (hB1.E0 0 (v:=.int .i64 x) rfl)) ?_;refine U454 ?_;refine L.pu 3 [.int .i64 x] #[.int .i64 obj,.int .i64 num,q,.int .i64 x,sa] sz2 hC (fun w I1 hg D2=>?_);have T5:=O7.dh0 hC hg;have hC:=I1;refine U95 ?_;exact⟨rfl,hC,hg⟩
set_option maxHeartbeats 400000 in
theorem Mc0 {K:M8 prog} (hK:KOk K) {T4:K.L} {m:Gm} {F:Nat->Prop} (cb wb:Nat) (obj num:Int) (x:Int) (x2:Int) (sa:Value) (w0:World) (hT:K.Told w0 m F (.inl T4)) (E2:K.stp T4=⟨6,obj,num⟩) (hrd:∀s,K.rdy T4 s=true) (hW:Q0 w0 wb #[.bool false] 105) (hC:Q0 w0 cb #[.int .i64 obj,.int .i64 num,.pointer (some ⟨wb,0,none⟩),.int .i64 x2,sa] 132) (hgo:∀u F',K.Goes w0 m F T4 u F'->∃x2 sa,Q0 u cb #[.int .i64 obj,.int .i64 num,.pointer (some ⟨wb,0,none⟩),.int .i64 x2,sa] 132) :
  @Calls prog (J0 K) 26 #[.pointer (some ⟨cb,0,none⟩),.pointer (some ⟨K.ptr,0,none⟩),.int .i64 x] w0 (r3 K w0 fun v u=>v= .tuple #[]/\∃u0 F',Gn K w0 m F T4 u0 F'/\(∃sa,Q0 u cb #[.int .i64 obj,.int .i64 num,.pointer (some ⟨wb,0,none⟩),.int .i64 x,sa] 132)/\u0.grownBy u (some cb)/\u.tape=u0.tape):=by
 letI:Ctx prog:=J0 K;refine Calls.V5 (n:=26) func26 rfl rfl ?_;refine U4 ?_;intro hb;refine L.box (cs:=#[.pointer (some ⟨cb,0,none⟩)]) rfl rfl (fun w b3 F3=>?_);have lt3:=F3.lq hb.size;have hb:=N0 hb F3.below;have hW:=hW.A0 F3.below;have hC:=hC.A0 F3.below;have hB3:=F3.blk;refine L.box (cs:=#[.int .i64 x]) rfl rfl (fun w b5 F5=>?_);refine U75 ?_;intro lt5 hb hW hC;have hB3:=hB3.A0 F5.below;have C3:=F5.blk;refine U0 ?_;refine U21 ?_;refine L.va (F0 rfl underlying67 rfl (hB3.E0 0 (v:=.pointer (some ⟨cb,0,none⟩)) rfl)) ?_;refine L.va (k5 rfl rfl underlying67) ?_;refine U5 ?_;refine U386 ?_;refine U506 ?_;rintro _ w1 ⟨rfl,hw⟩;refine U37 ?_;refine U195 ?_;refine W.region rfl ?_;refine U386 ?_;refine L.va (K0 rfl underlying132 rfl ji0 (by decide)) ?_;refine U114 ?_;refine L.va (Q3 (l:=[.tmp 5,.tmp 3]) (vs:=[.pointer (some ⟨b5,0,none⟩),.pointer (some ⟨b3,0,none⟩)]) rfl) ?_;have y9:=hb;have hF5:¬F b5:=fun z=>by have:=hK.tlt hT z;omega
 have hF3:¬F b3:=fun z=>by have:=hK.tlt hT z;omega
 have K9:@Calls prog (J0 K) 56 #[.agg #[.int .i64 obj,.int .i64 num],.pointer (some ⟨K.ptr,0,none⟩),.int .i64 6,.nilFunc,.func (.func 62) #[] #[.pointer (some ⟨b5,0,none⟩),.pointer (some ⟨b3,0,none⟩)]] w (r3 K w fun v u=>v= .tuple #[]/\∃u0 F',K.Goes w m F T4 u0 F'/\((∃sa,Q0 u cb #[.int .i64 obj,.int .i64 num,.pointer (some ⟨wb,0,none⟩),.int .i64 x,sa] 132)/\u0.grownBy u (some cb))/\u.tape=u0.tape):=by
  refine y8 hK w (hK.A0 hT hb) E2 (fun w1 E5=>.inl ⟨rfl,hrd⟩) ⟨0,#[],.inl rfl⟩ (.inr ⟨62,_,ae0 func62 rfl Wg0⟩) (fun u u2=>(∃sa,Q0 u2 cb #[.int .i64 obj,.int .i64 num,.pointer (some ⟨wb,0,none⟩),.int .i64 x,sa] 132)/\u.grownBy u2 (some cb)) (fun w1 E5 u F' hg=>.inr ⟨62,_,ae0 func62 rfl Wg0,?_⟩);obtain⟨y,y0,hCu⟩:=hgo u F' (Goes.down (N0 hb E5) hg);exact @C.mono _ (y4 prog K.I3 K.ptr K.num) _ _ _ _ _ (@Rx0 (y4 prog K.I3 K.ptr K.num) b3 b5 cb obj num _ _ _ _ u (Goes.af0 hg (hB3.A0 E5) (Nat.zero_lt_succ _) hF3).1 (Goes.af0 hg (C3.A0 E5) (Nat.zero_lt_succ _) hF5).1 hCu) fun v w' h=>⟨⟨_,h.2.1⟩,h.2.2⟩
 refine L.T3 rfl (g7 rfl rfl rfl rfl rfl func56 rfl ob0 rfl) K9 ?_ ?_ (fun _ h=>h)
 ·rintro v u ⟨rfl,u0,F',hg,⟨hCn,G3⟩,ht⟩;have I8:=Goes.down y9 hg;rename_i wL;refine U137 ?_;refine U112 ?_;exact⟨rfl,u0,F',⟨hK,I8⟩,hCn,G3,ht⟩
 ·rintro ch u ⟨Q6,hh⟩;exact⟨Q6,hh.at y9.os y9.output⟩
theorem Ry0 [Ctx prog] (b0 b1 cb:Nat) (obj num:Int) (q:Value) (x x2:Int) (sa:Value) (w0:World) (g6:Q0 w0 b0 #[.pointer (some ⟨cb,0,none⟩)] 65) (hB1:Q0 w0 b1 #[.int .i64 x2] 2) (hC:Q0 w0 cb #[.int .i64 obj,.int .i64 num,q,.int .i64 x,sa] 123) :
  C prog 72 #[.pointer (some ⟨b0,0,none⟩),.pointer (some ⟨b1,0,none⟩)] w0 fun v w=>v= .tuple #[]/\Q0 w b1 #[.int .i64 x] 2/\w0.grownBy w (some b1):=by
 refine C.enter (n:=6) func72 rfl rfl ?_;refine W.region rfl ?_;refine U516 ?_;refine U484 ?_;intro w I1 hg D2;have T5:=O7.dh0 hB1 hg;have hB1:=I1;exact U275
set_option maxHeartbeats 400000 in
theorem Md0 {K:M8 prog} (hK:KOk K) {T4:K.L} {m:Gm} {F:Nat->Prop} (cb wb:Nat) (obj num:Int) (x:Nat->Int) (x2:Int) (sa:Value) (w0:World) (hT:K.Told w0 m F (.inl T4)) (E2:K.stp T4=⟨5,obj,num⟩) (hrd:∀s,K.rdy T4 s=true) (hW:Q0 w0 wb #[.bool false] 105) (hC:Q0 w0 cb #[.int .i64 obj,.int .i64 num,.pointer (some ⟨wb,0,none⟩),.int .i64 x2,sa] 123) (hgo:∀u F',K.Goes w0 m F T4 u F'->∃sa,Q0 u cb #[.int .i64 obj,.int .i64 num,.pointer (some ⟨wb,0,none⟩),.int .i64 (x (gh u 0)),sa] 123) :
  @Calls prog (J0 K) 34 #[.pointer (some ⟨cb,0,none⟩),.pointer (some ⟨K.ptr,0,none⟩)] w0 (r3 K w0 fun v u=>∃F' tt,Gn K w0 m F T4 u F'/\Cn0 u tt/\v= .int .i64 (x tt)):=by
 letI:Ctx prog:=J0 K;refine Calls.V5 (n:=25) func34 rfl rfl ?_;refine U4 ?_;intro hb;refine L.box (cs:=#[.pointer (some ⟨cb,0,none⟩)]) rfl rfl (fun w b2 F2=>?_);refine U19 ?_;intro lt2 hb;have hW:=hW.A0 F2.below;refine U55 ?_;intro hC H7;refine U13 ?_;refine U15 ?_;refine L.va (F0 rfl underlying65 rfl (H7.E0 0 (v:=.pointer (some ⟨cb,0,none⟩)) rfl)) ?_;refine U531 ?_;refine U387 ?_;refine U507 ?_;rintro _ w1 ⟨rfl,hw⟩;refine U107 ?_;refine L.alloc (cs:=#[.int .i64 0]) zr2 rfl (fun w b5 F5=>?_);refine U75 ?_;intro lt5 hb hW hC;have H7:=H7.A0 F5.below;have C3:=F5.blk;refine L.pu 0 [.int .i64 0] #[.int .i64 0] sz2 C3 (fun w I1 hg D2=>?_);have T5:=O7.dh0 C3 hg;have hb:=P3 hb hb.size hg lt5;have hW:=hW.mod T5 rfl;have hC:=hC.mod T5 rfl;have H7:=H7.mod T5 rfl;have C3:=I1;clear T5;refine U9 ?_;refine U387 ?_;refine L.va (K0 rfl underlying123 rfl ji0 (by decide)) ?_;refine U381 ?_;have y9:=hb;refine U241 ?_;intro hF5 hF2;have K9:@Calls prog (J0 K) 56 #[.agg #[.int .i64 obj,.int .i64 num],.pointer (some ⟨K.ptr,0,none⟩),.int .i64 5,.nilFunc,.func (.func 72) #[] #[.pointer (some ⟨b2,0,none⟩),.pointer (some ⟨b5,0,none⟩)]] w (r3 K w fun v u=>v= .tuple #[]/\∃u0 F',K.Goes w m F T4 u0 F'/\(Q0 u b5 #[.int .i64 (x (gh u0 0))] 2/\u0.grownBy u (some b5))/\u.tape=u0.tape):=by
  refine y8 hK w (hK.A0 hT hb) E2 (fun w1 E5=>.inl ⟨rfl,hrd⟩) ⟨0,#[],.inl rfl⟩ (.inr ⟨72,_,ae0 func72 rfl Wk0⟩) (fun u u2=>Q0 u2 b5 #[.int .i64 (x (gh u 0))] 2/\u.grownBy u2 (some b5)) (fun w1 E5 u F' hg=>.inr ⟨72,_,ae0 func72 rfl Wk0,?_⟩);obtain⟨y0,hCu⟩:=hgo u F' (Goes.down (N0 hb E5) hg);exact @C.mono _ (y4 prog K.I3 K.ptr K.num) _ _ _ _ _ (@Ry0 (y4 prog K.I3 K.ptr K.num) b2 b5 cb obj num _ _ _ _ u (Goes.af0 hg (H7.A0 E5) (Nat.zero_lt_succ _) hF2).1 (Goes.af0 hg (C3.A0 E5) (Nat.zero_lt_succ _) hF5).1 hCu) fun v w' h=>h.2
 refine L.T3 rfl (g7 rfl rfl rfl rfl rfl func56 rfl ob0 rfl) K9 ?_ ?_ (fun _ h=>h)
 ·rintro v u ⟨rfl,u0,F',hg,⟨mc0,G3⟩,ht⟩;refine U226 ?_;intro h5 hgn;obtain⟨tt,htt⟩:∃tt,gh u0 0=tt:=⟨_,rfl⟩
  rw[htt]at mc0;have htt:Cn0 u tt:=⟨(k4 ht 0).trans htt⟩
  clear hb H7 hC K9 C3;have C3:=mc0;clear mc0;rename_i wL;clear hW;refine U9 ?_;refine U447 ?_;exact⟨F',tt,hgn,htt,rfl⟩
 ·rintro ch u ⟨Q6,hh⟩;exact⟨Q6,hh.at y9.os y9.output⟩
end Go.Vy.Sc
end
section
namespace Go.Vc
open Go Go.RowKit
theorem Q0.n5 {w w':World} {b k:Nat} {cs:Array Value} {T:TypeId} (h:Q0 w k cs T) (hg:w.grownBy w' (some b)) (hk:k≠b):Q0 w' k cs T:=Q0.other h hg hk
end Go.Vc
namespace Go.Vy
open Go Go.Conc Go.Yc Go.RowKit
open Go.Vc
theorem gp0 {fn:Func} {p u v:Tmp} {ty:TypeId} (h:fn.results=#[.cell p ty,.tmp u,.tmp v]) (tmps:Array Value) (P:Program) (w:World) :
  (results fn tmps).run P w=((do let a <- asAddr (tmps.getD p undef);let x <- loadVar ty a;pure (.tuple #[x,tmps.getD u undef,tmps.getD v undef])):Sem Value).run P w:=by
 simp[results,h]
theorem yo0 {P:Program} {w:World} {b:Nat} {cs:Array Value} {T E:TypeId} {d:TypeDesc} (hT:P.underlying T=some d) (hu:Q9 d=false) (hs:(P.info? T).map (·.size)=some cs.size) (hB:Q0 w b cs E):(loadVar T ⟨b,0,Option.none⟩).run P w= .ok (.agg cs) w:=by
 have h2:∀j v,cs.toList[j]? =some v->w.cell? ((⟨b,0,Option.none⟩:Addr).add j)=some v:=fun j v hj=>by
  rw[Addr.add_lit,Nat.zero_add];exact hB.cell (by simpa using hj)
 have:=run_loadCells_list (P:=P) (w:=w) ⟨b,0,Option.none⟩ cs.toList h2;simp only[Array.length_toList]at this;simp[loadVar,Go.Vc.B9 hT,hu,Go.Vc.run_sizeOf hs,this]
theorem ends.Hm0 {P:Program} [Ctx P] {fn:Func} {R:Value->World->Prop} {x:Exit} {e:Env} {w:World} {t u v b:Nat} {cs:Array Value} {T E:TypeId} {d:TypeDesc} (hx:x= .normal\/x= .ret) (hr:fn.results=#[.cell t T,.tmp u,.tmp v])
  (he:e t= .pointer (some ⟨b,0,Option.none⟩)) (hT:P.underlying T=some d) (hu:Q9 d=false) (hs:(P.info? T).map (·.size)=some cs.size) (hB:Q0 w b cs E) (h:R (.tuple #[.agg cs,e u,e v]) w):ends P fn R x e w :=
 ⟨hx,_,fun tmps ht=>gb0 gc0 fun τ d'=>by
  have hB:Q0 (P2 w τ d') b cs E:=hB;generalize P2 w τ d'=w at hB⊢;have h3:tmps.getD t undef= .pointer (some ⟨b,0,Option.none⟩):=by rw[ht,he]
  rw[gp0 hr,h3];simp[asAddr,yo0 hT hu hs hB,ht],h⟩
theorem Own.Ox0 {w:World} {B s n c b:Nat} {E T:TypeId} {a:Option Addr} {xs:List Value} {cs:Array Value} {f:Nat×Nat} (h:Own w B E s a n c xs) (hb:E1 w b cs T f) (n3:E≠T):a≠none->ab a≠b:=fun ha=>by
 obtain⟨cur,hc,_⟩:=h.row ha;have hc:E1 w (ab a) cur E (0,0):=hc;exact hc.ne hb n3
end Go.Vy
end
section
namespace Go.Vy.Sc
open Go Go.Conc Go.Yc Go.RowKit Go.Proofs Go.Proofs.YtnifpkopeheodaaGreat Tryz
open Go.Vc Go.Wg
theorem Rz0 {P:Program} {ρ:Operand->Value} {w:World} {d:Option Nat} {ty:TypeId} {ps:String} {af:Array Edge} {g:Option (Nat×Bool)} {x y:Operand} {m k:Int} {aT:Array TypeId} (hx:ρ x= .int .i64 m) (hy:ρ y= .int .i64 k):Does P (execOp ρ ⟨d,.call ⟨.builtin .max,#[x,y],aT⟩,ty,ps,af,g⟩) w (.val (.int .i64 (max m k))) w :=
 md0 (fun x=>Go.Vc.Uu0 hx hy) fun x=>by simp[execOp,resolve,invoke,builtin,hx,hy,Builtin.max_,Builtin.max2]
structure z9 (w w':World) (x y:Nat):Prop where
 os:w'.os=w.os
 output:w'.output=w.output
 tape:w'.tape=w.tape
 size:w.heap.size <=w'.heap.size
 block:∀b,b<w.heap.size->b≠x->b≠y->w'.heap[b]? =w.heap[b]?
theorem z9.refl (w:World) (x y:Nat):z9 w w x y:=⟨rfl,rfl,rfl,Nat.le_refl _,fun _ _ _ _=>rfl⟩
theorem z9.step {w w1 w2:World} {x y b:Nat} (h:z9 w w1 x y) (hb:b=x\/b=y) (hg:w1.grownBy w2 (some b)):z9 w w2 x y :=
 ⟨hg.os.trans h.os,hg.output.trans h.output,hg.tape.trans h.tape,Nat.le_trans h.size hg.size,fun k hk h1 h2=>(hg.block k (Nat.lt_of_lt_of_le hk h.size) fun e=>by cases e;rcases hb with e|e;exact h1 e;exact h2 e).trans (h.block k hk h1 h2)⟩
theorem z9.A5 {w w1 w2:World} {x y:Nat} (h:z9 w w1 x y) (hb:Below w1.heap.size w1 w2):z9 w w2 x y :=
 ⟨hb.os.trans h.os,hb.output.trans h.output,hb.tape.trans h.tape,Nat.le_trans h.size hb.size,fun k hk h1 h2=>(hb.block k (Nat.lt_of_lt_of_le hk h.size)).trans (h.block k hk h1 h2)⟩
theorem Sa0 [Ctx prog] (b0 b1 b2 cb:Nat) (obj num:Int) (q sa:Value) (x d y:Int) (w0:World) (g6:Q0 w0 b0 #[.pointer (some ⟨cb,0,none⟩)] 65) (hB1:Q0 w0 b1 #[.int .i64 d] 2) (H7:Q0 w0 b2 #[.int .i64 y] 2) (n3:b2≠b1) (hC:Q0 w0 cb #[.int .i64 obj,.int .i64 num,q,.int .i64 x,sa] 123) :
  C prog 60 #[.pointer (some ⟨b0,0,none⟩),.pointer (some ⟨b1,0,none⟩),.pointer (some ⟨b2,0,none⟩)] w0 fun v w=>v= .tuple #[]/\Q0 w b2 #[.int .i64 (IntKind.i64.wrap (x+d))] 2/\Q0 w cb #[.int .i64 obj,.int .i64 num,q,.int .i64 (IntKind.i64.wrap (x+d)),sa] 123/\z9 w0 w cb b2:=by
 refine C.enter (n:=15) func60 rfl rfl ?_;have hm2:z9 w0 w0 cb b2:=z9.refl _ _ _;generalize w0=w at *;refine W.seq ?_;refine W.ev0 8 (fun w'=>Below w.heap.size w w') (by kernel_rfl) (by kernel_rfl) (by kernel_rfl) (by kernel_rfl) ((Below.refl w.heap.size w).drew) ?_;refine D.va (fun w' N2=>(F0 rfl underlying65 rfl ((g6.A0 N2).E0 0 (v:=.pointer (some ⟨cb,0,none⟩)) rfl))) ?_;refine U400 ?_;refine D.va (fun w' N2=>(F0 rfl underlying2 rfl ((hC.A0 N2).E0 3 (v:=.int .i64 x) rfl))) ?_;refine D.va (fun w' N2=>(F0 rfl underlying2 rfl ((hB1.A0 N2).E0 0 (v:=.int .i64 d) rfl))) ?_;refine D.va (fun w' N2=>(iz0 (κ:=.i64) rfl rfl)) ?_;refine U400 ?_;refine D.nil (fun w Y1=>?_);have hm2:=hm2.A5 Y1;have hC:=hC.A0 Y1;have g6:=g6.A0 Y1;have hB1:=hB1.A0 Y1;have H7:=H7.A0 Y1;clear Y1;refine L.pu 3 [.int .i64 (IntKind.i64.wrap (x+d))] #[.int .i64 obj,.int .i64 num,q,.int .i64 (IntKind.i64.wrap (x+d)),sa] sz2 hC (fun w I1 hg D2=>?_);have hm2:=hm2.step (.inl rfl) hg;have T5:=O7.dh0 hC hg;have g6:=g6.mod T5 rfl;have hB1:=hB1.mod T5 rfl;have H7:=H7.mod T5 rfl;have hC:=I1;clear T5;refine U50 ?_;refine U516 ?_;refine L.va (F0 rfl underlying2 rfl (hC.E0 3 (v:=.int .i64 (IntKind.i64.wrap (x+d))) rfl)) ?_;refine L.pu 0 [.int .i64 (IntKind.i64.wrap (x+d))] #[.int .i64 (IntKind.i64.wrap (x+d))] sz2 H7 (fun w I1 hg D2=>?_);have hm2:=hm2.step (.inr rfl) hg;have T5:=O7.dh0 H7 hg;have hC:=hC.mod T5 rfl;have hB1:=hB1.n5 hg n3.symm;have H7:=I1;refine U95 ?_;exact⟨rfl,H7,hC,hm2⟩
theorem Yj0 [Ctx prog] (b0:Nat) (sb:Nat) (obj num:Int) (h:Bool) (r:Int) (w0:World) (g6:Q0 w0 b0 #[.pointer (some ⟨sb,0,none⟩)] 193) (hC:Q0 w0 sb #[.int .i64 obj,.int .i64 num,.bool h,.int .i64 r] 195) :
  C prog 167 #[.pointer (some ⟨b0,0,none⟩)] w0 fun v w=>v= .tuple #[]/\Q0 w sb #[.int .i64 obj,.int .i64 num,.bool true,.int .i64 r] 195/\w0.grownBy w (some sb):=by
 refine C.enter (n:=4) func167 rfl rfl ?_;have G3:=fw0 w0 (some sb);refine W.region rfl ?_;refine U148 ?_;refine L.pu 2 [.bool true] #[.int .i64 obj,.int .i64 num,.bool true,.int .i64 r] sz4 hC (fun w I1 hg D2=>?_);have T5:=O7.dh0 hC hg;have G3:=fx0 G3 hg;have hC:=I1;exact U174
theorem Me0 [Ctx prog] (b0:Nat) (sb:Nat) (obj num:Int) (h:Bool) (r:Int) (w0:World) (g6:Q0 w0 b0 #[.pointer (some ⟨sb,0,none⟩)] 193) (hC:Q0 w0 sb #[.int .i64 obj,.int .i64 num,.bool h,.int .i64 r] 195) :
  C prog 171 #[.pointer (some ⟨b0,0,none⟩)] w0 fun v w=>v= .tuple #[]/\Q0 w sb #[.int .i64 obj,.int .i64 num,.bool false,.int .i64 r] 195/\w0.grownBy w (some sb):=by
 refine C.enter (n:=4) func171 rfl rfl ?_;have G3:=fw0 w0 (some sb);refine W.region rfl ?_;refine U148 ?_;refine L.pu 2 [.bool false] #[.int .i64 obj,.int .i64 num,.bool false,.int .i64 r] sz4 hC (fun w I1 hg D2=>?_);have T5:=O7.dh0 hC hg;have G3:=fx0 G3 hg;have hC:=I1;exact U174
theorem Sb0 [Ctx prog] (b0:Nat) (sb:Nat) (obj num:Int) (h:Bool) (r:Int) (w0:World) (g6:Q0 w0 b0 #[.pointer (some ⟨sb,0,none⟩)] 193) (hC:Q0 w0 sb #[.int .i64 obj,.int .i64 num,.bool h,.int .i64 r] 195) :
  C prog 169 #[.pointer (some ⟨b0,0,none⟩)] w0 fun v w=>v= .tuple #[]/\Q0 w sb #[.int .i64 obj,.int .i64 num,.bool h,.int .i64 (IntKind.i64.wrap (r+1))] 195/\w0.grownBy w (some sb):=by
 refine C.enter (n:=8) func169 rfl rfl ?_;have G3:=fw0 w0 (some sb);refine W.region rfl ?_;refine U293 ?_;refine L.va (K0 rfl underlying195 rfl sz3 (by decide)) ?_;refine L.va (F0 rfl underlying3 rfl (hC.E0 3 (v:=.int .i64 r) rfl)) ?_;refine L.va (iz0 (κ:=.i64) rfl rfl) ?_;refine L.va (u1 rfl) ?_;refine L.va (K0 rfl underlying195 rfl sz3 (by decide)) ?_;refine L.pu 3 [.int .i64 (IntKind.i64.wrap (r+1))] #[.int .i64 obj,.int .i64 num,.bool h,.int .i64 (IntKind.i64.wrap (r+1))] sz3 hC (fun w I1 hg D2=>?_);have T5:=O7.dh0 hC hg;have G3:=fx0 G3 hg;have hC:=I1;exact U174
theorem Hn0 [Ctx prog] (b0:Nat) (sb:Nat) (obj num:Int) (h:Bool) (r:Int) (w0:World) (g6:Q0 w0 b0 #[.pointer (some ⟨sb,0,none⟩)] 193) (hC:Q0 w0 sb #[.int .i64 obj,.int .i64 num,.bool h,.int .i64 r] 195) :
  C prog 170 #[.pointer (some ⟨b0,0,none⟩)] w0 fun v w=>v= .tuple #[]/\Q0 w sb #[.int .i64 obj,.int .i64 num,.bool h,.int .i64 (max 0 (IntKind.i64.wrap (r-1)))] 195/\w0.grownBy w (some sb):=by
 refine C.enter (n:=10) func170 rfl rfl ?_;have G3:=fw0 w0 (some sb);generalize w0=w at *;refine W.ev0 9 (fun w'=>Below w.heap.size w w') (by kernel_rfl) (by kernel_rfl) (by kernel_rfl) (by kernel_rfl) ((Below.refl w.heap.size w).drew) ?_;refine D.va (fun w' N2=>(F0 rfl underlying193 rfl ((g6.A0 N2).E0 0 (v:=.pointer (some ⟨sb,0,none⟩)) rfl))) ?_;refine D.va (fun w' N2=>(F0 rfl underlying193 rfl ((g6.A0 N2).E0 0 (v:=.pointer (some ⟨sb,0,none⟩)) rfl))) ?_;refine U401 ?_;refine D.va (fun w' N2=>(F0 rfl underlying3 rfl ((hC.A0 N2).E0 3 (v:=.int .i64 r) rfl))) ?_;refine D.va (fun w' N2=>(vg0 (κ:=.i64) rfl rfl)) ?_;refine D.va (fun w' N2=>(Rz0 rfl rfl)) ?_;refine U401 ?_;refine D.nil (fun w Y1=>?_);have G3:=Kj0 G3 Y1;have hC:=hC.A0 Y1;clear Y1;refine L.pu 3 [.int .i64 (max 0 (IntKind.i64.wrap (r-1)))] #[.int .i64 obj,.int .i64 num,.bool h,.int .i64 (max 0 (IntKind.i64.wrap (r-1)))] sz3 hC (fun w I1 hg D2=>?_);have T5:=O7.dh0 hC hg;have G3:=fx0 G3 hg;have hC:=I1;exact U174
theorem Yk0 [Ctx prog] (b0:Nat) (sb:Nat) (obj num:Int) (h:Bool) (r:Int) (w0:World) (g6:Q0 w0 b0 #[.pointer (some ⟨sb,0,none⟩)] 193) (hC:Q0 w0 sb #[.int .i64 obj,.int .i64 num,.bool h,.int .i64 r] 195) :
  C prog 166 #[.pointer (some ⟨b0,0,none⟩)] w0 fun v w=>v= .bool (!h&&decide (r=0))/\Below w0.heap.size w0 w:=by
 refine C.enter (n:=14) func166 rfl rfl ?_;refine U4 ?_;intro hb;refine U76 ?_;refine U148 ?_;refine U441 ?_;refine L.va (ai0 rfl) ?_;refine L.gd0 6 [7,8,9,10,11,12,13] 13 (.bool (!h&&decide (r=0))) (tj:=7) rfl (fun hb7=>?_) (fun hb7=>?_) (fun f=>?_)
 ·refine L.on rfl ?_;refine L.va (F0 rfl underlying193 rfl (g6.E0 0 (v:=.pointer (some ⟨sb,0,none⟩)) rfl)) ?_;refine U322 ?_;refine L.on rfl ?_;refine L.va (K0 rfl underlying195 rfl sz3 (by decide)) ?_;refine L.on rfl ?_;refine L.va (F0 rfl underlying3 rfl (hC.E0 3 (v:=.int .i64 r) rfl)) ?_;refine U222 ?_;refine U130 ?_;refine⟨rfl,congrArg Value.bool (by first|exact vj0 hb7|rfl|(simp_all;done)|(rw[Bool.eq_iff_iff];simp_all;omega)),?_⟩;exact V0.upd rfl (V0.upd rfl (V0.upd rfl (V0.upd rfl (V0.upd rfl (V0.upd rfl (V0.upd rfl (V0.refl _ _)))))))
 ·refine L.off rfl ?_;refine U18 ?_;refine U101 ?_;refine⟨rfl,congrArg Value.bool (by first|exact vi0 hb7|rfl|(simp_all;done)|(rw[Bool.eq_iff_iff];simp_all;omega)),?_⟩;exact V0.upd rfl (V0.upd rfl (V0.upd rfl (V0.upd rfl (V0.upd rfl (V0.upd rfl (V0.upd rfl (V0.refl _ _)))))))
 exact U176
theorem Sc0 [Ctx prog] (b0:Nat) (sb:Nat) (obj num:Int) (h:Bool) (r:Int) (w0:World) (g6:Q0 w0 b0 #[.pointer (some ⟨sb,0,none⟩)] 193) (hC:Q0 w0 sb #[.int .i64 obj,.int .i64 num,.bool h,.int .i64 r] 195) :
  C prog 168 #[.pointer (some ⟨b0,0,none⟩)] w0 fun v w=>v= .bool (!h)/\Below w0.heap.size w0 w:=by
 refine C.enter (n:=7) func168 rfl rfl ?_;refine U4 ?_;intro hb;refine U76 ?_;refine U148 ?_;refine U441 ?_;exact U176
theorem m5.af0 {K:M8 prog} {w0 u:World} {m:Gm} {F F':Nat->Prop} (h:K.m5 w0 m F u F') {b:Nat} {cs:Array Value} {T:TypeId} (hB:Q0 w0 b cs T) (h0:0<cs.size) (hF:¬F b):Q0 u b cs T/\¬F' b:=by
 have hB':E1 w0 b cs T (0,0):=R3 hB;have:=h.A0 b hB'.lt (ct0 hB' h0) hF;exact⟨this.1.trans hB',this.2⟩
theorem Aw0:∀(recv:Value) (w:World),(Go.method (prog.types.size+Made.depth) 193 recv "docket/prim.lock").run prog w= .ok (162,recv) w:=by intro recv w;kernel_rfl
theorem wn0:∀(recv:Value) (w:World),(Go.method (prog.types.size+Made.depth) 193 recv "docket/prim.lock").events prog w #[]=#[]:=by intro recv w;kernel_rfl
theorem rw0:∀(recv:Value) (w:World),(Go.method (prog.types.size+Made.depth) 193 recv "docket/prim.unlock").run prog w= .ok (165,recv) w:=by intro recv w;kernel_rfl
theorem mf0:∀(recv:Value) (w:World),(Go.method (prog.types.size+Made.depth) 193 recv "docket/prim.unlock").events prog w #[]=#[]:=by intro recv w;kernel_rfl
theorem Ho0:∀(recv:Value) (w:World),(Go.method (prog.types.size+Made.depth) 193 recv "docket/prim.rlock").run prog w= .ok (163,recv) w:=by intro recv w;kernel_rfl
theorem Co0:∀(recv:Value) (w:World),(Go.method (prog.types.size+Made.depth) 193 recv "docket/prim.rlock").events prog w #[]=#[]:=by intro recv w;kernel_rfl
theorem yp0:∀(recv:Value) (w:World),(Go.method (prog.types.size+Made.depth) 193 recv "docket/prim.runlock").run prog w= .ok (164,recv) w:=by intro recv w;kernel_rfl
theorem wo0:∀(recv:Value) (w:World),(Go.method (prog.types.size+Made.depth) 193 recv "docket/prim.runlock").events prog w #[]=#[]:=by intro recv w;kernel_rfl
set_option maxHeartbeats 400000 in
theorem Mf0 {K:M8 prog} (hK:KOk K) {T4:K.L} {m:Gm} {F:Nat->Prop} (cb wb:Nat) (obj num:Int) (x:Nat->Int) (x2 d:Int) (sa:Value) (w0:World) (hT:K.Told w0 m F (.inl T4)) (E2:K.stp T4=⟨7,obj,num⟩) (hrd:∀s,K.rdy T4 s=true) (hW:Q0 w0 wb #[.bool false] 105) (hC:Q0 w0 cb #[.int .i64 obj,.int .i64 num,.pointer (some ⟨wb,0,none⟩),.int .i64 x2,sa] 123) (hgo:∀u F',K.Goes w0 m F T4 u F'->∃sa,Q0 u cb #[.int .i64 obj,.int .i64 num,.pointer (some ⟨wb,0,none⟩),.int .i64 (x (gh u 0)),sa] 123) :
  @Calls prog (J0 K) 24 #[.pointer (some ⟨cb,0,none⟩),.pointer (some ⟨K.ptr,0,none⟩),.int .i64 d] w0 (r3 K w0 fun v u=>∃u0 F' tt sa,Gn K w0 m F T4 u0 F'/\gh u0 0=tt/\v= .int .i64 (IntKind.i64.wrap (x tt+d))/\Q0 u cb #[.int .i64 obj,.int .i64 num,.pointer (some ⟨wb,0,none⟩),.int .i64 (IntKind.i64.wrap (x tt+d)),sa] 123/\∃y,w0.heap.size <=y/\¬F' y/\z9 u0 u cb y/\u.tape=u0.tape):=by
 letI:Ctx prog:=J0 K;refine Calls.V5 (n:=28) func24 rfl rfl ?_;refine U4 ?_;intro hb;refine L.box (cs:=#[.pointer (some ⟨cb,0,none⟩)]) rfl rfl (fun w b3 F3=>?_);have lt3:=F3.lq hb.size;have hb:=N0 hb F3.below;have hW:=hW.A0 F3.below;have hC:=hC.A0 F3.below;have hB3:=F3.blk;refine L.box (cs:=#[.int .i64 d]) rfl rfl (fun w b5 F5=>?_);refine U75 ?_;intro lt5 hb hW hC;have hB3:=hB3.A0 F5.below;have C3:=F5.blk;refine U13 ?_;refine U15 ?_;refine L.va (F0 rfl underlying65 rfl (hB3.E0 0 (v:=.pointer (some ⟨cb,0,none⟩)) rfl)) ?_;refine U531 ?_;refine U388 ?_;refine U507 ?_;rintro _ w1 ⟨rfl,hw⟩;refine U107 ?_;refine L.alloc (cs:=#[.int .i64 0]) zr2 rfl (fun w b7 F7=>?_);have lt7:=F7.lq hb.size;have Sd0:=F7.ne C3;have Yl0:b7≠b5:=by have h9:=F7.here;have h8:=C3.lt;omega
 have hb:=N0 hb F7.below;have hW:=hW.A0 F7.below;have hC:=hC.A0 F7.below;have hB3:=hB3.A0 F7.below;have C3:=C3.A0 F7.below;have hB7:=F7.blk;refine L.pu 0 [.int .i64 0] #[.int .i64 0] sz2 hB7 (fun w I1 hg D2=>?_);have T5:=O7.dh0 hB7 hg;have hb:=P3 hb hb.size hg lt7;have hW:=hW.mod T5 rfl;have hC:=hC.mod T5 rfl;have hB3:=hB3.mod T5 rfl;have C3:=C3.other hg Sd0;have hB7:=I1;clear T5;refine U9 ?_;refine U388 ?_;refine L.va (K0 rfl underlying123 rfl ji0 (by decide)) ?_;refine U114 ?_;refine L.va (Q3 (l:=[.tmp 3,.tmp 5,.tmp 7]) (vs:=[.pointer (some ⟨b3,0,none⟩),.pointer (some ⟨b5,0,none⟩),.pointer (some ⟨b7,0,none⟩)]) rfl) ?_;have y9:=hb;have hF3:¬F b3:=fun z=>by have:=hK.tlt hT z;omega
 have hF5:¬F b5:=fun z=>by have:=hK.tlt hT z;omega
 have hF7:¬F b7:=fun z=>by have:=hK.tlt hT z;omega
 have K9:@Calls prog (J0 K) 56 #[.agg #[.int .i64 obj,.int .i64 num],.pointer (some ⟨K.ptr,0,none⟩),.int .i64 7,.nilFunc,.func (.func 60) #[] #[.pointer (some ⟨b3,0,none⟩),.pointer (some ⟨b5,0,none⟩),.pointer (some ⟨b7,0,none⟩)]] w (r3 K w fun v u=>v= .tuple #[]/\∃u0 F',K.Goes w m F T4 u0 F'/\(∃sa,Q0 u b7 #[.int .i64 (IntKind.i64.wrap (x (gh u0 0)+d))] 2/\Q0 u cb #[.int .i64 obj,.int .i64 num,.pointer (some ⟨wb,0,none⟩),.int .i64 (IntKind.i64.wrap (x (gh u0 0)+d)),sa] 123/\z9 u0 u cb b7)/\u.tape=u0.tape):=by
  refine y8 hK w (hK.A0 hT hb) E2 (fun w1 E5=>.inl ⟨rfl,hrd⟩) ⟨0,#[],.inl rfl⟩ (.inr ⟨60,_,ae0 func60 rfl Wf0⟩) (fun u u2=>∃sa,Q0 u2 b7 #[.int .i64 (IntKind.i64.wrap (x (gh u 0)+d))] 2/\Q0 u2 cb #[.int .i64 obj,.int .i64 num,.pointer (some ⟨wb,0,none⟩),.int .i64 (IntKind.i64.wrap (x (gh u 0)+d)),sa] 123/\z9 u u2 cb b7) (fun w1 E5 u F' hg=>.inr ⟨60,_,ae0 func60 rfl Wf0,?_⟩);obtain⟨y0,hCu⟩:=hgo u F' (Goes.down (N0 hb E5) hg);exact @C.mono _ (y4 prog K.I3 K.ptr K.num) _ _ _ _ _ (@Sa0 (y4 prog K.I3 K.ptr K.num) b3 b5 b7 cb obj num _ _ _ d _ u (Goes.af0 hg (hB3.A0 E5) (Nat.zero_lt_succ _) hF3).1 (Goes.af0 hg (C3.A0 E5) (Nat.zero_lt_succ _) hF5).1 (Goes.af0 hg (hB7.A0 E5) (Nat.zero_lt_succ _) hF7).1 Yl0 hCu) fun v w' h=>⟨_,h.2⟩
 refine L.T3 rfl (g7 rfl rfl rfl rfl rfl func56 rfl ob0 rfl) K9 ?_ ?_ (fun _ h=>h)
 ·rintro v u ⟨rfl,u0,F',hg,⟨sa',Se0,hCn,hm2⟩,ht⟩;have h7:=(Goes.af0 hg hB7 (Nat.zero_lt_succ _) hF7).2;have I8:=Goes.down y9 hg;obtain⟨tt,htt⟩:∃tt,gh u0 0=tt:=⟨_,rfl⟩
  rw[htt]at Se0 hCn;clear hb hB3 C3 hC K9 hB7;have hB7:=Se0;clear Se0;rename_i wL;clear hW;refine U9 ?_;refine L.va (F0 rfl underlying2 rfl (hB7.E0 0 (v:=.int .i64 (IntKind.i64.wrap (x tt+d))) rfl)) ?_;refine U24 ?_;exact⟨u0,F',tt,_,⟨hK,I8⟩,htt,rfl,hCn,b7,lt7,h7,hm2,ht⟩
 ·rintro ch u ⟨Q6,hh⟩;exact⟨Q6,hh.at y9.os y9.output⟩
theorem Ax0 {K:M8 prog} (hK:KOk K) {T4:K.L} {m:Gm} {F:Nat->Prop} (sb:Nat) (obj num:Int) (h:Bool) (r:Int) (w0:World) (hT:K.Told w0 m F (.inl T4)) (E2:K.stp T4=⟨1,obj,num⟩) (hC:Q0 w0 sb #[.int .i64 obj,.int .i64 num,.bool h,.int .i64 r] 195) (hla:∀u F',K.m5 w0 m F u F'->∃h r,Q0 u sb #[.int .i64 obj,.int .i64 num,.bool h,.int .i64 r] 195/\K.rdy T4 (K.sOf (gh u 0))=(!h&&decide (r=0))) :
  @Calls prog (J0 K) 162 #[.pointer (some ⟨sb,0,none⟩),.pointer (some ⟨K.ptr,0,none⟩)] w0 (r3 K w0 fun v u=>v= .tuple #[]/\∃u0 F' h r,Gn K w0 m F T4 u0 F'/\Q0 u0 sb #[.int .i64 obj,.int .i64 num,.bool h,.int .i64 r] 195/\Q0 u sb #[.int .i64 obj,.int .i64 num,.bool true,.int .i64 r] 195/\u0.grownBy u (some sb)/\u.tape=u0.tape):=by
 letI:Ctx prog:=J0 K;refine Calls.V5 (n:=12) func162 rfl rfl ?_;refine U150 ?_;intro hb w b2 F2;refine U19 ?_;intro lt2 hb;refine U55 ?_;intro hC H7;refine U50 ?_;refine U147 ?_;refine U446 ?_;refine U170 ?_;intro y9 hF2;have K9:@Calls prog (J0 K) 56 #[.agg #[.int .i64 obj,.int .i64 num],.pointer (some ⟨K.ptr,0,none⟩),.int .i64 1,.func (.func 166) #[] #[.pointer (some ⟨b2,0,none⟩)],.func (.func 167) #[] #[.pointer (some ⟨b2,0,none⟩)]] w (r3 K w fun v u=>v= .tuple #[]/\∃u0 F',K.Goes w m F T4 u0 F'/\(∃h r,Q0 u0 sb #[.int .i64 obj,.int .i64 num,.bool h,.int .i64 r] 195/\Q0 u sb #[.int .i64 obj,.int .i64 num,.bool true,.int .i64 r] 195/\u0.grownBy u (some sb))/\u.tape=u0.tape):=by
  refine y8 hK w (hK.A0 hT hb) E2 (fun w1 E5=>.inr ⟨166,_,ae0 func166 rfl Wy0,fun u F' hl=>?_⟩) ⟨166,_,.inr rfl⟩ (.inr ⟨167,_,ae0 func167 rfl Oe0⟩) (fun u u2=>∃h r,Q0 u sb #[.int .i64 obj,.int .i64 num,.bool h,.int .i64 r] 195/\Q0 u2 sb #[.int .i64 obj,.int .i64 num,.bool true,.int .i64 r] 195/\u.grownBy u2 (some sb)) (fun w1 E5 u F' hg=>.inr ⟨167,_,ae0 func167 rfl Oe0,?_⟩)
  ·obtain⟨h,r,hCu,hrr⟩:=hla u F' (m5.down (N0 hb E5) hl);refine @C.mono _ (L1 prog true) _ _ _ _ _ (@Yk0 (L1 prog true) b2 sb obj num h r u (m5.af0 hl (H7.A0 E5) (Nat.zero_lt_succ _) hF2).1 hCu) fun v w' h=>?_;rw[hrr];exact h
  ·obtain⟨h,r,hCu,_⟩:=hla u F' (Goes.down (N0 hb E5) hg).W6;exact @C.mono _ (y4 prog K.I3 K.ptr K.num) _ _ _ _ _ (@Yj0 (y4 prog K.I3 K.ptr K.num) b2 sb obj num h r u (Goes.af0 hg (H7.A0 E5) (Nat.zero_lt_succ _) hF2).1 hCu) fun v w' hh=>⟨h,r,hCu,hh.2⟩
 refine L.T3 rfl (g7 rfl rfl rfl rfl rfl func56 rfl ob0 rfl) K9 ?_ ?_ (fun _ h=>h)
 ·rintro v u ⟨rfl,u0,F',hg,⟨h',r',hC0,hCn,G3⟩,ht⟩;have I8:=Goes.down y9 hg;rename_i wL;exact U151
 ·rintro ch u ⟨Q6,hh⟩;exact⟨Q6,hh.at y9.os y9.output⟩
theorem Hp0 {K:M8 prog} (hK:KOk K) {T4:K.L} {m:Gm} {F:Nat->Prop} (sb:Nat) (obj num:Int) (h:Bool) (r:Int) (mb:Nat) (w0:World) (hT:K.Told w0 m F (.inl T4)) (E2:K.stp T4=⟨1,obj,num⟩) (hM:Q0 w0 mb #[.iface 193 (.pointer (some ⟨sb,0,none⟩))] 113) (hC:Q0 w0 sb #[.int .i64 obj,.int .i64 num,.bool h,.int .i64 r] 195) (hla:∀u F',K.m5 w0 m F u F'->∃h r,Q0 u sb #[.int .i64 obj,.int .i64 num,.bool h,.int .i64 r] 195/\K.rdy T4 (K.sOf (gh u 0))=(!h&&decide (r=0))) :
  @Calls prog (J0 K) 20 #[.pointer (some ⟨mb,0,none⟩),.pointer (some ⟨K.ptr,0,none⟩)] w0 (r3 K w0 fun v u=>v= .tuple #[]/\∃u0 F' h r,Gn K w0 m F T4 u0 F'/\Q0 u0 sb #[.int .i64 obj,.int .i64 num,.bool h,.int .i64 r] 195/\Q0 u sb #[.int .i64 obj,.int .i64 num,.bool true,.int .i64 r] 195/\u0.grownBy u (some sb)/\u.tape=u0.tape):=by
 letI:Ctx prog:=J0 K;refine Calls.V5 (n:=12) func20 rfl rfl ?_;refine U4 ?_;intro hb;refine U504 ?_;refine U33 ?_;refine U505 ?_;refine U59 ?_;have y9:=hb;refine L.T3 rfl (E9 rfl rfl Aw0 wn0 func162 rfl Oc0) (Ax0 hK sb obj num h r w0 hT E2 hC hla) ?_ ?_ (fun _ h=>h)
 ·rintro v u aw0;obtain⟨rfl,aw0⟩:=aw0;exact U68
 ·rintro ch u ⟨Q6,hh⟩;exact⟨Q6,hh⟩
theorem Hq0 {K:M8 prog} (hK:KOk K) {T4:K.L} {m:Gm} {F:Nat->Prop} (sb:Nat) (obj num:Int) (h:Bool) (r:Int) (mb:Nat) (w0:World) (hT:K.Told w0 m F (.inl T4)) (E2:K.stp T4=⟨1,obj,num⟩) (hM:Q0 w0 mb #[.iface 193 (.pointer (some ⟨sb,0,none⟩))] 125) (hC:Q0 w0 sb #[.int .i64 obj,.int .i64 num,.bool h,.int .i64 r] 195) (hla:∀u F',K.m5 w0 m F u F'->∃h r,Q0 u sb #[.int .i64 obj,.int .i64 num,.bool h,.int .i64 r] 195/\K.rdy T4 (K.sOf (gh u 0))=(!h&&decide (r=0))) :
  @Calls prog (J0 K) 25 #[.pointer (some ⟨mb,0,none⟩),.pointer (some ⟨K.ptr,0,none⟩)] w0 (r3 K w0 fun v u=>v= .tuple #[]/\∃u0 F' h r,Gn K w0 m F T4 u0 F'/\Q0 u0 sb #[.int .i64 obj,.int .i64 num,.bool h,.int .i64 r] 195/\Q0 u sb #[.int .i64 obj,.int .i64 num,.bool true,.int .i64 r] 195/\u0.grownBy u (some sb)/\u.tape=u0.tape):=by
 letI:Ctx prog:=J0 K;refine Calls.V5 (n:=12) func25 rfl rfl ?_;refine U4 ?_;intro hb;refine U144 ?_;refine U33 ?_;refine U146 ?_;refine U59 ?_;have y9:=hb;refine L.T3 rfl (E9 rfl rfl Aw0 wn0 func162 rfl Oc0) (Ax0 hK sb obj num h r w0 hT E2 hC hla) ?_ ?_ (fun _ h=>h)
 ·rintro v u aw0;obtain⟨rfl,aw0⟩:=aw0;exact U68
 ·rintro ch u ⟨Q6,hh⟩;exact⟨Q6,hh⟩
theorem rx0 {K:M8 prog} (hK:KOk K) {T4:K.L} {m:Gm} {F:Nat->Prop} (sb:Nat) (obj num:Int) (h:Bool) (r:Int) (w0:World) (hT:K.Told w0 m F (.inl T4)) (E2:K.stp T4=⟨2,obj,num⟩) (hrd:∀s,K.rdy T4 s=true) (hC:Q0 w0 sb #[.int .i64 obj,.int .i64 num,.bool h,.int .i64 r] 195) (hla:∀u F',K.m5 w0 m F u F'->∃h r,Q0 u sb #[.int .i64 obj,.int .i64 num,.bool h,.int .i64 r] 195) :
  @Calls prog (J0 K) 165 #[.pointer (some ⟨sb,0,none⟩),.pointer (some ⟨K.ptr,0,none⟩)] w0 (r3 K w0 fun v u=>v= .tuple #[]/\∃u0 F' h r,Gn K w0 m F T4 u0 F'/\Q0 u0 sb #[.int .i64 obj,.int .i64 num,.bool h,.int .i64 r] 195/\Q0 u sb #[.int .i64 obj,.int .i64 num,.bool false,.int .i64 r] 195/\u0.grownBy u (some sb)/\u.tape=u0.tape):=by
 letI:Ctx prog:=J0 K;refine Calls.V5 (n:=11) func165 rfl rfl ?_;refine U150 ?_;intro hb w b2 F2;refine U19 ?_;intro lt2 hb;refine U55 ?_;intro hC H7;refine U50 ?_;refine U147 ?_;refine U218 ?_;refine U170 ?_;intro y9 hF2;have K9:@Calls prog (J0 K) 56 #[.agg #[.int .i64 obj,.int .i64 num],.pointer (some ⟨K.ptr,0,none⟩),.int .i64 2,.nilFunc,.func (.func 171) #[] #[.pointer (some ⟨b2,0,none⟩)]] w (r3 K w fun v u=>v= .tuple #[]/\∃u0 F',K.Goes w m F T4 u0 F'/\(∃h r,Q0 u0 sb #[.int .i64 obj,.int .i64 num,.bool h,.int .i64 r] 195/\Q0 u sb #[.int .i64 obj,.int .i64 num,.bool false,.int .i64 r] 195/\u0.grownBy u (some sb))/\u.tape=u0.tape):=by
  refine y8 hK w (hK.A0 hT hb) E2 (fun w1 E5=>.inl ⟨rfl,hrd⟩) ⟨0,#[],.inl rfl⟩ (.inr ⟨171,_,ae0 func171 rfl Oh0⟩) (fun u u2=>∃h r,Q0 u sb #[.int .i64 obj,.int .i64 num,.bool h,.int .i64 r] 195/\Q0 u2 sb #[.int .i64 obj,.int .i64 num,.bool false,.int .i64 r] 195/\u.grownBy u2 (some sb)) (fun w1 E5 u F' hg=>.inr ⟨171,_,ae0 func171 rfl Oh0,?_⟩)
  ·obtain⟨h,r,hCu⟩:=hla u F' (Goes.down (N0 hb E5) hg).W6;exact @C.mono _ (y4 prog K.I3 K.ptr K.num) _ _ _ _ _ (@Me0 (y4 prog K.I3 K.ptr K.num) b2 sb obj num h r u (Goes.af0 hg (H7.A0 E5) (Nat.zero_lt_succ _) hF2).1 hCu) fun v w' hh=>⟨h,r,hCu,hh.2⟩
 refine L.T3 rfl (g7 rfl rfl rfl rfl rfl func56 rfl ob0 rfl) K9 ?_ ?_ (fun _ h=>h)
 ·rintro v u ⟨rfl,u0,F',hg,⟨h',r',hC0,hCn,G3⟩,ht⟩;have I8:=Goes.down y9 hg;rename_i wL;exact U151
 ·rintro ch u ⟨Q6,hh⟩;exact⟨Q6,hh.at y9.os y9.output⟩
theorem yq0 {K:M8 prog} (hK:KOk K) {T4:K.L} {m:Gm} {F:Nat->Prop} (sb:Nat) (obj num:Int) (h:Bool) (r:Int) (mb:Nat) (w0:World) (hT:K.Told w0 m F (.inl T4)) (E2:K.stp T4=⟨2,obj,num⟩) (hrd:∀s,K.rdy T4 s=true) (hM:Q0 w0 mb #[.iface 193 (.pointer (some ⟨sb,0,none⟩))] 113) (hC:Q0 w0 sb #[.int .i64 obj,.int .i64 num,.bool h,.int .i64 r] 195) (hla:∀u F',K.m5 w0 m F u F'->∃h r,Q0 u sb #[.int .i64 obj,.int .i64 num,.bool h,.int .i64 r] 195) :
  @Calls prog (J0 K) 23 #[.pointer (some ⟨mb,0,none⟩),.pointer (some ⟨K.ptr,0,none⟩)] w0 (r3 K w0 fun v u=>v= .tuple #[]/\∃u0 F' h r,Gn K w0 m F T4 u0 F'/\Q0 u0 sb #[.int .i64 obj,.int .i64 num,.bool h,.int .i64 r] 195/\Q0 u sb #[.int .i64 obj,.int .i64 num,.bool false,.int .i64 r] 195/\u0.grownBy u (some sb)/\u.tape=u0.tape):=by
 letI:Ctx prog:=J0 K;refine Calls.V5 (n:=12) func23 rfl rfl ?_;refine U4 ?_;intro hb;refine U504 ?_;refine U33 ?_;refine U505 ?_;refine U59 ?_;have y9:=hb;refine L.T3 rfl (E9 rfl rfl rw0 mf0 func165 rfl Od0) (rx0 hK sb obj num h r w0 hT E2 hrd hC hla) ?_ ?_ (fun _ h=>h)
 ·rintro v u aw0;obtain⟨rfl,aw0⟩:=aw0;exact U68
 ·rintro ch u ⟨Q6,hh⟩;exact⟨Q6,hh⟩
theorem yr0 {K:M8 prog} (hK:KOk K) {T4:K.L} {m:Gm} {F:Nat->Prop} (sb:Nat) (obj num:Int) (h:Bool) (r:Int) (mb:Nat) (w0:World) (hT:K.Told w0 m F (.inl T4)) (E2:K.stp T4=⟨2,obj,num⟩) (hrd:∀s,K.rdy T4 s=true) (hM:Q0 w0 mb #[.iface 193 (.pointer (some ⟨sb,0,none⟩))] 125) (hC:Q0 w0 sb #[.int .i64 obj,.int .i64 num,.bool h,.int .i64 r] 195) (hla:∀u F',K.m5 w0 m F u F'->∃h r,Q0 u sb #[.int .i64 obj,.int .i64 num,.bool h,.int .i64 r] 195) :
  @Calls prog (J0 K) 27 #[.pointer (some ⟨mb,0,none⟩),.pointer (some ⟨K.ptr,0,none⟩)] w0 (r3 K w0 fun v u=>v= .tuple #[]/\∃u0 F' h r,Gn K w0 m F T4 u0 F'/\Q0 u0 sb #[.int .i64 obj,.int .i64 num,.bool h,.int .i64 r] 195/\Q0 u sb #[.int .i64 obj,.int .i64 num,.bool false,.int .i64 r] 195/\u0.grownBy u (some sb)/\u.tape=u0.tape):=by
 letI:Ctx prog:=J0 K;refine Calls.V5 (n:=12) func27 rfl rfl ?_;refine U4 ?_;intro hb;refine U144 ?_;refine U33 ?_;refine U146 ?_;refine U59 ?_;have y9:=hb;refine L.T3 rfl (E9 rfl rfl rw0 mf0 func165 rfl Od0) (rx0 hK sb obj num h r w0 hT E2 hrd hC hla) ?_ ?_ (fun _ h=>h)
 ·rintro v u aw0;obtain⟨rfl,aw0⟩:=aw0;exact U68
 ·rintro ch u ⟨Q6,hh⟩;exact⟨Q6,hh⟩
theorem Hr0 {K:M8 prog} (hK:KOk K) {T4:K.L} {m:Gm} {F:Nat->Prop} (sb:Nat) (obj num:Int) (h:Bool) (r:Int) (w0:World) (hT:K.Told w0 m F (.inl T4)) (E2:K.stp T4=⟨3,obj,num⟩) (hC:Q0 w0 sb #[.int .i64 obj,.int .i64 num,.bool h,.int .i64 r] 195) (hla:∀u F',K.m5 w0 m F u F'->∃h r,Q0 u sb #[.int .i64 obj,.int .i64 num,.bool h,.int .i64 r] 195/\K.rdy T4 (K.sOf (gh u 0))=(!h)) :
  @Calls prog (J0 K) 163 #[.pointer (some ⟨sb,0,none⟩),.pointer (some ⟨K.ptr,0,none⟩)] w0 (r3 K w0 fun v u=>v= .tuple #[]/\∃u0 F' h r,Gn K w0 m F T4 u0 F'/\Q0 u0 sb #[.int .i64 obj,.int .i64 num,.bool h,.int .i64 r] 195/\Q0 u sb #[.int .i64 obj,.int .i64 num,.bool h,.int .i64 (IntKind.i64.wrap (r+1))] 195/\u0.grownBy u (some sb)/\u.tape=u0.tape):=by
 letI:Ctx prog:=J0 K;refine Calls.V5 (n:=12) func163 rfl rfl ?_;refine U150 ?_;intro hb w b2 F2;refine U19 ?_;intro lt2 hb;refine U55 ?_;intro hC H7;refine U50 ?_;refine U147 ?_;refine U446 ?_;refine U170 ?_;intro y9 hF2;have K9:@Calls prog (J0 K) 56 #[.agg #[.int .i64 obj,.int .i64 num],.pointer (some ⟨K.ptr,0,none⟩),.int .i64 3,.func (.func 168) #[] #[.pointer (some ⟨b2,0,none⟩)],.func (.func 169) #[] #[.pointer (some ⟨b2,0,none⟩)]] w (r3 K w fun v u=>v= .tuple #[]/\∃u0 F',K.Goes w m F T4 u0 F'/\(∃h r,Q0 u0 sb #[.int .i64 obj,.int .i64 num,.bool h,.int .i64 r] 195/\Q0 u sb #[.int .i64 obj,.int .i64 num,.bool h,.int .i64 (IntKind.i64.wrap (r+1))] 195/\u0.grownBy u (some sb))/\u.tape=u0.tape):=by
  refine y8 hK w (hK.A0 hT hb) E2 (fun w1 E5=>.inr ⟨168,_,ae0 func168 rfl Wz0,fun u F' hl=>?_⟩) ⟨168,_,.inr rfl⟩ (.inr ⟨169,_,ae0 func169 rfl Of0⟩) (fun u u2=>∃h r,Q0 u sb #[.int .i64 obj,.int .i64 num,.bool h,.int .i64 r] 195/\Q0 u2 sb #[.int .i64 obj,.int .i64 num,.bool h,.int .i64 (IntKind.i64.wrap (r+1))] 195/\u.grownBy u2 (some sb)) (fun w1 E5 u F' hg=>.inr ⟨169,_,ae0 func169 rfl Of0,?_⟩)
  ·obtain⟨h,r,hCu,hrr⟩:=hla u F' (m5.down (N0 hb E5) hl);refine @C.mono _ (L1 prog true) _ _ _ _ _ (@Sc0 (L1 prog true) b2 sb obj num h r u (m5.af0 hl (H7.A0 E5) (Nat.zero_lt_succ _) hF2).1 hCu) fun v w' h=>?_;rw[hrr];exact h
  ·obtain⟨h,r,hCu,_⟩:=hla u F' (Goes.down (N0 hb E5) hg).W6;exact @C.mono _ (y4 prog K.I3 K.ptr K.num) _ _ _ _ _ (@Sb0 (y4 prog K.I3 K.ptr K.num) b2 sb obj num h r u (Goes.af0 hg (H7.A0 E5) (Nat.zero_lt_succ _) hF2).1 hCu) fun v w' hh=>⟨h,r,hCu,hh.2⟩
 refine L.T3 rfl (g7 rfl rfl rfl rfl rfl func56 rfl ob0 rfl) K9 ?_ ?_ (fun _ h=>h)
 ·rintro v u ⟨rfl,u0,F',hg,⟨h',r',hC0,hCn,G3⟩,ht⟩;have I8:=Goes.down y9 hg;rename_i wL;exact U151
 ·rintro ch u ⟨Q6,hh⟩;exact⟨Q6,hh.at y9.os y9.output⟩
theorem Cp0 {K:M8 prog} (hK:KOk K) {T4:K.L} {m:Gm} {F:Nat->Prop} (sb:Nat) (obj num:Int) (h:Bool) (r:Int) (mb:Nat) (w0:World) (hT:K.Told w0 m F (.inl T4)) (E2:K.stp T4=⟨3,obj,num⟩) (hM:Q0 w0 mb #[.iface 193 (.pointer (some ⟨sb,0,none⟩))] 125) (hC:Q0 w0 sb #[.int .i64 obj,.int .i64 num,.bool h,.int .i64 r] 195) (hla:∀u F',K.m5 w0 m F u F'->∃h r,Q0 u sb #[.int .i64 obj,.int .i64 num,.bool h,.int .i64 r] 195/\K.rdy T4 (K.sOf (gh u 0))=(!h)) :
  @Calls prog (J0 K) 28 #[.pointer (some ⟨mb,0,none⟩),.pointer (some ⟨K.ptr,0,none⟩)] w0 (r3 K w0 fun v u=>v= .tuple #[]/\∃u0 F' h r,Gn K w0 m F T4 u0 F'/\Q0 u0 sb #[.int .i64 obj,.int .i64 num,.bool h,.int .i64 r] 195/\Q0 u sb #[.int .i64 obj,.int .i64 num,.bool h,.int .i64 (IntKind.i64.wrap (r+1))] 195/\u0.grownBy u (some sb)/\u.tape=u0.tape):=by
 letI:Ctx prog:=J0 K;refine Calls.V5 (n:=12) func28 rfl rfl ?_;refine U4 ?_;intro hb;refine U144 ?_;refine U33 ?_;refine U146 ?_;refine U59 ?_;have y9:=hb;refine L.T3 rfl (E9 rfl rfl Ho0 Co0 func163 rfl Ww0) (Hr0 hK sb obj num h r w0 hT E2 hC hla) ?_ ?_ (fun _ h=>h)
 ·rintro v u aw0;obtain⟨rfl,aw0⟩:=aw0;exact U68
 ·rintro ch u ⟨Q6,hh⟩;exact⟨Q6,hh⟩
theorem ys0 {K:M8 prog} (hK:KOk K) {T4:K.L} {m:Gm} {F:Nat->Prop} (sb:Nat) (obj num:Int) (h:Bool) (r:Int) (w0:World) (hT:K.Told w0 m F (.inl T4)) (E2:K.stp T4=⟨4,obj,num⟩) (hrd:∀s,K.rdy T4 s=true) (hC:Q0 w0 sb #[.int .i64 obj,.int .i64 num,.bool h,.int .i64 r] 195) (hla:∀u F',K.m5 w0 m F u F'->∃h r,Q0 u sb #[.int .i64 obj,.int .i64 num,.bool h,.int .i64 r] 195) :
  @Calls prog (J0 K) 164 #[.pointer (some ⟨sb,0,none⟩),.pointer (some ⟨K.ptr,0,none⟩)] w0 (r3 K w0 fun v u=>v= .tuple #[]/\∃u0 F' h r,Gn K w0 m F T4 u0 F'/\Q0 u0 sb #[.int .i64 obj,.int .i64 num,.bool h,.int .i64 r] 195/\Q0 u sb #[.int .i64 obj,.int .i64 num,.bool h,.int .i64 (max 0 (IntKind.i64.wrap (r-1)))] 195/\u0.grownBy u (some sb)/\u.tape=u0.tape):=by
 letI:Ctx prog:=J0 K;refine Calls.V5 (n:=11) func164 rfl rfl ?_;refine U150 ?_;intro hb w b2 F2;refine U19 ?_;intro lt2 hb;refine U55 ?_;intro hC H7;refine U50 ?_;refine U147 ?_;refine U218 ?_;refine U170 ?_;intro y9 hF2;have K9:@Calls prog (J0 K) 56 #[.agg #[.int .i64 obj,.int .i64 num],.pointer (some ⟨K.ptr,0,none⟩),.int .i64 4,.nilFunc,.func (.func 170) #[] #[.pointer (some ⟨b2,0,none⟩)]] w (r3 K w fun v u=>v= .tuple #[]/\∃u0 F',K.Goes w m F T4 u0 F'/\(∃h r,Q0 u0 sb #[.int .i64 obj,.int .i64 num,.bool h,.int .i64 r] 195/\Q0 u sb #[.int .i64 obj,.int .i64 num,.bool h,.int .i64 (max 0 (IntKind.i64.wrap (r-1)))] 195/\u0.grownBy u (some sb))/\u.tape=u0.tape):=by
  refine y8 hK w (hK.A0 hT hb) E2 (fun w1 E5=>.inl ⟨rfl,hrd⟩) ⟨0,#[],.inl rfl⟩ (.inr ⟨170,_,ae0 func170 rfl Og0⟩) (fun u u2=>∃h r,Q0 u sb #[.int .i64 obj,.int .i64 num,.bool h,.int .i64 r] 195/\Q0 u2 sb #[.int .i64 obj,.int .i64 num,.bool h,.int .i64 (max 0 (IntKind.i64.wrap (r-1)))] 195/\u.grownBy u2 (some sb)) (fun w1 E5 u F' hg=>.inr ⟨170,_,ae0 func170 rfl Og0,?_⟩)
  ·obtain⟨h,r,hCu⟩:=hla u F' (Goes.down (N0 hb E5) hg).W6;exact @C.mono _ (y4 prog K.I3 K.ptr K.num) _ _ _ _ _ (@Hn0 (y4 prog K.I3 K.ptr K.num) b2 sb obj num h r u (Goes.af0 hg (H7.A0 E5) (Nat.zero_lt_succ _) hF2).1 hCu) fun v w' hh=>⟨h,r,hCu,hh.2⟩
 refine L.T3 rfl (g7 rfl rfl rfl rfl rfl func56 rfl ob0 rfl) K9 ?_ ?_ (fun _ h=>h)
 ·rintro v u ⟨rfl,u0,F',hg,⟨h',r',hC0,hCn,G3⟩,ht⟩;have I8:=Goes.down y9 hg;rename_i wL;exact U151
 ·rintro ch u ⟨Q6,hh⟩;exact⟨Q6,hh.at y9.os y9.output⟩
theorem wp0 {K:M8 prog} (hK:KOk K) {T4:K.L} {m:Gm} {F:Nat->Prop} (sb:Nat) (obj num:Int) (h:Bool) (r:Int) (mb:Nat) (w0:World) (hT:K.Told w0 m F (.inl T4)) (E2:K.stp T4=⟨4,obj,num⟩) (hrd:∀s,K.rdy T4 s=true) (hM:Q0 w0 mb #[.iface 193 (.pointer (some ⟨sb,0,none⟩))] 125) (hC:Q0 w0 sb #[.int .i64 obj,.int .i64 num,.bool h,.int .i64 r] 195) (hla:∀u F',K.m5 w0 m F u F'->∃h r,Q0 u sb #[.int .i64 obj,.int .i64 num,.bool h,.int .i64 r] 195) :
  @Calls prog (J0 K) 30 #[.pointer (some ⟨mb,0,none⟩),.pointer (some ⟨K.ptr,0,none⟩)] w0 (r3 K w0 fun v u=>v= .tuple #[]/\∃u0 F' h r,Gn K w0 m F T4 u0 F'/\Q0 u0 sb #[.int .i64 obj,.int .i64 num,.bool h,.int .i64 r] 195/\Q0 u sb #[.int .i64 obj,.int .i64 num,.bool h,.int .i64 (max 0 (IntKind.i64.wrap (r-1)))] 195/\u0.grownBy u (some sb)/\u.tape=u0.tape):=by
 letI:Ctx prog:=J0 K;refine Calls.V5 (n:=12) func30 rfl rfl ?_;refine U4 ?_;intro hb;refine U144 ?_;refine U33 ?_;refine U146 ?_;refine U59 ?_;have y9:=hb;refine L.T3 rfl (E9 rfl rfl yp0 wo0 func164 rfl Wx0) (ys0 hK sb obj num h r w0 hT E2 hrd hC hla) ?_ ?_ (fun _ h=>h)
 ·rintro v u aw0;obtain⟨rfl,aw0⟩:=aw0;exact U68
 ·rintro ch u ⟨Q6,hh⟩;exact⟨Q6,hh⟩
theorem gq0 {w:World} {b:Nat} {cs:Array Value} {T:TypeId} (h:Q0 w b cs T) (hT:T≠0):b<w.heap.size/\w.heap[b]? ≠some nothing:=by
 refine⟨(R3 h).lt,fun e=>?_⟩;have h':w.heap[b]? =some (.cells cs T (0,0)):=h;rw[h']at e;have e1:=Option.some.inj e;unfold nothing at e1;injection e1 with _ e2
 exact hT e2
def Canon (a:Option Addr):Prop:=∀x,a=some x->x=⟨x.block,0,none⟩
theorem rz0 {w:World} {B:Nat} {E:TypeId} {s n c:Nat} {a:Option Addr} {xs:List Value} (h:Own w B E s a n c xs):Canon a:=fun x hx=>by
 rcases h.2 with⟨hv,_⟩|⟨g,cap,cur,hv,_⟩
 ·cases hv;cases hx
 ·cases hv;cases hx;rfl
theorem Ay0 {w:World} {B s n c b:Nat} {E T:TypeId} {a:Option Addr} {xs:List Value} {cs:Array Value} (h:Own w B E s a n c xs) (hB:Q0 w b cs T) (hT:T≠E) (ha:a≠none):b≠ab a:=by
 obtain⟨cur,hc,_⟩:=h.row ha;exact Q0.ne hB hc hT
theorem wq0 {w:World} {B s n c:Nat} {E:TypeId} {xs:List Value} (h:Own w B E s none n c xs):n=0:=by
 rcases h.2 with⟨hv,h0⟩|⟨g,cap,cur,hv,_⟩
 ·cases hv;first|exact h0|omega
 ·cases hv
theorem Sf0 {a:Option Addr} {n c:Nat} (hc:Canon a):Value.ownBlock (.slice a n c)=if a=none then none else some (ab a):=by
 cases a with
 |none=>rfl
 |some x=>rw[hc x rfl];rfl
theorem Q0.app {w w':World} {B:Nat} {b:Nat} {cs:Array Value} {T E:TypeId} {a:Option Addr} {n c s:Nat} {xs:List Value} (hB:Q0 w b cs T) (hO:Own w B E s a n c xs) (hg:w.grownBy w' (Value.ownBlock (.slice a n c))) (hT:T≠E):Q0 w' b cs T:=by
 refine hB.grown hg ?_;cases a with
 |none=>simp[Value.ownBlock]
 |some x=>
  obtain⟨cur,hc,_⟩:=hO.row (by simp);intro e;exact Q0.ne hB hc hT (Option.some.inj e)
theorem dp0 {N i:Nat} {f:Nat->Value} {v:Value}:setRow (arr N f) i [v]=arr N (fun x=>if x=i then v else f x):=by
 show(arr N f).setIfInBounds i v=_;exact Ki0
structure D3 where
 c5:Int
 jn0:Int
 call:Int
 val:Int
def yt0 (o:D3):List Value:=[.int .i64 o.c5,.int .i64 o.jn0,.int .i64 o.call,.int .i64 o.val]
def Z0 (o:D3):Nat:=(o.jn0%2).toNat
theorem Y0 (o:D3):Z0 o<2:=by unfold Z0;omega
def POk (o:D3):Prop:=(o.c5=1/\(o.call=1\/o.call=2))\/(o.c5=2/\(o.call=1\/o.call=2\/o.call=3\/o.call=4))\/(o.c5=3/\(o.call=5\/o.call=7))\/(o.c5=4/\(o.call=5\/o.call=6))\/(o.c5=5/\(o.call=8\/o.call=9))
def up2 {α:Type} (f:Nat->Nat->α) (t n:Nat) (v:α):Nat->Nat->α:=fun a b=>if a=t/\b=n then v else f a b
theorem in0 {α:Type} {f:Nat->Nat->α} {t n:Nat} {v:α}:up2 f t n v t n=v:=if_pos ⟨rfl,rfl⟩
theorem yu0 {α:Type} {f:Nat->Nat->α} {t n a b:Nat} {v:α} (h:¬(a=t/\b=n)):up2 f t n v a b=f a b:=if_neg h
structure PS where
 held:Nat->Nat->Bool
 I4:Nat->Int
 val:Nat->Nat->Int
 K3:Nat->List Int
def ps0:PS:=⟨fun _ _=>false,fun _=>0,fun _ _=>0,fun _=>[]⟩
def prd (s:PS) (t n:Nat):Int:=if t=2 then s.I4 n else 0
def pT (o:D3):Nat:=o.c5.toNat
def gr0 (o:D3) (s:PS):Bool:=if o.call=1 then !s.held (pT o) (Z0 o)&&decide (prd s (pT o) (Z0 o)=0) else if o.call=3 then !s.held 2 (Z0 o) else true
def G9 (o:D3) (s:PS):PS×Int :=
 if o.call=1 then({s with held:=up2 s.held (pT o) (Z0 o) true},0)
 else if o.call=2 then({s with held:=up2 s.held (pT o) (Z0 o) false},0)
 else if o.call=3 then({s with I4:=upN s.I4 (Z0 o) (IntKind.i64.wrap (s.I4 (Z0 o)+1))},0)
 else if o.call=4 then({s with I4:=upN s.I4 (Z0 o) (max 0 (IntKind.i64.wrap (s.I4 (Z0 o)-1)))},0)
 else if o.call=6\/o.call=9 then({s with val:=up2 s.val (pT o) (Z0 o) o.val},0)
 else if o.call=7 then({s with val:=up2 s.val (pT o) (Z0 o) (IntKind.i64.wrap (s.val (pT o) (Z0 o)+o.val))},IntKind.i64.wrap (s.val (pT o) (Z0 o)+o.val))
 else(s,s.val (pT o) (Z0 o))
theorem mg0 (o:D3) (s:PS):(G9 o s).1.K3=s.K3:=by
 unfold G9
 repeat' split
 all_goals rfl
def aq0 (i:Nat) (x:PS×Int):PS:={x.1 with K3:=upN x.1.K3 i (x.1.K3 i ++ [x.2])}
def gt0 (ops:List D3) (k:Nat):Nat ⊕ Nat:=if k<ops.length then .inl k else .inr 1
def l4 (ops:List D3) (k:Nat) (s:PS):gi0 PS Nat:=⟨s,[],gt0 ops k⟩
def goP (ops:List D3) (i k:Nat) (s:PS):gi0 PS Nat:=match ops[k]? with
 |some o=>l4 ops (k+1) (aq0 i (G9 o s))
 |none=>⟨s,[],.inr 1⟩
theorem yv0 {ops:List D3} {i k:Nat} {s:PS} {o:D3} (h:ops[k]? =some o):goP ops i k s=l4 ops (k+1) (aq0 i (G9 o s)):=by unfold goP;rw[h]
theorem Az0 (ops:List D3) (i k:Nat) (s:PS):(goP ops i k s).I2=[]:=by unfold goP;split <;> rfl
theorem u5 {ops:List D3} {k:Nat} {s:PS} {o:D3} (h:ops[k]? =some o):l4 ops k s=⟨s,[],.inl k⟩:=by
 unfold l4 gt0;rw[if_pos (List.getElem?_eq_some_iff.1 h).1]
theorem yw0 {ops:List D3} {k:Nat} {s:PS} (h:¬k<ops.length):l4 ops k s=⟨s,[],.inr 1⟩:=by
 unfold l4 gt0;rw[if_neg h]
def Z6 (wb:Nat) (s:PS) (t n:Nat) (sa:Value):Array Value :=
 if t <=2 then #[.int .i64 (t:Nat),.int .i64 (n:Nat),.bool (s.held t n),.int .i64 (prd s t n)]
 else if t <=4 then #[.int .i64 (t:Nat),.int .i64 (n:Nat),.pointer (some ⟨wb,0,none⟩),.int .i64 (s.val t n),sa]
 else #[.int .i64 (t:Nat),.int .i64 (n:Nat),.pointer (some ⟨wb,0,none⟩),.int .i64 (s.val t n)]
def tty (t:Nat):TypeId:=if t <=2 then 195 else if t=3 then 123 else if t=4 then 132 else 115
theorem mh0 (t:Nat):tty t≠0/\tty t≠45/\tty t≠2:=by
 unfold tty;split
 ·exact⟨by decide,by decide,by decide⟩
 split
 ·exact⟨by decide,by decide,by decide⟩
 split <;> exact⟨by decide,by decide,by decide⟩
structure G5 where
 la:Nat->Option Addr
 lc:Nat->Nat
structure o4 where
 m:Nat
 bo:Nat->List D3
 tb:Nat
 wb:Nat
 sb:Nat->Nat->Nat
 mb:Nat->Nat->Nat
 lgb:Nat
 RO:Nat->Prop
 wI:World
 B:Nat
 lb:Nat
 pl:Nat->w6
def pob (p:o4) (t n:Nat):Nat:=if t <=2 then p.mb t n else p.sb t n
def Mg0 (p:o4):Array Value:=arr 10 fun j=>.pointer (some ⟨pob p (j/2+1) (j%2),0,none⟩)
def mty (t:Nat):TypeId:=if t=1 then 113 else 125
structure cx0 (p:o4) (w:World) (s:PS) (r:G5):Prop where
 hS:∀t n,1 <=t->t <=5->n<2->∃sa,Q0 w (p.sb t n) (Z6 p.wb s t n sa) (tty t)
 hG:Q0 w p.lgb (arr p.m fun i=>.slice (r.la i) (s.K3 i).length (r.lc i)) 45
 hL:∀i,i<p.m->Own w p.B 2 1 (r.la i) (s.K3 i).length (r.lc i) ((s.K3 i).map (.int .i64 ·))
 inj:∀i j,i<p.m->j<p.m->i≠j->r.la i≠none->r.la j≠none->ab (r.la i)≠ab (r.la j)
 ro:∀b,p.RO b->w.heap[b]? =p.wI.heap[b]?
 lG:p.B <=p.lgb
def PF (p:o4) (r:G5) (b:Nat):Prop:=(∃t n,1 <=t/\t <=5/\n<2/\b=p.sb t n)\/b=p.lgb\/(∃i,i<p.m/\r.la i≠none/\b=ab (r.la i))\/p.RO b
def Sg0 (p:o4) (s:PS) (_:Gm) (w:World) (F:Nat->Prop):Prop:=∃r,F=PF p r/\cx0 p w s r
@[reducible] def E3 (p:o4):Sys where
 S:=PS
 L:=Nat
 m:=p.m
 s0:=ps0
 nil:=fun _=>false
 stp:=fun i k=>match(p.bo i)[k]? with
  |some o=>⟨o.call,o.c5,(Z0 o:Nat)⟩
  |none=>⟨0,0,0⟩
 rdy:=fun i k s=>match(p.bo i)[k]? with
  |some o=>gr0 o s
  |none=>true
 beg:=fun i s=>l4 (p.bo i) 0 s
 go:=fun i k s=>goP (p.bo i) i k s
 le:=fun _ _ _=>True
 Inv:=Sg0 p
 lb:=p.lb
 pl:=p.pl
structure l5 (p:o4):Prop where
 ro:∀b,p.RO b->b<p.wI.heap.size/\p.wI.heap[b]? ≠some nothing
 roD:∀b,p.RO b->b<p.B\/∃cs T,Q0 p.wI b cs T/\(∀t,T≠tty t)/\T≠45/\T≠2
 sB:∀t n,1 <=t->t <=5->n<2->p.B <=p.sb t n
 eb1:∀t n t' n',1 <=t->t <=5->n<2->1 <=t'->t' <=5->n'<2->p.sb t n=p.sb t' n'->t=t'/\n=n'
 hT:p.RO p.tb/\Q0 p.wI p.tb (Mg0 p) 72
 hW:p.RO p.wb/\Q0 p.wI p.wb #[.bool false] 105
 hM:∀t n,1 <=t->t <=2->n<2->p.RO (p.mb t n)/\Q0 p.wI (p.mb t n) #[.iface 193 (.pointer (some ⟨p.sb t n,0,none⟩))] (mty t)
 ops:∀i o,o∈p.bo i->POk o
section
variable {p:o4}{w w' wI:World}{s:PS}{r:G5}
theorem cx0.congr (h:cx0 p w s r) (he:∀b,PF p r b->w'.heap[b]? =w.heap[b]?):cx0 p w' s r :=
 ⟨fun t n h1 h2 h3=>let⟨sa,hB⟩:=h.hS t n h1 h2 h3;⟨sa,(he _ (.inl ⟨t,n,h1,h2,h3,rfl⟩)).trans hB⟩,(he _ (.inr (.inl rfl))).trans h.hG,fun i hi=>Own.congr (h.hL i hi) fun ha=>he _ (.inr (.inr (.inl ⟨i,hi,ha,rfl⟩))),h.inj,fun b hb=>(he _ (.inr (.inr (.inr hb)))).trans (h.ro b hb),h.lG⟩
theorem cx0.vis (h:cx0 p w s r) (hp:l5 p) {b:Nat} (hb:PF p r b):b<w.heap.size/\w.heap[b]? ≠some nothing:=by
 rcases hb with⟨t,n,h1,h2,h3,rfl⟩|rfl|⟨i,hi,ha,rfl⟩|hb
 ·obtain⟨sa,hB⟩:=h.hS t n h1 h2 h3;exact gq0 hB (mh0 t).1
 ·exact gq0 h.hG (by decide)
 ·obtain⟨cur,hc,_⟩:=(h.hL i hi).row ha;exact gq0 hc (by decide)
 ·have h1:=h.ro b hb;have h2:=hp.ro b hb;refine⟨?_,by rw[h1];exact h2.2⟩;rcases Nat.lt_or_ge b w.heap.size with z|z
  ·exact z
  ·rw[Array.getElem?_eq_none z,Array.getElem?_eq_getElem h2.1]at h1;cases h1
theorem cx0.Ym0 (h:cx0 p w s r) (hp:l5 p) {b:Nat} (hb:p.RO b):(∀t n,1 <=t->t <=5->n<2->b≠p.sb t n)/\b≠p.lgb/\∀i,i<p.m->r.la i≠none->b≠ab (r.la i):=by
 rcases hp.roD b hb with C2|⟨cs,T,hB,t1,t2,t3⟩
 ·refine⟨fun t n h1 h2 h3 e=>?_,fun e=>?_,fun i hi ha e=>?_⟩
  ·have:=hp.sB t n h1 h2 h3;omega
  ·have:=h.lG;omega
  ·obtain⟨_,_,h2,_⟩:=(h.hL i hi).row ha;omega
 ·have hB':Q0 w b cs T:=(h.ro b hb).trans hB;exact⟨fun t n h1 h2 h3=>let⟨_,hS⟩:=h.hS t n h1 h2 h3;Q0.ne hB' hS (t1 t),Q0.ne hB' h.hG t2,fun i hi ha=>Ay0 (h.hL i hi) hB' t3 ha⟩
theorem cx0.rob (h:cx0 p w s r) {b:Nat} {cs:Array Value} {T:TypeId} (hb:p.RO b/\Q0 p.wI b cs T):Q0 w b cs T:=(h.ro b hb.1).trans hb.2
theorem gu0 (hp:l5 p):lx0 (E3 p):=by
 refine⟨⟨fun _ _=>trivial,fun _ _ _ _ _ _=>trivial⟩,fun s m w w' F h he=>?_,fun s m w F h b hb=>?_⟩
 ·obtain⟨r,rfl,hM⟩:=h;exact⟨r,rfl,hM.congr he⟩
 ·obtain⟨r,rfl,hM⟩:=h;exact hM.vis hp hb
theorem cx0.set (h:cx0 p w s r) (hp:l5 p) {s':PS} {t n y:Nat} {sa:Value} (h1:1 <=t) (h2:t <=5) (h3:n<2) (hg:z9 w w' (p.sb t n) y) (hy:y=p.sb t n\/¬PF p r y) (hB:Q0 w' (p.sb t n) (Z6 p.wb s' t n sa) (tty t)) (ht:s'.K3=s.K3) (hs:∀t' n' sa,1 <=t'->t' <=5->n'<2->¬(t'=t/\n'=n)->Z6 p.wb s' t' n' sa=Z6 p.wb s t' n' sa):cx0 p w' s' r:=by
 have stay:∀b,PF p r b->b≠p.sb t n->w'.heap[b]? =w.heap[b]?:=fun b hb n3=>hg.block b (h.vis hp hb).1 n3 fun e=>by
  subst e;rcases hy with z|z
  ·exact n3 z
  ·exact z hb
 obtain⟨_,hS⟩:=h.hS t n h1 h2 h3;refine⟨fun t' n' g1 g2 g3=>?_,?_,fun i hi=>?_,h.inj,fun b hb=>?_,h.lG⟩
 ·by_cases e:t'=t/\n'=n
  ·obtain⟨rfl,rfl⟩:=e;exact⟨sa,hB⟩
  ·obtain⟨sa',hS'⟩:=h.hS t' n' g1 g2 g3;exact⟨sa',by rw[hs t' n' sa' g1 g2 g3 e];exact(stay _ (.inl ⟨t',n',g1,g2,g3,rfl⟩) fun z=>e (hp.eb1 _ _ _ _ g1 g2 g3 h1 h2 h3 z)).trans hS'⟩
 ·rw[ht];exact(stay _ (.inr (.inl rfl)) (Q0.ne h.hG hS (mh0 t).2.1.symm)).trans h.hG
 ·rw[ht];exact Own.congr (h.hL i hi) fun ha=>stay _ (.inr (.inr (.inl ⟨i,hi,ha,rfl⟩))) fun e=>Ay0 (h.hL i hi) hS (mh0 t).2.2 ha e.symm
 ·exact(stay b (.inr (.inr (.inr hb))) ((h.Ym0 hp hb).1 t n h1 h2 h3)).trans (h.ro b hb)
theorem z9.of {b:Nat} (hg:w.grownBy w' (some b)):z9 w w' b b:=(z9.refl w b b).step (.inl rfl) hg
end
structure Yn0 (p:o4) (q:PR (E3 p)):Prop where
 new:∀i,q.ft.length <=i->q.s.K3 i=[]
 T4:∀i k,q.ft[i]? =some (.inl k)->(q.s.K3 i).length=k/\k<(p.bo i).length
 all:∀i,(q.s.K3 i).length <=(p.bo i).length
theorem sa0 {ops:List D3} {k l:Nat} (h:gt0 ops k= .inl l):l=k/\k<ops.length:=by
 unfold gt0 at h;split at h
 ·cases h;exact⟨rfl,by assumption⟩
 ·cases h
theorem uj0 {p:o4}:∀q,(E3 p).Reach q->Yn0 p q:=by
 refine Sys.ind (Y:=E3 p) (fun q=>Yn0 p q) ⟨fun _ _=>rfl,(fun i l h=>by cases h),fun _=>Nat.zero_le _⟩ (fun q hq _=>?_) (fun q i k hq _ hf _=>?_)
 ·have hb:(E3 p).bgn q={q with s:=q.s,ft:=q.ft ++ [gt0 (p.bo q.ft.length) 0],I2:=q.I2++tell q.ft.length q.evs.length [],outs:=q.outs ++ [l4 (p.bo q.ft.length) 0 q.s],who:=q.who ++ [none]}:=rfl;rw[hb];refine⟨fun j hj=>?_,fun j l h=>?_,hq.all⟩
  ·have hj:(q.ft ++ [gt0 (p.bo q.ft.length) 0]).length <=j:=hj;rw[List.length_append,List.length_singleton]at hj;exact hq.new j (by omega)
  ·have h:(q.ft ++ [gt0 (p.bo q.ft.length) 0])[j]? =some (.inl l):=h;rcases by0 h with h'|⟨hj,h'⟩
   ·exact hq.T4 j l h'
   ·obtain⟨rfl,h2⟩:=sa0 h';rw[hj];exact⟨by show(q.s.K3 q.ft.length).length=0;rw[hq.new _ (Nat.le_refl _)];rfl,h2⟩
 ·have hl:=(List.getElem?_eq_some_iff.1 hf).1;obtain⟨h1,h2⟩:=hq.T4 i k hf;obtain⟨o,ho⟩:∃o,(p.bo i)[k]? =some o:=⟨_,List.getElem?_eq_getElem h2⟩
  have ht:(E3 p).A5 q i={q with s:=(goP (p.bo i) i k q.s).s,ft:=q.ft.set i (goP (p.bo i) i k q.s).X7,evs:=q.evs ++ [(i,(E3 p).stp i k)],I2:=q.I2++tell i (q.evs.length+1) (goP (p.bo i) i k q.s).I2,outs:=q.outs ++ [goP (p.bo i) i k q.s],who:=q.who ++ [some i],used:=q.used+1}:=by
   unfold Sys.A5;rw[hf]
  rw[ht,yv0 ho];have e1:(aq0 i (G9 o q.s)).K3 i=q.s.K3 i ++ [(G9 o q.s).2]:=by show upN _ i _ i=_;rw[B4,mg0]
  have e2:∀j,j≠i->(aq0 i (G9 o q.s)).K3 j=q.s.K3 j:=fun j hj=>by show upN _ i _ j=_;rw[S4 hj,mg0]
  refine⟨fun j hj=>?_,fun j l h=>?_,fun j=>?_⟩
  ·have hj:(q.ft.set i _).length <=j:=hj;rw[List.length_set]at hj;exact(e2 j (by omega)).trans (hq.new j hj)
  ·have h:(q.ft.set i (gt0 (p.bo i) (k+1)))[j]? =some (.inl l):=h;by_cases V2:j=i
   ·subst V2;rw[List.getElem?_set_self hl]at h;obtain⟨rfl,h3⟩:=sa0 (Option.some.inj h);exact⟨by show((aq0 j (G9 o q.s)).K3 j).length=_;rw[e1,List.length_append,h1];rfl,h3⟩
   ·rw[List.getElem?_set_ne (Ne.symm V2)]at h;exact⟨by show((aq0 i (G9 o q.s)).K3 j).length=_;rw[e2 j V2];exact(hq.T4 j l h).1,(hq.T4 j l h).2⟩
  ·show((aq0 i (G9 o q.s)).K3 j).length <=_;by_cases V2:j=i
   ·subst V2;rw[e1,List.length_append,h1];exact h2
   ·rw[e2 j V2];exact hq.all j
noncomputable abbrev j2 (p:o4) (fb:Nat->FuncId) (q:PR (E3 p)) (w00:World) (i cb:Nat) (top:List Frame):M8 prog:=(E3 p).cfg fb q w00 i cb top
structure R8 (p:o4) (w:World) (s:PS) (r:G5):Prop where
 ok:l5 p
 mem:cx0 p w s r
section
variable {p:o4}{w w' u:World}{fb:Nat->FuncId}{q:PR (E3 p)}{w00:World}{i cb:Nat}{top:List Frame}{s:PS}{r:G5}{k:Nat}{o:D3}
theorem R8.A0 (h:R8 p w s r) (hb:Below w.heap.size w w'):R8 p w' s r:=⟨h.ok,h.mem.congr fun b hF=>hb.block b (h.mem.vis h.ok hF).1⟩
theorem R8.fresh (h:R8 p w s r) {b:Nat} (hb:w.heap.size <=b):¬PF p r b:=fun z=>by have:=(h.mem.vis h.ok z).1;omega
theorem R8.K3 (h:R8 p w s r) (hc:x9 (j2 p fb q w00 i cb top) w ⟨s,[],.inl k⟩):(j2 p fb q w00 i cb top).Told w (gm w) (PF p r) (.inl k):=hc.K3 rfl (fun _ _=>trivial) ⟨r,rfl,h.mem⟩
theorem R8.done {v:Value} (h:R8 p w s r) (hc:x9 (j2 p fb q w00 i cb top) w ⟨s,[],.inr 1⟩):∃F,(j2 p fb q w00 i cb top).xx0 w F (.returned v):=⟨_,hc.done (m:=gm w) rfl (fun _ _=>trivial) ⟨r,rfl,h.mem⟩⟩
theorem R8.start {F:Nat->Prop} (hs:yi0 (j2 p fb q w00 i cb top) (fun s=>l4 (p.bo i) 0 s) u F) (hp:l5 p):∃s r,R8 p u s r/\x9 (j2 p fb q w00 i cb top) u (l4 (p.bo i) 0 s)/\(s.K3 i).length <=0:=by
 obtain⟨ht,p',hR,_,h1,h2⟩:=hs.at_
 have hl:=uj0 p' hR;have I1:=hl.new i (Nat.le_of_eq h2);rw[h1]at I1;obtain⟨r,hF,hM⟩:Sg0 p ((E3 p).sAt q (gh u 0)) (gm u) u F:=hs.inv;exact⟨_,r,⟨hp,hM⟩,⟨hs.on,hs.I2,hs.out,rfl,hs.os,hs.output⟩,by rw[I1];exact Nat.le_refl _⟩
theorem o8 {F F':Nat->Prop} {m:Gm} (hg:(j2 p fb q w00 i cb top).m5 w m F u F'):∃r1,F'=PF p r1/\cx0 p u ((E3 p).sAt q (gh u 0)) r1:=hg.inv
theorem E4 (hp:l5 p) {F F':Nat->Prop} {m:Gm} (hc:x9 (j2 p fb q w00 i cb top) w ⟨s,[],.inl k⟩) (ho:(p.bo i)[k]? =some o) (hg:(j2 p fb q w00 i cb top).Goes w m F k u F'):∃r1,F'=PF p r1/\R8 p u ((E3 p).sAt q (gh u 0)) r1/\x9 (j2 p fb q w00 i cb top) u (l4 (p.bo i) (k+1) (aq0 i (G9 o ((E3 p).sAt q (gh u 0)))))/\(((E3 p).sAt q (gh u 0)).K3 i).length=k:=by
 obtain⟨r1,hF,hM⟩:=o8 hg.W6;obtain⟨ht,p',hR,_,h1,h2⟩:=hg.at_
 have hl:=(uj0 p' hR).T4 i k h2;rw[h1]at hl;have p8:=hc.goes hg (fun s=>Az0 (p.bo i) i k s);have e1:(j2 p fb q w00 i cb top).go k ((j2 p fb q w00 i cb top).sOf (gh u 0))=l4 (p.bo i) (k+1) (aq0 i (G9 o ((E3 p).sAt q (gh u 0)))):=yv0 ho;rw[e1]at p8;exact⟨r1,hF,⟨hp,hM⟩,p8,hl.1⟩
theorem S8 (ho:(p.bo i)[k]? =some o) {a b:Int} (ha:o.call=a) (hb:o.c5=b):(j2 p fb q w00 i cb top).stp k=⟨a,b,(Z0 o:Nat)⟩:=by
 show(match(p.bo i)[k]? with|some o=>(⟨o.call,o.c5,(Z0 o:Nat)⟩:Stp)|none=>⟨0,0,0⟩)=_;rw[ho,<- ha,<- hb]
theorem uk0 (ho:(p.bo i)[k]? =some o) (s:PS):(j2 p fb q w00 i cb top).rdy k s=gr0 o s:=by
 show(match(p.bo i)[k]? with|some o=>gr0 o s|none=>true)=_;rw[ho]
theorem A9 (ho:(p.bo i)[k]? =some o) (h1:o.call≠1) (h3:o.call≠3) (s:PS):(j2 p fb q w00 i cb top).rdy k s=true:=by
 rw[uk0 ho];unfold gr0;rw[if_neg h1,if_neg h3]
theorem eh0 (h:o.call=5\/o.call=8) {t:Nat} (hT:pT o=t) (s:PS):G9 o s=(s,s.val t (Z0 o)):=by
 unfold G9;rw[hT];rw[if_neg (by omega),if_neg (by omega),if_neg (by omega),if_neg (by omega),if_neg (by omega),if_neg (by omega)]
theorem kl0 (h:o.call=6\/o.call=9) {t:Nat} (hT:pT o=t) (s:PS):G9 o s=({s with val:=up2 s.val t (Z0 o) o.val},0):=by
 unfold G9;rw[hT];rw[if_neg (by omega),if_neg (by omega),if_neg (by omega),if_neg (by omega),if_pos (by omega)]
theorem Ba0 (h:o.call=7) {t:Nat} (hT:pT o=t) (s:PS):G9 o s=({s with val:=up2 s.val t (Z0 o) (IntKind.i64.wrap (s.val t (Z0 o)+o.val))},IntKind.i64.wrap (s.val t (Z0 o)+o.val)):=by
 unfold G9;rw[hT];rw[if_neg (by omega),if_neg (by omega),if_neg (by omega),if_neg (by omega),if_neg (by omega),if_pos (by omega)]
theorem Hs0 (h:o.call=1) {t:Nat} (hT:pT o=t) (s:PS):G9 o s=({s with held:=up2 s.held t (Z0 o) true},0):=by
 unfold G9;rw[hT,if_pos h]
theorem Ht0 (h:o.call=2) {t:Nat} (hT:pT o=t) (s:PS):G9 o s=({s with held:=up2 s.held t (Z0 o) false},0):=by
 unfold G9;rw[hT,if_neg (by omega),if_pos h]
theorem Oy0 (h:o.call=3) {t:Nat} (_:pT o=t) (s:PS):G9 o s=({s with I4:=upN s.I4 (Z0 o) (IntKind.i64.wrap (s.I4 (Z0 o)+1))},0):=by
 unfold G9;rw[if_neg (by omega),if_neg (by omega),if_pos h]
theorem Oz0 (h:o.call=4) {t:Nat} (_:pT o=t) (s:PS):G9 o s=({s with I4:=upN s.I4 (Z0 o) (max 0 (IntKind.i64.wrap (s.I4 (Z0 o)-1)))},0):=by
 unfold G9;rw[if_neg (by omega),if_neg (by omega),if_neg (by omega),if_pos h]
theorem yx0 {wb t n t' n':Nat} {v:Int} {sa:Value} (h:¬(t'=t/\n'=n)):Z6 wb {s with val:=up2 s.val t n v} t' n' sa=Z6 wb s t' n' sa:=by
 unfold Z6;simp only[yu0 h];rfl
theorem Bb0 {wb t n t' n':Nat} {v:Bool} {sa:Value} (h:¬(t'=t/\n'=n)):Z6 wb {s with held:=up2 s.held t n v} t' n' sa=Z6 wb s t' n' sa:=by
 unfold Z6;simp only[yu0 h];rfl
theorem Bc0 {wb n t' n':Nat} {v:Int} {sa:Value} (h:¬(t'=2/\n'=n)):Z6 wb {s with I4:=upN s.I4 n v} t' n' sa=Z6 wb s t' n' sa:=by
 have e:prd {s with I4:=upN s.I4 n v} t' n'=prd s t' n':=by
  unfold prd;split
  ·exact S4 fun e=>h ⟨by assumption,e⟩
  ·rfl
 unfold Z6;rw[e]
theorem io0 {b:Nat} {a1 a2:Value} {h h':Bool} {x x':Int} {T T':TypeId} (h1:Q0 w b #[a1,a2,.bool h,.int .i64 x] T) (h2:Q0 w b #[a1,a2,.bool h',.int .i64 x'] T'):h=h'/\x=x':=by
 have e:(some (Obj.cells #[a1,a2,.bool h,.int .i64 x] T (0,0)))=some (Obj.cells #[a1,a2,.bool h',.int .i64 x'] T' (0,0)):=h1.symm.trans h2;injection e with e
 injection e with e
 have e3:=congrArg (fun a:Array Value=>a.toList) e;simp at e3;exact e3
def j6 (p:o4) (fb:Nat->FuncId) (q:PR (E3 p)) (w00:World) (i cb:Nat) (top:List Frame) (k:Nat) (o:D3) (w:World) (A:Value->Int->Prop):Ending->World->Prop :=
 r3 (j2 p fb q w00 i cb top) w fun v u=>∃s1 r1,R8 p u (G9 o s1).1 r1/\x9 (j2 p fb q w00 i cb top) u (l4 (p.bo i) (k+1) (aq0 i (G9 o s1)))/\(s1.K3 i).length=k/\A v (G9 o s1).2
end
theorem Mh0 {p:o4} {fb:Nat->FuncId} {q:PR (E3 p)} {w00:World} {i cb:Nat} {top:List Frame} {s:PS} {r:G5} {k:Nat} {o:D3} (hp:l5 p) (w0:World) (hE:R8 p w0 s r) (hc:x9 (j2 p fb q w00 i cb top) w0 ⟨s,[],.inl k⟩) (ho:(p.bo i)[k]? =some o) (h5:o.c5=5) (h8:o.call=8) :
  @Calls prog (J0 (j2 p fb q w00 i cb top)) 22 #[.pointer (some ⟨p.sb 5 (Z0 o),0,none⟩),.pointer (some ⟨cb,0,none⟩)] w0 (j6 p fb q w00 i cb top k o w0 fun v x=>v= .int .i64 x):=by
 have hT:=hE.K3 hc;have hP:pT o=5:=by unfold pT;rw[h5];rfl
 obtain⟨sa,hC⟩:=hE.mem.hS 5 (Z0 o) (by decide) (by decide) (Y0 o);refine @Calls.mono _ (J0 (j2 p fb q w00 i cb top)) _ _ _ _ _ (Lz0 (Sys.kok (gu0 hp)) (p.sb 5 (Z0 o)) p.wb 5 (Z0 o:Nat) (fun tt=>((E3 p).sAt q tt).val 5 (Z0 o)) _ w0 hT (S8 ho h8 h5) (A9 ho (by omega) (by omega)) (hE.mem.rob hp.hW) hC (fun u F' hg=>?_)) fun e u he=>?_
 ·obtain⟨r1,rfl,m7,_,_⟩:=E4 hp hc ho hg;obtain⟨_,hh⟩:=m7.mem.hS 5 (Z0 o) (by decide) (by decide) (Y0 o);exact hh
 ·cases e with
  |outgrown=>exact he
  |panicked ch=>exact he
  |returned v=>
   obtain⟨F',tt,hg,htt,rfl⟩:=he;obtain⟨r1,rfl,m7,p8,hl⟩:=E4 hp hc ho hg.goes;have e1:=htt.eq;refine⟨_,r1,?_,p8,hl,?_⟩
   ·rw[eh0 (by omega) hP];exact m7
   ·rw[eh0 (by omega) hP,e1]
theorem Mi0 {p:o4} {fb:Nat->FuncId} {q:PR (E3 p)} {w00:World} {i cb:Nat} {top:List Frame} {s:PS} {r:G5} {k:Nat} {o:D3} (hp:l5 p) (w0:World) (hE:R8 p w0 s r) (hc:x9 (j2 p fb q w00 i cb top) w0 ⟨s,[],.inl k⟩) (ho:(p.bo i)[k]? =some o) (h5:o.c5=4) (h8:o.call=5) :
  @Calls prog (J0 (j2 p fb q w00 i cb top)) 29 #[.pointer (some ⟨p.sb 4 (Z0 o),0,none⟩),.pointer (some ⟨cb,0,none⟩)] w0 (j6 p fb q w00 i cb top k o w0 fun v x=>v= .int .i64 x):=by
 have hT:=hE.K3 hc;have hP:pT o=4:=by unfold pT;rw[h5];rfl
 obtain⟨sa,hC⟩:=hE.mem.hS 4 (Z0 o) (by decide) (by decide) (Y0 o);refine @Calls.mono _ (J0 (j2 p fb q w00 i cb top)) _ _ _ _ _ (Mb0 (Sys.kok (gu0 hp)) (p.sb 4 (Z0 o)) p.wb 4 (Z0 o:Nat) (fun tt=>((E3 p).sAt q tt).val 4 (Z0 o)) _ sa w0 hT (S8 ho h8 h5) (A9 ho (by omega) (by omega)) (hE.mem.rob hp.hW) hC (fun u F' hg=>?_)) fun e u he=>?_
 ·obtain⟨r1,rfl,m7,_,_⟩:=E4 hp hc ho hg;obtain⟨_,hh⟩:=m7.mem.hS 4 (Z0 o) (by decide) (by decide) (Y0 o);exact⟨_,hh⟩
 ·cases e with
  |outgrown=>exact he
  |panicked ch=>exact he
  |returned v=>
   obtain⟨F',tt,hg,htt,rfl⟩:=he;obtain⟨r1,rfl,m7,p8,hl⟩:=E4 hp hc ho hg.goes;have e1:=htt.eq;refine⟨_,r1,?_,p8,hl,?_⟩
   ·rw[eh0 (by omega) hP];exact m7
   ·rw[eh0 (by omega) hP,e1]
theorem Mj0 {p:o4} {fb:Nat->FuncId} {q:PR (E3 p)} {w00:World} {i cb:Nat} {top:List Frame} {s:PS} {r:G5} {k:Nat} {o:D3} (hp:l5 p) (w0:World) (hE:R8 p w0 s r) (hc:x9 (j2 p fb q w00 i cb top) w0 ⟨s,[],.inl k⟩) (ho:(p.bo i)[k]? =some o) (h5:o.c5=3) (h8:o.call=5) :
  @Calls prog (J0 (j2 p fb q w00 i cb top)) 34 #[.pointer (some ⟨p.sb 3 (Z0 o),0,none⟩),.pointer (some ⟨cb,0,none⟩)] w0 (j6 p fb q w00 i cb top k o w0 fun v x=>v= .int .i64 x):=by
 have hT:=hE.K3 hc;have hP:pT o=3:=by unfold pT;rw[h5];rfl
 obtain⟨sa,hC⟩:=hE.mem.hS 3 (Z0 o) (by decide) (by decide) (Y0 o);refine @Calls.mono _ (J0 (j2 p fb q w00 i cb top)) _ _ _ _ _ (Md0 (Sys.kok (gu0 hp)) (p.sb 3 (Z0 o)) p.wb 3 (Z0 o:Nat) (fun tt=>((E3 p).sAt q tt).val 3 (Z0 o)) _ sa w0 hT (S8 ho h8 h5) (A9 ho (by omega) (by omega)) (hE.mem.rob hp.hW) hC (fun u F' hg=>?_)) fun e u he=>?_
 ·obtain⟨r1,rfl,m7,_,_⟩:=E4 hp hc ho hg;obtain⟨_,hh⟩:=m7.mem.hS 3 (Z0 o) (by decide) (by decide) (Y0 o);exact⟨_,hh⟩
 ·cases e with
  |outgrown=>exact he
  |panicked ch=>exact he
  |returned v=>
   obtain⟨F',tt,hg,htt,rfl⟩:=he;obtain⟨r1,rfl,m7,p8,hl⟩:=E4 hp hc ho hg.goes;have e1:=htt.eq;refine⟨_,r1,?_,p8,hl,?_⟩
   ·rw[eh0 (by omega) hP];exact m7
   ·rw[eh0 (by omega) hP,e1]
theorem Mk0 {p:o4} {fb:Nat->FuncId} {q:PR (E3 p)} {w00:World} {i cb:Nat} {top:List Frame} {s:PS} {r:G5} {k:Nat} {o:D3} (hp:l5 p) (w0:World) (hE:R8 p w0 s r) (hc:x9 (j2 p fb q w00 i cb top) w0 ⟨s,[],.inl k⟩) (ho:(p.bo i)[k]? =some o) (h5:o.c5=5) (h8:o.call=9) :
  @Calls prog (J0 (j2 p fb q w00 i cb top)) 21 #[.pointer (some ⟨p.sb 5 (Z0 o),0,none⟩),.pointer (some ⟨cb,0,none⟩),.int .i64 o.val] w0 (j6 p fb q w00 i cb top k o w0 fun v x=>v= .tuple #[]/\x=0):=by
 have hT:=hE.K3 hc;have hP:pT o=5:=by unfold pT;rw[h5];rfl
 obtain⟨sa,hC⟩:=hE.mem.hS 5 (Z0 o) (by decide) (by decide) (Y0 o);refine @Calls.mono _ (J0 (j2 p fb q w00 i cb top)) _ _ _ _ _ (Ma0 (Sys.kok (gu0 hp)) (p.sb 5 (Z0 o)) p.wb 5 (Z0 o:Nat) o.val _ w0 hT (S8 ho h8 h5) (A9 ho (by omega) (by omega)) (hE.mem.rob hp.hW) hC (fun u F' hg=>?_)) fun e u he=>?_
 ·obtain⟨r1,rfl,m7,_,_⟩:=E4 hp hc ho hg;obtain⟨_,hh⟩:=m7.mem.hS 5 (Z0 o) (by decide) (by decide) (Y0 o);exact⟨_,hh⟩
 ·cases e with
  |outgrown=>exact he
  |panicked ch=>exact he
  |returned v=>
   obtain⟨rfl,u0,F',hg,hB,G3⟩:=he;obtain⟨r1,rfl,m7,p8,hl⟩:=E4 hp hc ho hg.goes
   skip
   refine⟨_,r1,?_,p8.n5 G3 trivial,hl,rfl,by rw[kl0 (by omega) hP]⟩;rw[kl0 (by omega) hP];exact⟨hp,m7.mem.set hp (sa:=sa) (by decide) (by decide) (Y0 o) (z9.of G3) (.inl rfl) (by unfold Z6;simp only[in0];exact hB) rfl fun _ _ _ _ _ _ h=>yx0 h⟩
theorem Ml0 {p:o4} {fb:Nat->FuncId} {q:PR (E3 p)} {w00:World} {i cb:Nat} {top:List Frame} {s:PS} {r:G5} {k:Nat} {o:D3} (hp:l5 p) (w0:World) (hE:R8 p w0 s r) (hc:x9 (j2 p fb q w00 i cb top) w0 ⟨s,[],.inl k⟩) (ho:(p.bo i)[k]? =some o) (h5:o.c5=4) (h8:o.call=6) :
  @Calls prog (J0 (j2 p fb q w00 i cb top)) 26 #[.pointer (some ⟨p.sb 4 (Z0 o),0,none⟩),.pointer (some ⟨cb,0,none⟩),.int .i64 o.val] w0 (j6 p fb q w00 i cb top k o w0 fun v x=>v= .tuple #[]/\x=0):=by
 have hT:=hE.K3 hc;have hP:pT o=4:=by unfold pT;rw[h5];rfl
 obtain⟨sa,hC⟩:=hE.mem.hS 4 (Z0 o) (by decide) (by decide) (Y0 o);refine @Calls.mono _ (J0 (j2 p fb q w00 i cb top)) _ _ _ _ _ (Mc0 (Sys.kok (gu0 hp)) (p.sb 4 (Z0 o)) p.wb 4 (Z0 o:Nat) o.val _ sa w0 hT (S8 ho h8 h5) (A9 ho (by omega) (by omega)) (hE.mem.rob hp.hW) hC (fun u F' hg=>?_)) fun e u he=>?_
 ·obtain⟨r1,rfl,m7,_,_⟩:=E4 hp hc ho hg;obtain⟨_,hh⟩:=m7.mem.hS 4 (Z0 o) (by decide) (by decide) (Y0 o);exact⟨_,_,hh⟩
 ·cases e with
  |outgrown=>exact he
  |panicked ch=>exact he
  |returned v=>
   obtain⟨rfl,u0,F',hg,hB,G3,_⟩:=he;obtain⟨r1,rfl,m7,p8,hl⟩:=E4 hp hc ho hg.goes;obtain⟨sa2,hB⟩:=hB;refine⟨_,r1,?_,p8.n5 G3 trivial,hl,rfl,by rw[kl0 (by omega) hP]⟩;rw[kl0 (by omega) hP];exact⟨hp,m7.mem.set hp (sa:=sa2) (by decide) (by decide) (Y0 o) (z9.of G3) (.inl rfl) (by unfold Z6;simp only[in0];exact hB) rfl fun _ _ _ _ _ _ h=>yx0 h⟩
theorem Mm0 {p:o4} {fb:Nat->FuncId} {q:PR (E3 p)} {w00:World} {i cb:Nat} {top:List Frame} {s:PS} {r:G5} {k:Nat} {o:D3} (hp:l5 p) (w0:World) (hE:R8 p w0 s r) (hc:x9 (j2 p fb q w00 i cb top) w0 ⟨s,[],.inl k⟩) (ho:(p.bo i)[k]? =some o) (h5:o.c5=3) (h8:o.call=7) :
  @Calls prog (J0 (j2 p fb q w00 i cb top)) 24 #[.pointer (some ⟨p.sb 3 (Z0 o),0,none⟩),.pointer (some ⟨cb,0,none⟩),.int .i64 o.val] w0 (j6 p fb q w00 i cb top k o w0 fun v x=>v= .int .i64 x):=by
 have hT:=hE.K3 hc;have hP:pT o=3:=by unfold pT;rw[h5];rfl
 obtain⟨sa,hC⟩:=hE.mem.hS 3 (Z0 o) (by decide) (by decide) (Y0 o);refine @Calls.mono _ (J0 (j2 p fb q w00 i cb top)) _ _ _ _ _ (Mf0 (Sys.kok (gu0 hp)) (p.sb 3 (Z0 o)) p.wb 3 (Z0 o:Nat) (fun tt=>((E3 p).sAt q tt).val 3 (Z0 o)) _ o.val sa w0 hT (S8 ho h8 h5) (A9 ho (by omega) (by omega)) (hE.mem.rob hp.hW) hC (fun u F' hg=>?_)) fun e u he=>?_
 ·obtain⟨r1,rfl,m7,_,_⟩:=E4 hp hc ho hg;obtain⟨_,hh⟩:=m7.mem.hS 3 (Z0 o) (by decide) (by decide) (Y0 o);exact⟨_,hh⟩
 ·cases e with
  |outgrown=>exact he
  |panicked ch=>exact he
  |returned v=>
   obtain⟨u0,F',tt,sa2,hg,htt,rfl,hB,y,hy1,hy2,hm2,_⟩:=he;obtain⟨r1,rfl,m7,p8,hl⟩:=E4 hp hc ho hg.goes;subst htt;refine⟨_,r1,?_,p8.to hm2.tape hm2.os hm2.output,hl,by rw[Ba0 h8 hP]⟩;rw[Ba0 h8 hP];exact⟨hp,m7.mem.set hp (sa:=sa2) (by decide) (by decide) (Y0 o) hm2 (.inr hy2) (by unfold Z6;simp only[in0];exact hB) rfl fun _ _ _ _ _ _ h=>yx0 h⟩
theorem Hu0 {p:o4} {fb:Nat->FuncId} {q:PR (E3 p)} {w00:World} {i cb:Nat} {top:List Frame} {s:PS} {r:G5} {k:Nat} {o:D3} (hp:l5 p) (w0:World) (hE:R8 p w0 s r) (hc:x9 (j2 p fb q w00 i cb top) w0 ⟨s,[],.inl k⟩) (ho:(p.bo i)[k]? =some o) (h5:o.c5=1) (h8:o.call=1) :
  @Calls prog (J0 (j2 p fb q w00 i cb top)) 20 #[.pointer (some ⟨p.mb 1 (Z0 o),0,none⟩),.pointer (some ⟨cb,0,none⟩)] w0 (j6 p fb q w00 i cb top k o w0 fun v x=>v= .tuple #[]/\x=0):=by
 have hT:=hE.K3 hc;have hP:pT o=1:=by unfold pT;rw[h5];rfl
 obtain⟨sa,hC⟩:=hE.mem.hS 1 (Z0 o) (by decide) (by decide) (Y0 o);refine @Calls.mono _ (J0 (j2 p fb q w00 i cb top)) _ _ _ _ _ (Hp0 (Sys.kok (gu0 hp)) (p.sb 1 (Z0 o)) 1 (Z0 o:Nat) _ _ (p.mb 1 (Z0 o)) w0 hT (S8 ho h8 h5) (hE.mem.rob (hp.hM 1 (Z0 o) (by decide) (by decide) (Y0 o))) hC (fun u F' hl=>?_)) fun e u he=>?_
 ·obtain⟨r1,rfl,hM⟩:=o8 hl;obtain⟨_,hh⟩:=hM.hS 1 (Z0 o) (by decide) (by decide) (Y0 o);exact⟨_,_,hh,by refine(uk0 (fb:=fb) (w00:=w00) (cb:=cb) (top:=top) ho _).trans ?_;unfold gr0;rw[if_pos h8,hP];rfl⟩
 ·cases e with
  |outgrown=>exact he
  |panicked ch=>exact he
  |returned v=>
   obtain⟨rfl,u0,F',h',r',hg,g6,hB,G3,_⟩:=he;obtain⟨r1,rfl,m7,p8,hl⟩:=E4 hp hc ho hg.goes;obtain⟨_,hS1⟩:=m7.mem.hS 1 (Z0 o) (by decide) (by decide) (Y0 o);obtain⟨rfl,rfl⟩:=io0 g6 hS1;refine⟨_,r1,?_,p8.n5 G3 trivial,hl,rfl,by rw[Hs0 h8 hP]⟩;exact U334
theorem yy0 {p:o4} {fb:Nat->FuncId} {q:PR (E3 p)} {w00:World} {i cb:Nat} {top:List Frame} {s:PS} {r:G5} {k:Nat} {o:D3} (hp:l5 p) (w0:World) (hE:R8 p w0 s r) (hc:x9 (j2 p fb q w00 i cb top) w0 ⟨s,[],.inl k⟩) (ho:(p.bo i)[k]? =some o) (h5:o.c5=1) (h8:o.call=2) :
  @Calls prog (J0 (j2 p fb q w00 i cb top)) 23 #[.pointer (some ⟨p.mb 1 (Z0 o),0,none⟩),.pointer (some ⟨cb,0,none⟩)] w0 (j6 p fb q w00 i cb top k o w0 fun v x=>v= .tuple #[]/\x=0):=by
 have hT:=hE.K3 hc;have hP:pT o=1:=by unfold pT;rw[h5];rfl
 obtain⟨sa,hC⟩:=hE.mem.hS 1 (Z0 o) (by decide) (by decide) (Y0 o);refine @Calls.mono _ (J0 (j2 p fb q w00 i cb top)) _ _ _ _ _ (yq0 (Sys.kok (gu0 hp)) (p.sb 1 (Z0 o)) 1 (Z0 o:Nat) _ _ (p.mb 1 (Z0 o)) w0 hT (S8 ho h8 h5) (A9 ho (by omega) (by omega)) (hE.mem.rob (hp.hM 1 (Z0 o) (by decide) (by decide) (Y0 o))) hC (fun u F' hl=>?_)) fun e u he=>?_
 ·obtain⟨r1,rfl,hM⟩:=o8 hl;obtain⟨_,hh⟩:=hM.hS 1 (Z0 o) (by decide) (by decide) (Y0 o);exact⟨_,_,hh⟩
 ·cases e with
  |outgrown=>exact he
  |panicked ch=>exact he
  |returned v=>
   obtain⟨rfl,u0,F',h',r',hg,g6,hB,G3,_⟩:=he;obtain⟨r1,rfl,m7,p8,hl⟩:=E4 hp hc ho hg.goes;obtain⟨_,hS1⟩:=m7.mem.hS 1 (Z0 o) (by decide) (by decide) (Y0 o);obtain⟨rfl,rfl⟩:=io0 g6 hS1;refine⟨_,r1,?_,p8.n5 G3 trivial,hl,rfl,by rw[Ht0 h8 hP]⟩;exact U335
theorem Hv0 {p:o4} {fb:Nat->FuncId} {q:PR (E3 p)} {w00:World} {i cb:Nat} {top:List Frame} {s:PS} {r:G5} {k:Nat} {o:D3} (hp:l5 p) (w0:World) (hE:R8 p w0 s r) (hc:x9 (j2 p fb q w00 i cb top) w0 ⟨s,[],.inl k⟩) (ho:(p.bo i)[k]? =some o) (h5:o.c5=2) (h8:o.call=1) :
  @Calls prog (J0 (j2 p fb q w00 i cb top)) 25 #[.pointer (some ⟨p.mb 2 (Z0 o),0,none⟩),.pointer (some ⟨cb,0,none⟩)] w0 (j6 p fb q w00 i cb top k o w0 fun v x=>v= .tuple #[]/\x=0):=by
 have hT:=hE.K3 hc;have hP:pT o=2:=by unfold pT;rw[h5];rfl
 obtain⟨sa,hC⟩:=hE.mem.hS 2 (Z0 o) (by decide) (by decide) (Y0 o);refine @Calls.mono _ (J0 (j2 p fb q w00 i cb top)) _ _ _ _ _ (Hq0 (Sys.kok (gu0 hp)) (p.sb 2 (Z0 o)) 2 (Z0 o:Nat) _ _ (p.mb 2 (Z0 o)) w0 hT (S8 ho h8 h5) (hE.mem.rob (hp.hM 2 (Z0 o) (by decide) (by decide) (Y0 o))) hC (fun u F' hl=>?_)) fun e u he=>?_
 ·obtain⟨r1,rfl,hM⟩:=o8 hl;obtain⟨_,hh⟩:=hM.hS 2 (Z0 o) (by decide) (by decide) (Y0 o);exact⟨_,_,hh,by refine(uk0 (fb:=fb) (w00:=w00) (cb:=cb) (top:=top) ho _).trans ?_;unfold gr0;rw[if_pos h8,hP];rfl⟩
 ·cases e with
  |outgrown=>exact he
  |panicked ch=>exact he
  |returned v=>
   obtain⟨rfl,u0,F',h',r',hg,g6,hB,G3,_⟩:=he;obtain⟨r1,rfl,m7,p8,hl⟩:=E4 hp hc ho hg.goes;obtain⟨_,hS1⟩:=m7.mem.hS 2 (Z0 o) (by decide) (by decide) (Y0 o);obtain⟨rfl,rfl⟩:=io0 g6 hS1;refine⟨_,r1,?_,p8.n5 G3 trivial,hl,rfl,by rw[Hs0 h8 hP]⟩;exact U334
theorem yz0 {p:o4} {fb:Nat->FuncId} {q:PR (E3 p)} {w00:World} {i cb:Nat} {top:List Frame} {s:PS} {r:G5} {k:Nat} {o:D3} (hp:l5 p) (w0:World) (hE:R8 p w0 s r) (hc:x9 (j2 p fb q w00 i cb top) w0 ⟨s,[],.inl k⟩) (ho:(p.bo i)[k]? =some o) (h5:o.c5=2) (h8:o.call=2) :
  @Calls prog (J0 (j2 p fb q w00 i cb top)) 27 #[.pointer (some ⟨p.mb 2 (Z0 o),0,none⟩),.pointer (some ⟨cb,0,none⟩)] w0 (j6 p fb q w00 i cb top k o w0 fun v x=>v= .tuple #[]/\x=0):=by
 have hT:=hE.K3 hc;have hP:pT o=2:=by unfold pT;rw[h5];rfl
 obtain⟨sa,hC⟩:=hE.mem.hS 2 (Z0 o) (by decide) (by decide) (Y0 o);refine @Calls.mono _ (J0 (j2 p fb q w00 i cb top)) _ _ _ _ _ (yr0 (Sys.kok (gu0 hp)) (p.sb 2 (Z0 o)) 2 (Z0 o:Nat) _ _ (p.mb 2 (Z0 o)) w0 hT (S8 ho h8 h5) (A9 ho (by omega) (by omega)) (hE.mem.rob (hp.hM 2 (Z0 o) (by decide) (by decide) (Y0 o))) hC (fun u F' hl=>?_)) fun e u he=>?_
 ·obtain⟨r1,rfl,hM⟩:=o8 hl;obtain⟨_,hh⟩:=hM.hS 2 (Z0 o) (by decide) (by decide) (Y0 o);exact⟨_,_,hh⟩
 ·cases e with
  |outgrown=>exact he
  |panicked ch=>exact he
  |returned v=>
   obtain⟨rfl,u0,F',h',r',hg,g6,hB,G3,_⟩:=he;obtain⟨r1,rfl,m7,p8,hl⟩:=E4 hp hc ho hg.goes;obtain⟨_,hS1⟩:=m7.mem.hS 2 (Z0 o) (by decide) (by decide) (Y0 o);obtain⟨rfl,rfl⟩:=io0 g6 hS1;refine⟨_,r1,?_,p8.n5 G3 trivial,hl,rfl,by rw[Ht0 h8 hP]⟩;exact U335
theorem Cq0 {p:o4} {fb:Nat->FuncId} {q:PR (E3 p)} {w00:World} {i cb:Nat} {top:List Frame} {s:PS} {r:G5} {k:Nat} {o:D3} (hp:l5 p) (w0:World) (hE:R8 p w0 s r) (hc:x9 (j2 p fb q w00 i cb top) w0 ⟨s,[],.inl k⟩) (ho:(p.bo i)[k]? =some o) (h5:o.c5=2) (h8:o.call=3) :
  @Calls prog (J0 (j2 p fb q w00 i cb top)) 28 #[.pointer (some ⟨p.mb 2 (Z0 o),0,none⟩),.pointer (some ⟨cb,0,none⟩)] w0 (j6 p fb q w00 i cb top k o w0 fun v x=>v= .tuple #[]/\x=0):=by
 have hT:=hE.K3 hc;have hP:pT o=2:=by unfold pT;rw[h5];rfl
 obtain⟨sa,hC⟩:=hE.mem.hS 2 (Z0 o) (by decide) (by decide) (Y0 o);refine @Calls.mono _ (J0 (j2 p fb q w00 i cb top)) _ _ _ _ _ (Cp0 (Sys.kok (gu0 hp)) (p.sb 2 (Z0 o)) 2 (Z0 o:Nat) _ _ (p.mb 2 (Z0 o)) w0 hT (S8 ho h8 h5) (hE.mem.rob (hp.hM 2 (Z0 o) (by decide) (by decide) (Y0 o))) hC (fun u F' hl=>?_)) fun e u he=>?_
 ·obtain⟨r1,rfl,hM⟩:=o8 hl;obtain⟨_,hh⟩:=hM.hS 2 (Z0 o) (by decide) (by decide) (Y0 o);exact⟨_,_,hh,by refine(uk0 (fb:=fb) (w00:=w00) (cb:=cb) (top:=top) ho _).trans ?_;unfold gr0;rw[if_neg (by omega),if_pos h8];rfl⟩
 ·cases e with
  |outgrown=>exact he
  |panicked ch=>exact he
  |returned v=>
   obtain⟨rfl,u0,F',h',r',hg,g6,hB,G3,_⟩:=he;obtain⟨r1,rfl,m7,p8,hl⟩:=E4 hp hc ho hg.goes;obtain⟨_,hS1⟩:=m7.mem.hS 2 (Z0 o) (by decide) (by decide) (Y0 o);obtain⟨rfl,rfl⟩:=io0 g6 hS1;refine⟨_,r1,?_,p8.n5 G3 trivial,hl,rfl,by rw[Oy0 h8 hP]⟩;rw[Oy0 h8 hP];exact⟨hp,m7.mem.set hp (sa:=sa) (by decide) (by decide) (Y0 o) (z9.of G3) (.inl rfl) (by unfold Z6 prd;simp only[B4];exact hB) rfl fun _ _ _ _ _ _ h=>Bc0 h⟩
theorem wr0 {p:o4} {fb:Nat->FuncId} {q:PR (E3 p)} {w00:World} {i cb:Nat} {top:List Frame} {s:PS} {r:G5} {k:Nat} {o:D3} (hp:l5 p) (w0:World) (hE:R8 p w0 s r) (hc:x9 (j2 p fb q w00 i cb top) w0 ⟨s,[],.inl k⟩) (ho:(p.bo i)[k]? =some o) (h5:o.c5=2) (h8:o.call=4) :
  @Calls prog (J0 (j2 p fb q w00 i cb top)) 30 #[.pointer (some ⟨p.mb 2 (Z0 o),0,none⟩),.pointer (some ⟨cb,0,none⟩)] w0 (j6 p fb q w00 i cb top k o w0 fun v x=>v= .tuple #[]/\x=0):=by
 have hT:=hE.K3 hc;have hP:pT o=2:=by unfold pT;rw[h5];rfl
 obtain⟨sa,hC⟩:=hE.mem.hS 2 (Z0 o) (by decide) (by decide) (Y0 o);refine @Calls.mono _ (J0 (j2 p fb q w00 i cb top)) _ _ _ _ _ (wp0 (Sys.kok (gu0 hp)) (p.sb 2 (Z0 o)) 2 (Z0 o:Nat) _ _ (p.mb 2 (Z0 o)) w0 hT (S8 ho h8 h5) (A9 ho (by omega) (by omega)) (hE.mem.rob (hp.hM 2 (Z0 o) (by decide) (by decide) (Y0 o))) hC (fun u F' hl=>?_)) fun e u he=>?_
 ·obtain⟨r1,rfl,hM⟩:=o8 hl;obtain⟨_,hh⟩:=hM.hS 2 (Z0 o) (by decide) (by decide) (Y0 o);exact⟨_,_,hh⟩
 ·cases e with
  |outgrown=>exact he
  |panicked ch=>exact he
  |returned v=>
   obtain⟨rfl,u0,F',h',r',hg,g6,hB,G3,_⟩:=he;obtain⟨r1,rfl,m7,p8,hl⟩:=E4 hp hc ho hg.goes;obtain⟨_,hS1⟩:=m7.mem.hS 2 (Z0 o) (by decide) (by decide) (Y0 o);obtain⟨rfl,rfl⟩:=io0 g6 hS1;refine⟨_,r1,?_,p8.n5 G3 trivial,hl,rfl,by rw[Oz0 h8 hP]⟩;rw[Oz0 h8 hP];exact⟨hp,m7.mem.set hp (sa:=sa) (by decide) (by decide) (Y0 o) (z9.of G3) (.inl rfl) (by unfold Z6 prd;simp only[B4];exact hB) rfl fun _ _ _ _ _ _ h=>Bc0 h⟩
theorem v5 {p:o4} {w:World} {s:PS} {r:G5} (h:R8 p w s r) {t n:Nat} (h1:1 <=t) (h5:t <=5) (hn:n<2):w.cell? ⟨p.tb,2*(t-1)+n*1,none⟩=some (.pointer (some ⟨pob p t n,0,none⟩)):=by
 have hB:=h.mem.rob h.ok.hT;have e1:(2*(t-1)+n*1)/2+1=t:=by omega
 have e2:(2*(t-1)+n*1)%2=n:=by omega
 refine Q0.E0 hB _ ((ea0 (by omega)).trans ?_);rw[e1,e2]
theorem Mn0 (x:Int):Int.tmod (IntKind.i64.wrap (Int.tmod x 2+2)) 2=((x%2).toNat:Nat):=by
 have h1:=Int.tmod_lt_of_pos x (b:=2) (by decide);have h2:=Int.lt_tmod_of_pos x (b:=2) (by decide);have e1:IntKind.i64.wrap (Int.tmod x 2+2)=Int.tmod x 2+2:=by simp[IntKind.wrap,IntKind.signed,IntKind.bits];omega
 rw[e1];have e2:Int.tmod (Int.tmod x 2+2) 2=x%2:=by
  rw[Int.tmod_eq_emod_of_nonneg (by omega)];rw[Int.tmod_eq_emod];split <;> omega
 rw[e2];omega
section
variable [Ctx prog]
theorem T8 (o:D3) (w0:World):C prog 15 #[.agg #[.int .i64 o.c5,.int .i64 o.jn0,.int .i64 o.call,.int .i64 o.val]] w0 fun v w=>v= .int .i64 (Z0 o:Nat)/\Below w0.heap.size w0 w:=by
 refine C.enter (n:=8) func15 rfl rfl ?_;refine U496 ?_;intro hb w b1 F1;have lt1:=F1.lq hb.size;have hb:=N0 hb F1.below;have hB1:=F1.blk;refine U13 ?_;refine U56 ?_;refine L.va (F0 rfl underlying3 rfl (hB1.E0 1 (v:=.int .i64 o.jn0) rfl)) ?_;refine L.va (pz0 (κ:=.i64) rfl rfl (by decide)) ?_;refine L.va (iz0 (κ:=.i64) rfl rfl) ?_;refine L.va (pz0 (κ:=.i64) rfl rfl (by decide)) ?_;refine U24 ?_;exact⟨by show(Value.int .i64 (Int.tmod (IntKind.i64.wrap (Int.tmod o.jn0 2+2)) 2))=_;rw[Mn0];rfl,hb⟩
end
set_option maxHeartbeats 1000000 in
theorem Hw0 {p:o4} {fb:Nat->FuncId} {q:PR (E3 p)} {w00:World} {i cb:Nat} {top:List Frame} {s:PS} {r:G5} {k:Nat} (wh vv:Int) (w0:World) (hE:R8 p w0 s r) (hc:x9 (j2 p fb q w00 i cb top) w0 (l4 (p.bo i) k s)) (ho:(p.bo i)[k]? =some (⟨1,wh,1,vv⟩:D3)) :
  @Calls prog (J0 (j2 p fb q w00 i cb top)) 39 #[.pointer (some ⟨p.tb,0,none⟩),.pointer (some ⟨cb,0,none⟩),.agg #[.int .i64 1,.int .i64 wh,.int .i64 1,.int .i64 vv]] w0 (j6 p fb q w00 i cb top k (⟨1,wh,1,vv⟩:D3) w0 fun v x=>v= .int .i64 x):=by
 letI:Ctx prog:=J0 (j2 p fb q w00 i cb top);refine U11 ?_;intro V8 k6;refine L.box (cs:=#[.int .i64 1,.int .i64 wh,.int .i64 1,.int .i64 vv]) rfl rfl (fun w b5 F5=>?_);refine U12 ?_;intro lt5 hE hc C3;refine L.va (P1 (cs:=[.int .i64 1,.int .i64 wh,.int .i64 1,.int .i64 vv]) rfl underlying52 rfl dk0 rfl (C3.z7 rfl)) ?_;refine L.call (W2 rfl func15 rfl jw0 rfl) (T8 (⟨1,wh,1,vv⟩:D3) w) ?_;rintro _ w ⟨rfl,Y1⟩;refine U10 ?_;intro hE hc C3;refine U464 ?_;refine U103 ?_;refine U468 ?_;refine L.va (L2 (r:=true) (by decide) (O4 (m:=1) (k:=1) rfl rfl)) ?_;refine U33 ?_;refine U515 ?_;refine L.va (Z1 (i:=Z0 (⟨1,wh,1,vv⟩:D3)) (n:=2) rfl rfl underlying62 Bz0 (Y0 _)) ?_;refine L.va (F0 (v:=.pointer (some ⟨p.mb 1 (Z0 (⟨1,wh,1,vv⟩:D3)),0,none⟩)) rfl underlying61 rfl (v5 hE (t:=1) (n:=Z0 (⟨1,wh,1,vv⟩:D3)) (by decide) (by decide) (Y0 _))) ?_;refine L.va (H3 rfl) ?_;rw[u5 ho]at hc;have Z4:=Hu0 hE.ok w hE hc ho rfl rfl;refine L.T3 rfl (C4 rfl rfl func20 rfl bp1 rfl) Z4 ?_ ?_ (fun _ h=>h)
 rotate_left
 ·rintro ch u ⟨Q6,hh⟩;exact⟨Q6,hh.at (hc.os.trans V8.symm) (hc.output.trans k6.symm)⟩
 rintro _ w ⟨s1,r1,m7,p8,hl1,rfl,hx⟩;refine U175 ?_;refine U40 ?_;exact⟨s1,r1,m7,p8,hl1,by show(Value.int .i64 0)= .int .i64 (G9 (⟨1,wh,1,vv⟩:D3) s1).2;rw[hx]⟩
set_option maxHeartbeats 1000000 in
theorem Hx0 {p:o4} {fb:Nat->FuncId} {q:PR (E3 p)} {w00:World} {i cb:Nat} {top:List Frame} {s:PS} {r:G5} {k:Nat} (wh vv:Int) (w0:World) (hE:R8 p w0 s r) (hc:x9 (j2 p fb q w00 i cb top) w0 (l4 (p.bo i) k s)) (ho:(p.bo i)[k]? =some (⟨1,wh,2,vv⟩:D3)) :
  @Calls prog (J0 (j2 p fb q w00 i cb top)) 39 #[.pointer (some ⟨p.tb,0,none⟩),.pointer (some ⟨cb,0,none⟩),.agg #[.int .i64 1,.int .i64 wh,.int .i64 2,.int .i64 vv]] w0 (j6 p fb q w00 i cb top k (⟨1,wh,2,vv⟩:D3) w0 fun v x=>v= .int .i64 x):=by
 letI:Ctx prog:=J0 (j2 p fb q w00 i cb top);refine U11 ?_;intro V8 k6;refine L.box (cs:=#[.int .i64 1,.int .i64 wh,.int .i64 2,.int .i64 vv]) rfl rfl (fun w b5 F5=>?_);refine U12 ?_;intro lt5 hE hc C3;refine L.va (P1 (cs:=[.int .i64 1,.int .i64 wh,.int .i64 2,.int .i64 vv]) rfl underlying52 rfl dk0 rfl (C3.z7 rfl)) ?_;refine L.call (W2 rfl func15 rfl jw0 rfl) (T8 (⟨1,wh,2,vv⟩:D3) w) ?_;rintro _ w ⟨rfl,Y1⟩;refine U10 ?_;intro hE hc C3;refine U464 ?_;refine U103 ?_;refine U469 ?_;refine L.va (L2 (r:=false) (by decide) (O4 (m:=2) (k:=1) rfl rfl)) ?_;refine U269 ?_;refine W.region rfl ?_;refine U515 ?_;refine L.va (Z1 (i:=Z0 (⟨1,wh,2,vv⟩:D3)) (n:=2) rfl rfl underlying62 Bz0 (Y0 _)) ?_;refine L.va (F0 (v:=.pointer (some ⟨p.mb 1 (Z0 (⟨1,wh,2,vv⟩:D3)),0,none⟩)) rfl underlying61 rfl (v5 hE (t:=1) (n:=Z0 (⟨1,wh,2,vv⟩:D3)) (by decide) (by decide) (Y0 _))) ?_;refine L.va (H3 rfl) ?_;rw[u5 ho]at hc;have Z4:=yy0 hE.ok w hE hc ho rfl rfl;refine L.T3 rfl (C4 rfl rfl func23 rfl bs1 rfl) Z4 ?_ ?_ (fun _ h=>h)
 rotate_left
 ·rintro ch u ⟨Q6,hh⟩;exact⟨Q6,hh.at (hc.os.trans V8.symm) (hc.output.trans k6.symm)⟩
 rintro _ w ⟨s1,r1,m7,p8,hl1,rfl,hx⟩;refine U175 ?_;refine U40 ?_;exact⟨s1,r1,m7,p8,hl1,by show(Value.int .i64 0)= .int .i64 (G9 (⟨1,wh,2,vv⟩:D3) s1).2;rw[hx]⟩
set_option maxHeartbeats 1000000 in
theorem Hy0 {p:o4} {fb:Nat->FuncId} {q:PR (E3 p)} {w00:World} {i cb:Nat} {top:List Frame} {s:PS} {r:G5} {k:Nat} (wh vv:Int) (w0:World) (hE:R8 p w0 s r) (hc:x9 (j2 p fb q w00 i cb top) w0 (l4 (p.bo i) k s)) (ho:(p.bo i)[k]? =some (⟨2,wh,1,vv⟩:D3)) :
  @Calls prog (J0 (j2 p fb q w00 i cb top)) 39 #[.pointer (some ⟨p.tb,0,none⟩),.pointer (some ⟨cb,0,none⟩),.agg #[.int .i64 2,.int .i64 wh,.int .i64 1,.int .i64 vv]] w0 (j6 p fb q w00 i cb top k (⟨2,wh,1,vv⟩:D3) w0 fun v x=>v= .int .i64 x):=by
 letI:Ctx prog:=J0 (j2 p fb q w00 i cb top);refine U11 ?_;intro V8 k6;refine L.box (cs:=#[.int .i64 2,.int .i64 wh,.int .i64 1,.int .i64 vv]) rfl rfl (fun w b5 F5=>?_);refine U12 ?_;intro lt5 hE hc C3;refine L.va (P1 (cs:=[.int .i64 2,.int .i64 wh,.int .i64 1,.int .i64 vv]) rfl underlying52 rfl dk0 rfl (C3.z7 rfl)) ?_;refine L.call (W2 rfl func15 rfl jw0 rfl) (T8 (⟨2,wh,1,vv⟩:D3) w) ?_;rintro _ w ⟨rfl,Y1⟩;refine U10 ?_;intro hE hc C3;refine U138 ?_;refine U53 ?_;refine U468 ?_;refine U0 ?_;refine U103 ?_;refine U173 ?_;refine L.va (Z1 (i:=Z0 (⟨2,wh,1,vv⟩:D3)) (n:=2) rfl rfl underlying64 vv0 (Y0 _)) ?_;refine L.va (F0 (v:=.pointer (some ⟨p.mb 2 (Z0 (⟨2,wh,1,vv⟩:D3)),0,none⟩)) rfl underlying63 rfl (v5 hE (t:=2) (n:=Z0 (⟨2,wh,1,vv⟩:D3)) (by decide) (by decide) (Y0 _))) ?_;refine L.va (H3 rfl) ?_;rw[u5 ho]at hc;have Z4:=Hv0 hE.ok w hE hc ho rfl rfl;refine L.T3 rfl (C4 rfl rfl func25 rfl bu1 rfl) Z4 ?_ ?_ (fun _ h=>h)
 rotate_left
 ·rintro ch u ⟨Q6,hh⟩;exact⟨Q6,hh.at (hc.os.trans V8.symm) (hc.output.trans k6.symm)⟩
 rintro _ w ⟨s1,r1,m7,p8,hl1,rfl,hx⟩;refine U178 ?_;refine U40 ?_;exact⟨s1,r1,m7,p8,hl1,by show(Value.int .i64 0)= .int .i64 (G9 (⟨2,wh,1,vv⟩:D3) s1).2;rw[hx]⟩
set_option maxHeartbeats 1000000 in
theorem Hz0 {p:o4} {fb:Nat->FuncId} {q:PR (E3 p)} {w00:World} {i cb:Nat} {top:List Frame} {s:PS} {r:G5} {k:Nat} (wh vv:Int) (w0:World) (hE:R8 p w0 s r) (hc:x9 (j2 p fb q w00 i cb top) w0 (l4 (p.bo i) k s)) (ho:(p.bo i)[k]? =some (⟨2,wh,2,vv⟩:D3)) :
  @Calls prog (J0 (j2 p fb q w00 i cb top)) 39 #[.pointer (some ⟨p.tb,0,none⟩),.pointer (some ⟨cb,0,none⟩),.agg #[.int .i64 2,.int .i64 wh,.int .i64 2,.int .i64 vv]] w0 (j6 p fb q w00 i cb top k (⟨2,wh,2,vv⟩:D3) w0 fun v x=>v= .int .i64 x):=by
 letI:Ctx prog:=J0 (j2 p fb q w00 i cb top);refine U11 ?_;intro V8 k6;refine L.box (cs:=#[.int .i64 2,.int .i64 wh,.int .i64 2,.int .i64 vv]) rfl rfl (fun w b5 F5=>?_);refine U12 ?_;intro lt5 hE hc C3;refine L.va (P1 (cs:=[.int .i64 2,.int .i64 wh,.int .i64 2,.int .i64 vv]) rfl underlying52 rfl dk0 rfl (C3.z7 rfl)) ?_;refine L.call (W2 rfl func15 rfl jw0 rfl) (T8 (⟨2,wh,2,vv⟩:D3) w) ?_;rintro _ w ⟨rfl,Y1⟩;refine U10 ?_;intro hE hc C3;refine U138 ?_;refine U53 ?_;refine U469 ?_;refine U0 ?_;refine U53 ?_;refine U173 ?_;refine L.va (Z1 (i:=Z0 (⟨2,wh,2,vv⟩:D3)) (n:=2) rfl rfl underlying64 vv0 (Y0 _)) ?_;refine L.va (F0 (v:=.pointer (some ⟨p.mb 2 (Z0 (⟨2,wh,2,vv⟩:D3)),0,none⟩)) rfl underlying63 rfl (v5 hE (t:=2) (n:=Z0 (⟨2,wh,2,vv⟩:D3)) (by decide) (by decide) (Y0 _))) ?_;refine L.va (H3 rfl) ?_;rw[u5 ho]at hc;have Z4:=yz0 hE.ok w hE hc ho rfl rfl;refine L.T3 rfl (C4 rfl rfl func27 rfl bw1 rfl) Z4 ?_ ?_ (fun _ h=>h)
 rotate_left
 ·rintro ch u ⟨Q6,hh⟩;exact⟨Q6,hh.at (hc.os.trans V8.symm) (hc.output.trans k6.symm)⟩
 rintro _ w ⟨s1,r1,m7,p8,hl1,rfl,hx⟩;refine U178 ?_;refine U40 ?_;exact⟨s1,r1,m7,p8,hl1,by show(Value.int .i64 0)= .int .i64 (G9 (⟨2,wh,2,vv⟩:D3) s1).2;rw[hx]⟩
set_option maxHeartbeats 1000000 in
theorem Ia0 {p:o4} {fb:Nat->FuncId} {q:PR (E3 p)} {w00:World} {i cb:Nat} {top:List Frame} {s:PS} {r:G5} {k:Nat} (wh vv:Int) (w0:World) (hE:R8 p w0 s r) (hc:x9 (j2 p fb q w00 i cb top) w0 (l4 (p.bo i) k s)) (ho:(p.bo i)[k]? =some (⟨2,wh,3,vv⟩:D3)) :
  @Calls prog (J0 (j2 p fb q w00 i cb top)) 39 #[.pointer (some ⟨p.tb,0,none⟩),.pointer (some ⟨cb,0,none⟩),.agg #[.int .i64 2,.int .i64 wh,.int .i64 3,.int .i64 vv]] w0 (j6 p fb q w00 i cb top k (⟨2,wh,3,vv⟩:D3) w0 fun v x=>v= .int .i64 x):=by
 letI:Ctx prog:=J0 (j2 p fb q w00 i cb top);refine U11 ?_;intro V8 k6;refine L.box (cs:=#[.int .i64 2,.int .i64 wh,.int .i64 3,.int .i64 vv]) rfl rfl (fun w b5 F5=>?_);refine U12 ?_;intro lt5 hE hc C3;refine L.va (P1 (cs:=[.int .i64 2,.int .i64 wh,.int .i64 3,.int .i64 vv]) rfl underlying52 rfl dk0 rfl (C3.z7 rfl)) ?_;refine L.call (W2 rfl func15 rfl jw0 rfl) (T8 (⟨2,wh,3,vv⟩:D3) w) ?_;rintro _ w ⟨rfl,Y1⟩;refine U10 ?_;intro hE hc C3;refine U138 ?_;refine U53 ?_;refine U56 ?_;refine L.va (F0 rfl underlying3 rfl (C3.E0 2 (v:=.int .i64 3) rfl)) ?_;refine U0 ?_;refine U139 ?_;refine U5 ?_;refine U140 ?_;refine U141 ?_;refine U173 ?_;refine L.va (Z1 (i:=Z0 (⟨2,wh,3,vv⟩:D3)) (n:=2) rfl rfl underlying64 vv0 (Y0 _)) ?_;refine L.va (F0 (v:=.pointer (some ⟨p.mb 2 (Z0 (⟨2,wh,3,vv⟩:D3)),0,none⟩)) rfl underlying63 rfl (v5 hE (t:=2) (n:=Z0 (⟨2,wh,3,vv⟩:D3)) (by decide) (by decide) (Y0 _))) ?_;refine L.va (H3 rfl) ?_;rw[u5 ho]at hc;have Z4:=Cq0 hE.ok w hE hc ho rfl rfl;refine L.T3 rfl (C4 rfl rfl func28 rfl bx1 rfl) Z4 ?_ ?_ (fun _ h=>h)
 rotate_left
 ·rintro ch u ⟨Q6,hh⟩;exact⟨Q6,hh.at (hc.os.trans V8.symm) (hc.output.trans k6.symm)⟩
 rintro _ w ⟨s1,r1,m7,p8,hl1,rfl,hx⟩;refine U178 ?_;refine U40 ?_;exact⟨s1,r1,m7,p8,hl1,by show(Value.int .i64 0)= .int .i64 (G9 (⟨2,wh,3,vv⟩:D3) s1).2;rw[hx]⟩
set_option maxHeartbeats 1000000 in
theorem Ib0 {p:o4} {fb:Nat->FuncId} {q:PR (E3 p)} {w00:World} {i cb:Nat} {top:List Frame} {s:PS} {r:G5} {k:Nat} (wh vv:Int) (w0:World) (hE:R8 p w0 s r) (hc:x9 (j2 p fb q w00 i cb top) w0 (l4 (p.bo i) k s)) (ho:(p.bo i)[k]? =some (⟨2,wh,4,vv⟩:D3)) :
  @Calls prog (J0 (j2 p fb q w00 i cb top)) 39 #[.pointer (some ⟨p.tb,0,none⟩),.pointer (some ⟨cb,0,none⟩),.agg #[.int .i64 2,.int .i64 wh,.int .i64 4,.int .i64 vv]] w0 (j6 p fb q w00 i cb top k (⟨2,wh,4,vv⟩:D3) w0 fun v x=>v= .int .i64 x):=by
 letI:Ctx prog:=J0 (j2 p fb q w00 i cb top);refine U11 ?_;intro V8 k6;refine L.box (cs:=#[.int .i64 2,.int .i64 wh,.int .i64 4,.int .i64 vv]) rfl rfl (fun w b5 F5=>?_);refine U12 ?_;intro lt5 hE hc C3;refine L.va (P1 (cs:=[.int .i64 2,.int .i64 wh,.int .i64 4,.int .i64 vv]) rfl underlying52 rfl dk0 rfl (C3.z7 rfl)) ?_;refine L.call (W2 rfl func15 rfl jw0 rfl) (T8 (⟨2,wh,4,vv⟩:D3) w) ?_;rintro _ w ⟨rfl,Y1⟩;refine U10 ?_;intro hE hc C3;refine U138 ?_;refine U53 ?_;refine U56 ?_;refine L.va (F0 rfl underlying3 rfl (C3.E0 2 (v:=.int .i64 4) rfl)) ?_;refine U0 ?_;refine U105 ?_;refine U173 ?_;refine L.va (Z1 (i:=Z0 (⟨2,wh,4,vv⟩:D3)) (n:=2) rfl rfl underlying64 vv0 (Y0 _)) ?_;refine L.va (F0 (v:=.pointer (some ⟨p.mb 2 (Z0 (⟨2,wh,4,vv⟩:D3)),0,none⟩)) rfl underlying63 rfl (v5 hE (t:=2) (n:=Z0 (⟨2,wh,4,vv⟩:D3)) (by decide) (by decide) (Y0 _))) ?_;refine L.va (H3 rfl) ?_;rw[u5 ho]at hc;have Z4:=wr0 hE.ok w hE hc ho rfl rfl;refine L.T3 rfl (C4 rfl rfl func30 rfl bz1 rfl) Z4 ?_ ?_ (fun _ h=>h)
 rotate_left
 ·rintro ch u ⟨Q6,hh⟩;exact⟨Q6,hh.at (hc.os.trans V8.symm) (hc.output.trans k6.symm)⟩
 rintro _ w ⟨s1,r1,m7,p8,hl1,rfl,hx⟩;refine U178 ?_;refine U40 ?_;exact⟨s1,r1,m7,p8,hl1,by show(Value.int .i64 0)= .int .i64 (G9 (⟨2,wh,4,vv⟩:D3) s1).2;rw[hx]⟩
set_option maxHeartbeats 1000000 in
theorem Ic0 {p:o4} {fb:Nat->FuncId} {q:PR (E3 p)} {w00:World} {i cb:Nat} {top:List Frame} {s:PS} {r:G5} {k:Nat} (wh vv:Int) (w0:World) (hE:R8 p w0 s r) (hc:x9 (j2 p fb q w00 i cb top) w0 (l4 (p.bo i) k s)) (ho:(p.bo i)[k]? =some (⟨3,wh,7,vv⟩:D3)) :
  @Calls prog (J0 (j2 p fb q w00 i cb top)) 39 #[.pointer (some ⟨p.tb,0,none⟩),.pointer (some ⟨cb,0,none⟩),.agg #[.int .i64 3,.int .i64 wh,.int .i64 7,.int .i64 vv]] w0 (j6 p fb q w00 i cb top k (⟨3,wh,7,vv⟩:D3) w0 fun v x=>v= .int .i64 x):=by
 letI:Ctx prog:=J0 (j2 p fb q w00 i cb top);refine U11 ?_;intro V8 k6;refine L.box (cs:=#[.int .i64 3,.int .i64 wh,.int .i64 7,.int .i64 vv]) rfl rfl (fun w b5 F5=>?_);refine U12 ?_;intro lt5 hE hc C3;refine L.va (P1 (cs:=[.int .i64 3,.int .i64 wh,.int .i64 7,.int .i64 vv]) rfl underlying52 rfl dk0 rfl (C3.z7 rfl)) ?_;refine L.call (W2 rfl func15 rfl jw0 rfl) (T8 (⟨3,wh,7,vv⟩:D3) w) ?_;rintro _ w ⟨rfl,Y1⟩;refine U10 ?_;intro hE hc C3;refine U465 ?_;refine U139 ?_;refine U5 ?_;refine U140 ?_;refine U141 ?_;refine U46 ?_;refine L.va (F0 rfl underlying3 rfl (C3.E0 2 (v:=.int .i64 7) rfl)) ?_;refine L.va (L2 (r:=true) (by decide) (O4 (m:=7) (k:=7) rfl rfl)) ?_;refine U31 ?_;refine W.seq ?_;refine U208 ?_;refine U235 ?_;refine D.va (fun w' N2=>(K0 rfl underlying72 rfl Qn0 (by decide))) ?_;refine D.va (fun w' N2=>(Z1 (i:=Z0 (⟨3,wh,7,vv⟩:D3)) (n:=2) rfl rfl underlying66 Ca0 (Y0 _))) ?_;refine D.va (fun w' N2=>(F0 (v:=.pointer (some ⟨p.sb 3 (Z0 (⟨3,wh,7,vv⟩:D3)),0,none⟩)) rfl underlying65 rfl (v5 (hE.A0 N2) (t:=3) (n:=Z0 (⟨3,wh,7,vv⟩:D3)) (by decide) (by decide) (Y0 _)))) ?_;refine U250 ?_;refine D.nil (fun w Y1=>?_);refine U90 ?_;intro hE hc;clear Y1;rw[u5 ho]at hc;have Z4:=Mm0 hE.ok w hE hc ho rfl rfl;refine L.T3 rfl (N7 rfl rfl rfl func24 rfl bt1 rfl) Z4 ?_ ?_ (fun _ h=>h)
 rotate_left
 ·rintro ch u ⟨Q6,hh⟩;exact⟨Q6,hh.at (hc.os.trans V8.symm) (hc.output.trans k6.symm)⟩
 rintro _ w ⟨s1,r1,m7,p8,hl1,rfl⟩;exact U179
set_option maxHeartbeats 1000000 in
theorem Id0 {p:o4} {fb:Nat->FuncId} {q:PR (E3 p)} {w00:World} {i cb:Nat} {top:List Frame} {s:PS} {r:G5} {k:Nat} (wh vv:Int) (w0:World) (hE:R8 p w0 s r) (hc:x9 (j2 p fb q w00 i cb top) w0 (l4 (p.bo i) k s)) (ho:(p.bo i)[k]? =some (⟨3,wh,5,vv⟩:D3)) :
  @Calls prog (J0 (j2 p fb q w00 i cb top)) 39 #[.pointer (some ⟨p.tb,0,none⟩),.pointer (some ⟨cb,0,none⟩),.agg #[.int .i64 3,.int .i64 wh,.int .i64 5,.int .i64 vv]] w0 (j6 p fb q w00 i cb top k (⟨3,wh,5,vv⟩:D3) w0 fun v x=>v= .int .i64 x):=by
 letI:Ctx prog:=J0 (j2 p fb q w00 i cb top);refine U11 ?_;intro V8 k6;refine L.box (cs:=#[.int .i64 3,.int .i64 wh,.int .i64 5,.int .i64 vv]) rfl rfl (fun w b5 F5=>?_);refine U12 ?_;intro lt5 hE hc C3;refine L.va (P1 (cs:=[.int .i64 3,.int .i64 wh,.int .i64 5,.int .i64 vv]) rfl underlying52 rfl dk0 rfl (C3.z7 rfl)) ?_;refine L.call (W2 rfl func15 rfl jw0 rfl) (T8 (⟨3,wh,5,vv⟩:D3) w) ?_;rintro _ w ⟨rfl,Y1⟩;refine U10 ?_;intro hE hc C3;refine U465 ?_;refine U139 ?_;refine U5 ?_;refine U140 ?_;refine U141 ?_;refine U470 ?_;refine L.va (L2 (r:=false) (by decide) (O4 (m:=5) (k:=7) rfl rfl)) ?_;refine U163 ?_;refine U87 ?_;refine L.va (K0 rfl underlying72 rfl Qn0 (by decide)) ?_;refine L.va (Z1 (i:=Z0 (⟨3,wh,5,vv⟩:D3)) (n:=2) rfl rfl underlying66 Ca0 (Y0 _)) ?_;refine L.va (F0 (v:=.pointer (some ⟨p.sb 3 (Z0 (⟨3,wh,5,vv⟩:D3)),0,none⟩)) rfl underlying65 rfl (v5 hE (t:=3) (n:=Z0 (⟨3,wh,5,vv⟩:D3)) (by decide) (by decide) (Y0 _))) ?_;refine L.va (H3 rfl) ?_;rw[u5 ho]at hc;have Z4:=Mj0 hE.ok w hE hc ho rfl rfl;refine L.T3 rfl (C4 rfl rfl func34 rfl cb1 rfl) Z4 ?_ ?_ (fun _ h=>h)
 rotate_left
 ·rintro ch u ⟨Q6,hh⟩;exact⟨Q6,hh.at (hc.os.trans V8.symm) (hc.output.trans k6.symm)⟩
 rintro _ w ⟨s1,r1,m7,p8,hl1,rfl⟩;exact U179
set_option maxHeartbeats 1000000 in
theorem Ie0 {p:o4} {fb:Nat->FuncId} {q:PR (E3 p)} {w00:World} {i cb:Nat} {top:List Frame} {s:PS} {r:G5} {k:Nat} (wh vv:Int) (w0:World) (hE:R8 p w0 s r) (hc:x9 (j2 p fb q w00 i cb top) w0 (l4 (p.bo i) k s)) (ho:(p.bo i)[k]? =some (⟨4,wh,5,vv⟩:D3)) :
  @Calls prog (J0 (j2 p fb q w00 i cb top)) 39 #[.pointer (some ⟨p.tb,0,none⟩),.pointer (some ⟨cb,0,none⟩),.agg #[.int .i64 4,.int .i64 wh,.int .i64 5,.int .i64 vv]] w0 (j6 p fb q w00 i cb top k (⟨4,wh,5,vv⟩:D3) w0 fun v x=>v= .int .i64 x):=by
 letI:Ctx prog:=J0 (j2 p fb q w00 i cb top);refine U11 ?_;intro V8 k6;refine L.box (cs:=#[.int .i64 4,.int .i64 wh,.int .i64 5,.int .i64 vv]) rfl rfl (fun w b5 F5=>?_);refine U12 ?_;intro lt5 hE hc C3;refine L.va (P1 (cs:=[.int .i64 4,.int .i64 wh,.int .i64 5,.int .i64 vv]) rfl underlying52 rfl dk0 rfl (C3.z7 rfl)) ?_;refine L.call (W2 rfl func15 rfl jw0 rfl) (T8 (⟨4,wh,5,vv⟩:D3) w) ?_;rintro _ w ⟨rfl,Y1⟩;refine U10 ?_;intro hE hc C3;refine U466 ?_;refine U105 ?_;refine U470 ?_;refine L.va (L2 (r:=true) (by decide) (O4 (m:=5) (k:=5) rfl rfl)) ?_;refine U31 ?_;refine U3 ?_;refine U87 ?_;refine L.va (K0 rfl underlying72 rfl Qo0 (by decide)) ?_;refine L.va (Z1 (i:=Z0 (⟨4,wh,5,vv⟩:D3)) (n:=2) rfl rfl underlying68 Cb0 (Y0 _)) ?_;refine L.va (F0 (v:=.pointer (some ⟨p.sb 4 (Z0 (⟨4,wh,5,vv⟩:D3)),0,none⟩)) rfl underlying67 rfl (v5 hE (t:=4) (n:=Z0 (⟨4,wh,5,vv⟩:D3)) (by decide) (by decide) (Y0 _))) ?_;refine L.va (H3 rfl) ?_;rw[u5 ho]at hc;have Z4:=Mi0 hE.ok w hE hc ho rfl rfl;refine L.T3 rfl (C4 rfl rfl func29 rfl by1 rfl) Z4 ?_ ?_ (fun _ h=>h)
 rotate_left
 ·rintro ch u ⟨Q6,hh⟩;exact⟨Q6,hh.at (hc.os.trans V8.symm) (hc.output.trans k6.symm)⟩
 rintro _ w ⟨s1,r1,m7,p8,hl1,rfl⟩;exact U179
set_option maxHeartbeats 1000000 in
theorem If0 {p:o4} {fb:Nat->FuncId} {q:PR (E3 p)} {w00:World} {i cb:Nat} {top:List Frame} {s:PS} {r:G5} {k:Nat} (wh vv:Int) (w0:World) (hE:R8 p w0 s r) (hc:x9 (j2 p fb q w00 i cb top) w0 (l4 (p.bo i) k s)) (ho:(p.bo i)[k]? =some (⟨4,wh,6,vv⟩:D3)) :
  @Calls prog (J0 (j2 p fb q w00 i cb top)) 39 #[.pointer (some ⟨p.tb,0,none⟩),.pointer (some ⟨cb,0,none⟩),.agg #[.int .i64 4,.int .i64 wh,.int .i64 6,.int .i64 vv]] w0 (j6 p fb q w00 i cb top k (⟨4,wh,6,vv⟩:D3) w0 fun v x=>v= .int .i64 x):=by
 letI:Ctx prog:=J0 (j2 p fb q w00 i cb top);refine U11 ?_;intro V8 k6;refine L.box (cs:=#[.int .i64 4,.int .i64 wh,.int .i64 6,.int .i64 vv]) rfl rfl (fun w b5 F5=>?_);refine U12 ?_;intro lt5 hE hc C3;refine L.va (P1 (cs:=[.int .i64 4,.int .i64 wh,.int .i64 6,.int .i64 vv]) rfl underlying52 rfl dk0 rfl (C3.z7 rfl)) ?_;refine L.call (W2 rfl func15 rfl jw0 rfl) (T8 (⟨4,wh,6,vv⟩:D3) w) ?_;rintro _ w ⟨rfl,Y1⟩;refine U10 ?_;intro hE hc C3;refine U466 ?_;refine U105 ?_;refine U46 ?_;refine L.va (F0 rfl underlying3 rfl (C3.E0 2 (v:=.int .i64 6) rfl)) ?_;refine L.va (L2 (r:=false) (by decide) (O4 (m:=6) (k:=5) rfl rfl)) ?_;refine U86 ?_;refine U208 ?_;refine U235 ?_;refine D.va (fun w' N2=>(K0 rfl underlying72 rfl Qo0 (by decide))) ?_;refine D.va (fun w' N2=>(Z1 (i:=Z0 (⟨4,wh,6,vv⟩:D3)) (n:=2) rfl rfl underlying68 Cb0 (Y0 _))) ?_;refine D.va (fun w' N2=>(F0 (v:=.pointer (some ⟨p.sb 4 (Z0 (⟨4,wh,6,vv⟩:D3)),0,none⟩)) rfl underlying67 rfl (v5 (hE.A0 N2) (t:=4) (n:=Z0 (⟨4,wh,6,vv⟩:D3)) (by decide) (by decide) (Y0 _)))) ?_;refine U250 ?_;refine D.nil (fun w Y1=>?_);refine U90 ?_;intro hE hc;clear Y1;rw[u5 ho]at hc;have Z4:=Ml0 hE.ok w hE hc ho rfl rfl;refine L.T3 rfl (N7 rfl rfl rfl func26 rfl bv1 rfl) Z4 ?_ ?_ (fun _ h=>h)
 rotate_left
 ·rintro ch u ⟨Q6,hh⟩;exact⟨Q6,hh.at (hc.os.trans V8.symm) (hc.output.trans k6.symm)⟩
 rintro _ w ⟨s1,r1,m7,p8,hl1,rfl,hx⟩;refine U175 ?_;refine U40 ?_;exact⟨s1,r1,m7,p8,hl1,by show(Value.int .i64 0)= .int .i64 (G9 (⟨4,wh,6,vv⟩:D3) s1).2;rw[hx]⟩
set_option maxHeartbeats 1000000 in
theorem Ig0 {p:o4} {fb:Nat->FuncId} {q:PR (E3 p)} {w00:World} {i cb:Nat} {top:List Frame} {s:PS} {r:G5} {k:Nat} (wh vv:Int) (w0:World) (hE:R8 p w0 s r) (hc:x9 (j2 p fb q w00 i cb top) w0 (l4 (p.bo i) k s)) (ho:(p.bo i)[k]? =some (⟨5,wh,8,vv⟩:D3)) :
  @Calls prog (J0 (j2 p fb q w00 i cb top)) 39 #[.pointer (some ⟨p.tb,0,none⟩),.pointer (some ⟨cb,0,none⟩),.agg #[.int .i64 5,.int .i64 wh,.int .i64 8,.int .i64 vv]] w0 (j6 p fb q w00 i cb top k (⟨5,wh,8,vv⟩:D3) w0 fun v x=>v= .int .i64 x):=by
 letI:Ctx prog:=J0 (j2 p fb q w00 i cb top);refine U11 ?_;intro V8 k6;refine L.box (cs:=#[.int .i64 5,.int .i64 wh,.int .i64 8,.int .i64 vv]) rfl rfl (fun w b5 F5=>?_);refine U12 ?_;intro lt5 hE hc C3;refine L.va (P1 (cs:=[.int .i64 5,.int .i64 wh,.int .i64 8,.int .i64 vv]) rfl underlying52 rfl dk0 rfl (C3.z7 rfl)) ?_;refine L.call (W2 rfl func15 rfl jw0 rfl) (T8 (⟨5,wh,8,vv⟩:D3) w) ?_;rintro _ w ⟨rfl,Y1⟩;refine U10 ?_;intro hE hc C3;refine U467 ?_;refine U473 ?_;refine U5 ?_;refine U476 ?_;refine U475 ?_;refine U474 ?_;refine U479 ?_;refine U46 ?_;refine L.va (F0 rfl underlying3 rfl (C3.E0 2 (v:=.int .i64 8) rfl)) ?_;refine L.va (L2 (r:=true) (by decide) (O4 (m:=8) (k:=8) rfl rfl)) ?_;refine U31 ?_;refine U3 ?_;refine U87 ?_;refine L.va (K0 rfl underlying72 rfl Qp0 (by decide)) ?_;refine L.va (Z1 (i:=Z0 (⟨5,wh,8,vv⟩:D3)) (n:=2) rfl rfl underlying70 Cc0 (Y0 _)) ?_;refine L.va (F0 (v:=.pointer (some ⟨p.sb 5 (Z0 (⟨5,wh,8,vv⟩:D3)),0,none⟩)) rfl underlying69 rfl (v5 hE (t:=5) (n:=Z0 (⟨5,wh,8,vv⟩:D3)) (by decide) (by decide) (Y0 _))) ?_;refine L.va (H3 rfl) ?_;rw[u5 ho]at hc;have Z4:=Mh0 hE.ok w hE hc ho rfl rfl;refine L.T3 rfl (C4 rfl rfl func22 rfl br1 rfl) Z4 ?_ ?_ (fun _ h=>h)
 rotate_left
 ·rintro ch u ⟨Q6,hh⟩;exact⟨Q6,hh.at (hc.os.trans V8.symm) (hc.output.trans k6.symm)⟩
 rintro _ w ⟨s1,r1,m7,p8,hl1,rfl⟩;exact U179
set_option maxHeartbeats 1000000 in
theorem Ih0 {p:o4} {fb:Nat->FuncId} {q:PR (E3 p)} {w00:World} {i cb:Nat} {top:List Frame} {s:PS} {r:G5} {k:Nat} (wh vv:Int) (w0:World) (hE:R8 p w0 s r) (hc:x9 (j2 p fb q w00 i cb top) w0 (l4 (p.bo i) k s)) (ho:(p.bo i)[k]? =some (⟨5,wh,9,vv⟩:D3)) :
  @Calls prog (J0 (j2 p fb q w00 i cb top)) 39 #[.pointer (some ⟨p.tb,0,none⟩),.pointer (some ⟨cb,0,none⟩),.agg #[.int .i64 5,.int .i64 wh,.int .i64 9,.int .i64 vv]] w0 (j6 p fb q w00 i cb top k (⟨5,wh,9,vv⟩:D3) w0 fun v x=>v= .int .i64 x):=by
 letI:Ctx prog:=J0 (j2 p fb q w00 i cb top);refine U11 ?_;intro V8 k6;refine L.box (cs:=#[.int .i64 5,.int .i64 wh,.int .i64 9,.int .i64 vv]) rfl rfl (fun w b5 F5=>?_);refine U12 ?_;intro lt5 hE hc C3;refine L.va (P1 (cs:=[.int .i64 5,.int .i64 wh,.int .i64 9,.int .i64 vv]) rfl underlying52 rfl dk0 rfl (C3.z7 rfl)) ?_;refine L.call (W2 rfl func15 rfl jw0 rfl) (T8 (⟨5,wh,9,vv⟩:D3) w) ?_;rintro _ w ⟨rfl,Y1⟩;refine U10 ?_;intro hE hc C3;refine U467 ?_;refine U473 ?_;refine U5 ?_;refine U476 ?_;refine U475 ?_;refine U474 ?_;refine U479 ?_;refine U46 ?_;refine L.va (F0 rfl underlying3 rfl (C3.E0 2 (v:=.int .i64 9) rfl)) ?_;refine L.va (L2 (r:=false) (by decide) (O4 (m:=9) (k:=8) rfl rfl)) ?_;refine U86 ?_;refine U208 ?_;refine U235 ?_;refine D.va (fun w' N2=>(K0 rfl underlying72 rfl Qp0 (by decide))) ?_;refine D.va (fun w' N2=>(Z1 (i:=Z0 (⟨5,wh,9,vv⟩:D3)) (n:=2) rfl rfl underlying70 Cc0 (Y0 _))) ?_;refine D.va (fun w' N2=>(F0 (v:=.pointer (some ⟨p.sb 5 (Z0 (⟨5,wh,9,vv⟩:D3)),0,none⟩)) rfl underlying69 rfl (v5 (hE.A0 N2) (t:=5) (n:=Z0 (⟨5,wh,9,vv⟩:D3)) (by decide) (by decide) (Y0 _)))) ?_;refine U250 ?_;refine D.nil (fun w Y1=>?_);refine U90 ?_;intro hE hc;clear Y1;rw[u5 ho]at hc;have Z4:=Mk0 hE.ok w hE hc ho rfl rfl;refine L.T3 rfl (N7 rfl rfl rfl func21 rfl bq1 rfl) Z4 ?_ ?_ (fun _ h=>h)
 rotate_left
 ·rintro ch u ⟨Q6,hh⟩;exact⟨Q6,hh.at (hc.os.trans V8.symm) (hc.output.trans k6.symm)⟩
 rintro _ w ⟨s1,r1,m7,p8,hl1,rfl,hx⟩;refine U175 ?_;refine U40 ?_;exact⟨s1,r1,m7,p8,hl1,by show(Value.int .i64 0)= .int .i64 (G9 (⟨5,wh,9,vv⟩:D3) s1).2;rw[hx]⟩
end Go.Vy.Sc
end
section
namespace Go.Vy
open Go Go.Yc Go.RowKit
open Go.Vc
theorem W.fp {P:Program} [Ctx P] {n:Nat} {id:Nat} {l:List Oper} {Q:Exit->Env->World->Prop} {e:Env} {w:World} (k:Nat) (ch aw:List Nat) (os:List Nat) (PQ:List PanicEntry->World->Prop) (K:World->Prop) (hm:P.follows .mixedOrders=true) (hB:Ac0 n l.toArray k=true) (hA:nt0 l k=true) (hk:Nat.ble k l.length=true) (hO:Ab0 l k (fun i=>ch.contains i) os=true) (hal:Vc0 l os (fun i=>aw.contains i)=true)
  (hPQ:∀c w e,PQ c w->Q (.panic c) e w) (hK:K w.drew) (h:FP P n l PQ (fun i=>ch.contains i) (fun i=>aw.contains i) (fun e' w'=>L P n l.toArray Q (l.drop k) e' w') os K e w.drew):W P n (.region id l.toArray true) Q e w:=by
 intro a ha;refine wp_region_draw fun t=>?_;simp only[Region.schedule,hm,Bool.true_or,if_true];have R5:=lb0 l.toArray l.toArray.size t (Array.replicate l.toArray.size false) (by simp) (by simp);unfold Region.linearise;generalize Region.linearise.go .any l.toArray l.toArray.size t (Array.replicate l.toArray.size false) []=σ at R5⊢;exact Ns0 (Ad0 hB) hA (Nat.le_of_ble_eq_true hk) (vk0 (di0 R5) (fun p hp=>by cases hp) hO) (Ko0 (di0 R5) hal) R5 (di0 R5) hPQ hK h ha
end Go.Vy
end
section
namespace Go.Vy.Sc
open Go Go.Conc Go.Yc Go.RowKit Go.Proofs Go.Proofs.YtnifpkopeheodaaGreat Tryz
open Go.Vc Go.Wg
theorem Sh0 {p:o4} {fb:Nat->FuncId} {q:PR (E3 p)} {w00:World} {i cb:Nat} {top:List Frame} {s:PS} {r:G5} {k:Nat} {o:D3} (w0:World) (hE:R8 p w0 s r) (hc:x9 (j2 p fb q w00 i cb top) w0 (l4 (p.bo i) k s)) (ho:(p.bo i)[k]? =some o) :
  @Calls prog (J0 (j2 p fb q w00 i cb top)) 39 #[.pointer (some ⟨p.tb,0,none⟩),.pointer (some ⟨cb,0,none⟩),.agg #[.int .i64 o.c5,.int .i64 o.jn0,.int .i64 o.call,.int .i64 o.val]] w0 (j6 p fb q w00 i cb top k o w0 fun v x=>v= .int .i64 x):=by
 have hk:=hE.ok.ops i o (List.mem_of_getElem? ho);obtain⟨th,wh,ca,vv⟩:=o;rcases hk with⟨h,h2|h2⟩|⟨h,h2|h2|h2|h2⟩|⟨h,h2|h2⟩|⟨h,h2|h2⟩|⟨h,h2|h2⟩ <;> simp only at h h2 <;> subst h <;> subst h2
 ·exact Hw0 wh vv w0 hE hc ho
 ·exact Hx0 wh vv w0 hE hc ho
 ·exact Hy0 wh vv w0 hE hc ho
 ·exact Hz0 wh vv w0 hE hc ho
 ·exact Ia0 wh vv w0 hE hc ho
 ·exact Ib0 wh vv w0 hE hc ho
 ·exact Id0 wh vv w0 hE hc ho
 ·exact Ic0 wh vv w0 hE hc ho
 ·exact Ie0 wh vv w0 hE hc ho
 ·exact If0 wh vv w0 hE hc ho
 ·exact Ig0 wh vv w0 hE hc ho
 ·exact Ih0 wh vv w0 hE hc ho
structure fg0 (w:World) (oa:Option Addr) (ops:List D3):Prop where
 sl:SL oa ops.length
 cell:∀(k:Nat) (o:D3),ops[k]? =some o->∀(j:Nat) (v:Value),(yt0 o)[j]? =some v->w.cell? ⟨ab oa,ao oa+k*4+j,none⟩=some v
theorem fg0.A0 {w w':World} {oa:Option Addr} {ops:List D3} (h:fg0 w oa ops) (hb:Below w.heap.size w w'):fg0 w' oa ops:=⟨h.sl,fun k o ho j v hj=>eg0 (h.cell k o ho j v hj) hb⟩
structure ow0 (p:o4) (i ob bp tp:Nat) (oa:Option Addr) (oc:Nat):Prop where
 rob:p.RO ob
 rbp:p.RO bp
 rtp:p.RO tp
 roa:0<(p.bo i).length->p.RO (ab oa)
 hob:Q0 p.wI ob #[.slice oa (p.bo i).length oc] 50
 hbp:Q0 p.wI bp #[.pointer (some ⟨p.tb,0,none⟩)] 54
 htp:Q0 p.wI tp #[.slice (some ⟨p.lgb,0,none⟩) p.m p.m] 31
 ops:fg0 p.wI oa (p.bo i)
 len:(p.bo i).length <=100000
section
variable {p:o4}{w:World}{s:PS}{r:G5}{i ob bp tp oc:Nat}{oa:Option Addr}
theorem ow0.ob_ (h:ow0 p i ob bp tp oa oc) (hE:R8 p w s r):Q0 w ob #[.slice oa (p.bo i).length oc] 50:=(hE.mem.ro ob h.rob).trans h.hob
theorem ow0.bp_ (h:ow0 p i ob bp tp oa oc) (hE:R8 p w s r):Q0 w bp #[.pointer (some ⟨p.tb,0,none⟩)] 54:=(hE.mem.ro bp h.rbp).trans h.hbp
theorem ow0.tp_ (h:ow0 p i ob bp tp oa oc) (hE:R8 p w s r):Q0 w tp #[.slice (some ⟨p.lgb,0,none⟩) p.m p.m] 31:=(hE.mem.ro tp h.rtp).trans h.htp
theorem ow0.ec1 (h:ow0 p i ob bp tp oa oc) (hE:R8 p w s r):fg0 w oa (p.bo i):=⟨h.ops.sl,fun k o ho j v hj=>by
 have hl:0<(p.bo i).length:=by have:=(List.getElem?_eq_some_iff.1 ho).1;omega
 rw[(y5 (u:=p.wI) (u':=w) (a:=⟨ab oa,ao oa+k*4+j,none⟩) (hE.mem.ro _ (h.roa hl))).1];exact h.ops.cell k o ho j v hj⟩
end
theorem Cr0 {K:M8 prog} {f:FuncId} {args:Array Value} {u:World} (hf:K.Ey0=f) (h:@Calls prog (J0 K) f args u (fun e w=>∃F,K.xx0 w F e)):l8 K (G (Frame.enter prog f args .normal) K.top) u :=
 h (l8 K) rfl K.top fun _e _w' _fr he h3 h4=>.done (h3.trans hf.symm) h4 he.choose_spec
section
variable {p:o4}{w w2 w3:World}{s:PS}{r:G5}
abbrev Ii0 (l:List Int):List Value:=l.map (.int .i64 ·)
theorem R8.Si0 (h:R8 p w s r) {i:Nat} (hi:i<p.m) {la':Option Addr} {lc':Nat} (a:Int)
  (hO:Own w2 p.B 2 1 la' ((s.K3 i).length+1) lc' (Ii0 (s.K3 i) ++ [.int .i64 a])) (hga:w.grownBy w2 (Value.ownBlock (.slice (r.la i) (s.K3 i).length (r.lc i)))) (hwh:la'≠none->(r.la i≠none/\ab la'=ab (r.la i))\/w.heap.size <=ab la')
  (hG:Q0 w3 p.lgb (arr p.m fun j=>.slice (upN r.la i la' j) (upN s.K3 i (s.K3 i ++ [a]) j).length (upN r.lc i lc' j)) 45) (hg:w2.grownBy w3 (some p.lgb)):R8 p w3 (aq0 i (s,a)) ⟨upN r.la i la',upN r.lc i lc'⟩:=by
 obtain⟨hp,hr⟩:=h;have Yo0:=rz0 (hr.hL i hi);have stay:∀b,b<w.heap.size->b≠p.lgb->(r.la i≠none->b≠ab (r.la i))->w3.heap[b]? =w.heap[b]?:=fun b hb h1 h2=>
  (hg.block b (Nat.lt_of_lt_of_le hb hga.size) (fun e=>h1 (by cases e;rfl))).trans (hga.block b hb (by
   rw[Sf0 Yo0];split
   ·exact fun e=>by cases e
   ·rename_i n3;exact fun e=>h2 n3 (by cases e;rfl)))
 have hlG:p.lgb<w.heap.size:=(R3 hr.hG).lt;have hO3:Own w3 p.B 2 1 la' ((s.K3 i).length+1) lc' (Ii0 (s.K3 i) ++ [.int .i64 a]):=hO.grown hg (by
  cases ha:la' with
  |none=>rw[ha]at hO;intro e;have:=wq0 hO;omega
  |some x=>
   have n3:la'≠none:=by rw[ha];simp
   rcases hwh n3 with⟨z1,z2⟩|z
   ·have:ab (r.la i)≠p.lgb:=fun e=>Ay0 (hr.hL i hi) hr.hG (by decide) z1 e.symm;rw[<- ha,z2];intro e;exact this (Option.some.inj e)
   ·rw[<- ha];intro e;have:ab la'=p.lgb:=Option.some.inj e;omega)
 refine⟨hp,⟨fun t n h1 h2 h3=>?_,hG,fun j hj=>?_,fun j k hj hk hjk h1 h2=>?_,fun b hb=>?_,hr.lG⟩⟩
 ·obtain⟨sa,hS⟩:=hr.hS t n h1 h2 h3;exact⟨sa,(stay _ (R3 hS).lt (Q0.ne hS hr.hG (mh0 t).2.1) fun ha=>Ay0 (hr.hL i hi) hS (mh0 t).2.2 ha).trans hS⟩
 ·show Own w3 p.B _ 1 (upN r.la i la' j) (upN s.K3 i (s.K3 i ++ [a]) j).length (upN r.lc i lc' j) ((upN s.K3 i (s.K3 i ++ [a]) j).map (.int .i64 ·));by_cases V2:j=i
  ·subst V2;rw[B4,B4,B4,List.length_append,List.map_append];exact hO3
  ·rw[S4 V2,S4 V2,S4 V2];refine Own.congr (hr.hL j hj) fun ha=>?_;obtain⟨cur,hc,_⟩:=(hr.hL j hj).row ha;exact stay _ (R3 hc).lt (Q0.ne hc hr.hG (by decide)) (fun ha2=>hr.inj j i hj hi V2 ha ha2)
 ·have h1:upN r.la i la' j≠none:=h1;have h2:upN r.la i la' k≠none:=h2;show ab (upN r.la i la' j)≠ab (upN r.la i la' k);have key:∀j,j<p.m->j≠i->r.la j≠none->la'≠none->ab (r.la j)≠ab la':=fun j hj V2 ha hb e=>by
   rcases hwh hb with⟨z1,z2⟩|z
   ·exact hr.inj j i hj hi V2 ha z1 (e.trans z2)
   ·have:=(hr.hL j hj).lt ha;omega
  by_cases e1:j=i
  ·have e2:k≠i:=fun e=>hjk (e1.trans e.symm);rw[e1,B4]at h1⊢;rw[S4 e2]at h2⊢;exact fun e=>key k hk e2 h2 h1 e.symm
  ·rw[S4 e1]at h1⊢;by_cases e2:k=i
   ·rw[e2,B4]at h2⊢;exact key j hj e1 h1 h2
   ·rw[S4 e2]at h2⊢;exact hr.inj j k hj hk hjk h1 h2
 ·have ho:=hr.Ym0 hp hb;exact(stay b (hr.vis hp (.inr (.inr (.inr hb)))).1 ho.2.1 (fun ha=>ho.2.2 i hi ha)).trans (hr.ro b hb)
theorem R8.B (h:R8 p w s r):p.B <=w.heap.size:=Nat.le_trans h.mem.lG (Nat.le_of_lt (R3 h.mem.hG).lt)
end
theorem Ij0 {N i lc':Nat} {la':Option Addr} {r:G5} {lg:Nat->List Int} (a:Int):setRow (arr N fun j=>.slice (r.la j) (lg j).length (r.lc j)) (0+i*1) [.slice la' ((lg i).length+1) lc']=arr N fun j=>.slice (upN r.la i la' j) (upN lg i (lg i ++ [a]) j).length (upN r.lc i lc' j):=by
 rw[Nat.zero_add,Nat.mul_one,dp0];refine ia0 fun j _=>?_;by_cases h:j=i
 ·subst h;rw[if_pos rfl,B4,B4,B4,List.length_append,List.length_singleton]
 ·rw[if_neg h,S4 h,S4 h,S4 h]
theorem Sj0 {p:o4} {fb:Nat->FuncId} {q:PR (E3 p)} {w00:World} {i cb:Nat} {top:List Frame} {sI:PS} {rI:G5} {ob bp tp oc:Nat} {oa:Option Addr} (hD:ow0 p i ob bp tp oa oc) (him:i<p.m) (w0:World) (hE:R8 p w0 sI rI) (hc:x9 (j2 p fb q w00 i cb top) w0 (l4 (p.bo i) 0 sI)) :
  @Calls prog (J0 (j2 p fb q w00 i cb top)) 46 #[.pointer (some ⟨cb,0,none⟩),.pointer (some ⟨ob,0,none⟩),.pointer (some ⟨bp,0,none⟩),.pointer (some ⟨tp,0,none⟩)] w0 (fun e u=>∃F',(j2 p fb q w00 i cb top).xx0 u F' e):=by
 letI:Ctx prog:=J0 (j2 p fb q w00 i cb top);refine Calls.V5 (n:=32) func46 rfl rfl ?_;have hlen:=hD.len;refine U3 ?_;refine U69 ?_;refine W.loop (fun k e w=>∃j:Nat,∃s:PS,∃r:G5,k=(p.bo i).length-j/\e 0= .p cb/\e 1= .pointer (some ⟨ob,0,none⟩)/\e 2= .pointer (some ⟨bp,0,none⟩)/\e 3= .pointer (some ⟨tp,0,none⟩)/\e 5= .int .i64 (j:Nat)/\R8 p w s r/\x9 (j2 p fb q w00 i cb top) w (l4 (p.bo i) j s)/\j <=(p.bo i).length) _ ⟨0,sI,rI,rfl,rfl,rfl,rfl,rfl,rfl,hE,hc,Nat.zero_le _⟩ ?_;rintro k e w ⟨j,s,r,hk,s0,s1,s2,s3,s5,hE,hc,hjn⟩;rw[K1 s0,K1 s1,K1 s2,K1 s3,K1 s5];clear s0 s1 s2 s3 s5;have hOb:=hD.ob_ hE;have hBp:=hD.bp_ hE;have hTp:=hD.tp_ hE;have Sk0:=hD.ec1 hE;refine U32 ?_;refine L.va (F0 rfl underlying50 rfl (hOb.E0 0 (v:=.slice oa ((p.bo i).length) oc) rfl)) ?_;refine L.va (M7 rfl underlying50 rfl) ?_;refine U67 ?_;refine W.cp0 rfl (fun h10=>?_) (fun h10=>?_)
 ·refine W.skip ?_;show W _ _ _ _ _ _;refine W.seq ?_;refine U172 ?_;obtain⟨o,ho⟩:∃o,(p.bo i)[j]? =some o:=⟨_,List.getElem?_eq_getElem (by omega)⟩
  refine W.ev0 6 (fun w'=>Below w.heap.size w w') (by kernel_rfl) (by kernel_rfl) (by kernel_rfl) (by kernel_rfl) ((Below.refl w.heap.size w).drew) ?_;refine D.va (fun w' N2=>(F0 rfl underlying54 rfl ((hBp.A0 N2).E0 0 (v:=.p p.tb) rfl))) ?_;refine D.va (fun w' N2=>(H3 rfl)) ?_;refine D.va (fun w' N2=>(F0 rfl underlying50 rfl ((hOb.A0 N2).E0 0 (v:=.slice oa ((p.bo i).length) oc) rfl))) ?_;refine D.va (fun w' N2=>(W4 rfl)) ?_;refine D.va (fun w' N2=>(k9 (i:=j) rfl rfl underlying50 dk0 Sk0.sl (by omega))) ?_;refine D.va (fun w' N2=>(P1 (cs:=yt0 o) rfl underlying52 rfl dk0 rfl (fun q v hq=>(Sk0.A0 N2).cell j o ho q v hq))) ?_;refine D.nil (fun w Y1=>?_);refine U90 ?_;intro hE hc;clear Y1;have Z4:=Sh0 w hE hc ho;refine L.T3 rfl (N7 rfl rfl rfl func39 rfl cd1 rfl) Z4 ?_ ?_ (fun _ h=>h)
  rotate_left
  ·rintro ch u ⟨Q6,hh⟩;exact hh.done (Sys.kok (gu0 hE.ok)) Q6 hc.os hc.output
  rintro _ w ⟨s1,r1,m7,p8,hl1,hv⟩;obtain⟨z,hz⟩:∃z,z=G9 o s1:=⟨_,rfl⟩
  rw[<- hz]at m7 p8 hv;have hl:(z.1.K3 i).length=j:=by rw[hz,mg0];exact hl1
  subst hv;clear Z4 hE hc hOb hBp Sk0 hTp hl1 hz;have hE:=m7;have hc:=p8;clear m7 p8;have hTp:=hD.tp_ hE;refine U13 ?_;have hG:=hE.mem.hG;have hT:=hE.mem.hL i him;have Yo0:=rz0 hT;refine W.fp 11 [9,10] [] [0,1,2,3,4,5,6,7,8,9,10] (fun ch u=>∃F',(j2 p fb q w00 i cb top).xx0 u F' (.panicked ch)) (fun w'=>Q0 w' tp #[.slice (some ⟨p.lgb,0,none⟩) p.m p.m] 31/\Q0 w' p.lgb (arr p.m fun j=>.slice (r1.la j) (z.1.K3 j).length (r1.lc j)) 45) (by kernel_rfl) (by kernel_rfl) (by kernel_rfl) (by kernel_rfl) (by kernel_rfl) (by kernel_rfl) (fun _ _ _ h=>h) (⟨hTp.A0 (Below.refl w.heap.size w).drew,hG.A0 (Below.refl w.heap.size w).drew⟩) ?_;have u6:Below w.heap.size w w.drew:=(Below.refl w.heap.size w).drew;have hE:=hE.A0 u6;have hc:=hc.A0 u6;have hTp:=hTp.A0 u6;have hG:=hG.A0 u6;have hT:=hT.A0 u6;clear u6;generalize w.drew=w at *;refine U424 ?_;refine U424 ?_;refine FP.va rfl rfl (fun w' N2=>k9 (i:=i) rfl rfl underlying31 Qm0 (fun _=>rfl) him) ?_;refine FP.va rfl rfl (fun w' N2=>F0 (v:=.slice (r1.la i) (z.1.K3 i).length (r1.lc i)) rfl underlying45 rfl (by show World.cell? w' ⟨p.lgb,0+i*1,none⟩=_;rw[Nat.zero_add,Nat.mul_one];exact Q0.E0 N2.2 i (ea0 him))) ?_;refine FP.va rfl rfl (fun w' N2=>(W4 rfl)) ?_;refine FP.doo rfl rfl ?_;refine L.lj0 (cs:=#[.int .i64 z.2]) rfl rfl underlying45 sz2 rfl ⟨_,zr2⟩ (by decide) (fun w b29 F29=>?_);have fl1:=Nat.le_refl w.heap.size;have fm1:r1.la i≠none->ab (r1.la i)≠b29:=fun h=>by have h8:=hT.lt h;have h9:=F29.here;omega
  have hE:=hE.A0 F29.below;have hc:=hc.A0 F29.below;have hTp:=hTp.A0 F29.below;have hG:=hG.A0 F29.below;have hT:=hT.A0 F29.below;have ed1:=F29.blk;refine L.nil (.inl ⟨rfl,_,.inl rfl,⟨hTp,hG⟩,?_⟩);refine FP.doo rfl rfl ?_;refine L.tu0 (B:=p.B) (m:=1) rfl rfl underlying45 in2 rfl (by decide) hT (news:=[.int .i64 z.2]) rfl (fun q u hq=>?_) (fun u hu=>by simp at hu;rcases hu with rfl;rfl) (by omega) (by omega) hE.B (fun la2 lc2 w2 hO2 hga hwh=>?_)
  ·rw[Addr.add_lit]
   match q,hq with
   |0,hq=>cases hq;exact ed1.E0 0 rfl
  have hG:=Q0.app hG hT hga (by decide);have hTp:=Q0.app hTp hT hga (by decide);have hc:=hc.n5 hga trivial;rename_i fn1;refine L.nil (.inl ⟨rfl,_,.inl rfl,⟨hTp,hG⟩,?_⟩);refine FP.nil ?_;show L _ _ _ _ _ _ _;refine L.va (k9 (i:=i) rfl rfl underlying31 Qm0 (fun _=>rfl) him) ?_;refine L.put (b:=p.lgb) (o:=0+i*1) (vs:=[.slice la2 ((z.1.K3 i).length+1) lc2]) _ rfl rfl rfl Qm0 rfl rfl hG (by rw[G6];omega) (Ij0 z.2) (fun w I1 hg D2=>?_);have hE2:=hE.Si0 him z.2 hO2 hga hwh I1 hg;have hc:=hc.n5 hg trivial;clear hE hG I1 hTp;refine L.nil ?_;refine U177 ?_;exact⟨_,by omega,⟨j+1,_,_,rfl,rfl,rfl,rfl,rfl,rfl,hE2,hc,by omega⟩⟩
 ·refine W.exit ?_;refine U197 ?_;refine U112 ?_;rw[yw0 (by omega)]at hc;exact hE.done hc
end Go.Vy.Sc
end
section
namespace Go.Vy
open Go Go.Conc Go.Yc
open Go.Vc (Env upd T2 ev)
open Go.RowKit Go.Proofs
section
variable {P:Program}{ρ:Operand->Value}{d:Option Nat}{ty:TypeId}{ps:String}{af:Array Edge}{g:Option (Nat×Bool)}{x y:Operand}{w:World}
theorem _root_.Go.Vc.mi0 {f:FuncId} {fn:Func} {aT:Array TypeId} {a:Addr} {k:IntKind} {z:Int} {u:Value} (hx:ρ x= .pointer (some a)) (hy:ρ y= .int k z) (hf:P.funcs[f]? =some fn) (H2:(fn.name== "runtime.NumGoroutine")=false) (hb:fn.body.isNone=true) (hn:Extern.findNext fn=none)
  (he:Extern.find fn=some Extern.Atomic.storeT) (hc:w.cell? a=some u) (hz:w.frozen? a=false) (hρ:ρ (.func f)= .func (.func f) #[] #[]) :
  (execOp ρ ⟨d,.call ⟨.value (.func f),#[x,y],aT⟩,ty,ps,af,g⟩).run P w= .ok (.value (.tuple #[])) (w.setCell a (.int k z)):=by
 have h1:(callFunc f #[.pointer (some a),.int k z]).run P w= .ok (.value (.tuple #[])) (w.setCell a (.int k z)):=by
  rw[run_callFunc_extern hf H2 hb hn he];change (Sem.run P (do
   store (<- asAddr (.pointer (some a))) (.int k z) .atomic
   pure Extern.Atomic.none_) w).andThen _=_
  simp[asAddr,hc,hz,run_store P w a (.int k z) .atomic rfl,Result.andThen,Extern.Atomic.none_]
 simp[execOp,resolve,hρ,Deferred.ofValue,invoke,hx,hy,h1]
theorem mi0 {f:FuncId} {fn:Func} {aT:Array TypeId} {a:Addr} {k:IntKind} {z:Int} {u:Value} (hx:ρ x= .pointer (some a)) (hy:ρ y= .int k z) (hf:P.funcs[f]? =some fn) (H2:(fn.name== "runtime.NumGoroutine")=false) (hb:fn.body.isNone=true) (hn:Extern.findNext fn=none)
  (he:Extern.find fn=some Extern.Atomic.storeT) (hc:w.cell? a=some u) (hz:w.frozen? a=false) (hρ:ρ (.func f)= .func (.func f) #[] #[]) :
  Does P (execOp ρ ⟨d,.call ⟨.value (.func f),#[x,y],aT⟩,ty,ps,af,g⟩) w (.val (.tuple #[])) (w.setCell a (.int k z)) :=
 .j1 (by
  show B1 P (do let d <- Deferred.ofValue (ρ (.func f)) (#[x,y].map ρ);invoke d.target d.args);rw[hρ];refine U457 ?_;have e1:(#[] ++ #[x,y].map ρ ++ #[]:Array Value)=#[.pointer (some a),.int k z]:=by simp[hx,hy]
  rw[e1];show B1 P (do store (<- asAddr (.pointer (some a))) (.int k z) .atomic;pure Extern.Atomic.none_);exact D1 (fs0 _) fun b=>D1 (tf0 _ _ _) fun _=>J1 _) rfl rfl fun τ dd=>Go.Vc.mi0 hx hy hf H2 hb hn he hc hz hρ
end
end Go.Vy
namespace Go.Vy.Sc
open Go Go.Conc Go.Yc Go.RowKit Go.Proofs Go.Proofs.YtnifpkopeheodaaGreat Tryz
open Go.Vc Go.Wg
theorem exI:Extern.find Tryz.f107=some Extern.Atomic.storeT:=by kernel_rfl
theorem enI:Extern.findNext Tryz.f107=none:=by kernel_rfl
theorem exS:Extern.find Tryz.f85=some Extern.Atomic.storeT:=by kernel_rfl
theorem enS:Extern.findNext Tryz.f85=none:=by kernel_rfl
theorem nzN:(prog.info? 2).map (fun i=>decide (i.size=0))=some false:=by kernel_rfl
theorem buM (x:Option Addr):prog.built 113 [(0,.iface 193 (.pointer x))]=some #[.iface 193 (.pointer x)]:=by kernel_rfl
theorem buR (x:Option Addr):prog.built 125 [(0,.iface 193 (.pointer x))]=some #[.iface 193 (.pointer x)]:=by kernel_rfl
section
variable [Ctx prog]
end
section
theorem Sl0:prog.built 105 []=some #[.bool false]:=by kernel_rfl
theorem Sm0 (x0:Bool):prog.built 105 [(0,.bool x0)]=some #[.bool x0]:=by kernel_rfl
theorem za0 (x0:Int) (x1:Int):prog.built 107 [(0,.int .i64 x0),(1,.int .i64 x1)]=some #[.int .i64 x0,.int .i64 x1]:=by kernel_rfl
theorem Sn0 (x0:Int) (x1:Int):prog.built 195 [(0,.agg #[.int .i64 x0,.int .i64 x1])]=some #[.int .i64 x0,.int .i64 x1,.bool false,.int .i64 0]:=by kernel_rfl
theorem So0 (x0:Int) (x1:Int) (x2:Option Addr) (x3:Int):prog.built 123 [(0,.agg #[.int .i64 x0,.int .i64 x1]),(1,.pointer x2),(2,.int .i64 x3)]=some #[.int .i64 x0,.int .i64 x1,.pointer x2,.int .i64 x3,.int .i64 0]:=by kernel_rfl
theorem Sp0 (x0:Int) (x1:Int) (x2:Option Addr) (x3:Int):prog.built 132 [(0,.agg #[.int .i64 x0,.int .i64 x1]),(1,.pointer x2),(2,.int .i64 x3)]=some #[.int .i64 x0,.int .i64 x1,.pointer x2,.int .i64 x3,.pointer none]:=by kernel_rfl
theorem Sq0 (x0:Int) (x1:Int) (x2:Option Addr) (x3:Int):prog.built 115 [(0,.agg #[.int .i64 x0,.int .i64 x1]),(1,.pointer x2),(2,.int .i64 x3)]=some #[.int .i64 x0,.int .i64 x1,.pointer x2,.int .i64 x3]:=by kernel_rfl
theorem Sr0:prog.built 72 []=some #[.pointer none,.pointer none,.pointer none,.pointer none,.pointer none,.pointer none,.pointer none,.pointer none,.pointer none,.pointer none]:=by kernel_rfl
end
section
variable [Ctx prog]
theorem jo0 (w0:World):C prog 36 #[] w0 fun v w=>∃wb,v= .pointer (some ⟨wb,0,none⟩)/\w0.heap.size <=wb/\Q0 w wb #[.bool false] 105/\Below w0.heap.size w0 w:=by
 refine C.enter (n:=3) func36 rfl rfl ?_;refine U42 ?_;intro hb;refine L.va (L3 (parts:=[]) rfl Sl0) ?_;refine L.box (cs:=#[.bool false]) rfl rfl (fun w b2 F2=>?_);refine U19 ?_;intro lt2 hb;have H7:=F2.blk;refine U51 ?_;exact⟨b2,rfl,lt2,H7,hb⟩
theorem Ik0 (w0:World):C prog 17 #[] w0 fun v w=>∃wb,v= .pointer (some ⟨wb,0,none⟩)/\w0.heap.size <=wb/\Q0 w wb #[.bool true] 105/\Below w0.heap.size w0 w:=by
 refine C.enter (n:=3) func17 rfl rfl ?_;refine U42 ?_;intro hb;refine L.va (L3 (parts:=[(0,.const (.bool true))]) rfl (Sm0 true)) ?_;refine L.box (cs:=#[.bool true]) rfl rfl (fun w b2 F2=>?_);refine U19 ?_;intro lt2 hb;have H7:=F2.blk;refine U51 ?_;exact⟨b2,rfl,lt2,H7,hb⟩
theorem Cs0 (wb:Nat) (obj num:Int) (w0:World) (hW:Q0 w0 wb #[.bool false] 105):C prog 81 #[.pointer (some ⟨wb,0,none⟩),.int .i64 obj,.int .i64 num] w0 fun v w=>∃sb,v= .iface 193 (.pointer (some ⟨sb,0,none⟩))/\w0.heap.size <=sb/\Q0 w sb #[.int .i64 obj,.int .i64 num,.bool false,.int .i64 0] 195/\Below w0.heap.size w0 w:=by
 refine C.enter (n:=18) func81 rfl rfl ?_;refine U4 ?_;intro hb;refine L.va de0 ?_;refine U54 ?_;refine L.va (H3 rfl) ?_;refine L.call (W2 rfl func44 rfl ya0 rfl) (go0 wb _ hW) ?_;rintro _ w1 ⟨rfl,hw⟩;refine U107 ?_;refine U89 ?_;refine L.va (L3 (parts:=[(0,.tmp 12),(1,.tmp 13)]) rfl (za0 obj num)) ?_;refine L.va (L3 (parts:=[(0,.tmp 14)]) rfl (Sn0 obj num)) ?_;refine L.box (cs:=#[.int .i64 obj,.int .i64 num,.bool false,.int .i64 0]) rfl rfl (fun w b16 F16=>?_);have zb0:=F16.lq hb.size;have hb:=N0 hb F16.below;have mj0:=F16.blk;refine L.va (E8 (v:=.pointer (some ⟨b16,0,none⟩)) rfl underlying193 rfl) ?_;refine L.va de0 ?_;refine U0 ?_;refine U58 ?_;exact⟨b16,rfl,zb0,mj0,hb⟩
theorem ws0 (wb:Nat) (obj num:Int) (w0:World) (hW:Q0 w0 wb #[.bool false] 105):C prog 51 #[.pointer (some ⟨wb,0,none⟩),.int .i64 obj,.int .i64 num] w0 fun v w=>∃mb sb,v= .pointer (some ⟨mb,0,none⟩)/\w0.heap.size <=mb/\w0.heap.size <=sb/\Q0 w mb #[.iface 193 (.pointer (some ⟨sb,0,none⟩))] 113/\Q0 w sb #[.int .i64 obj,.int .i64 num,.bool false,.int .i64 0] 195/\Below w0.heap.size w0 w:=by
 refine C.enter (n:=13) func51 rfl rfl ?_;refine U42 ?_;intro hb;refine U43 ?_;refine U416 ?_;rintro _ w ⟨sb,rfl,lts,hS,Y1⟩;have lts:=Nat.le_trans hb.size lts;have hb:=N0 hb Y1;refine L.va (L3 (vs:=[(0,(.iface 193 (.pointer (some ⟨sb,0,none⟩))))]) rfl (buM _)) ?_;refine L.box (cs:=#[(.iface 193 (.pointer (some ⟨sb,0,none⟩)))]) rfl rfl (fun w b12 F12=>?_);have Mo0:=F12.lq hb.size;have hb:=N0 hb F12.below;have hS:=hS.A0 F12.below;have ip0:=F12.blk;refine U51 ?_;exact⟨b12,sb,rfl,Mo0,lts,ip0,hS,hb⟩
theorem mk0 (wb:Nat) (obj num:Int) (w0:World) (hW:Q0 w0 wb #[.bool false] 105):C prog 52 #[.pointer (some ⟨wb,0,none⟩),.int .i64 obj,.int .i64 num] w0 fun v w=>∃mb sb,v= .pointer (some ⟨mb,0,none⟩)/\w0.heap.size <=mb/\w0.heap.size <=sb/\Q0 w mb #[.iface 193 (.pointer (some ⟨sb,0,none⟩))] 125/\Q0 w sb #[.int .i64 obj,.int .i64 num,.bool false,.int .i64 0] 195/\Below w0.heap.size w0 w:=by
 refine C.enter (n:=13) func52 rfl rfl ?_;refine U42 ?_;intro hb;refine U43 ?_;refine U416 ?_;rintro _ w ⟨sb,rfl,lts,hS,Y1⟩;have lts:=Nat.le_trans hb.size lts;have hb:=N0 hb Y1;refine L.va (L3 (vs:=[(0,(.iface 193 (.pointer (some ⟨sb,0,none⟩))))]) rfl (buR _)) ?_;refine L.box (cs:=#[(.iface 193 (.pointer (some ⟨sb,0,none⟩)))]) rfl rfl (fun w b12 F12=>?_);have Mo0:=F12.lq hb.size;have hb:=N0 hb F12.below;have hS:=hS.A0 F12.below;have ip0:=F12.blk;refine U51 ?_;exact⟨b12,sb,rfl,Mo0,lts,ip0,hS,hb⟩
theorem Ct0 (cb:Nat) (a b c d e:Value) (x:Int) (w0:World) (hC:Q0 w0 cb #[a,b,c,d,e] 123) :
  C prog 82 #[.pointer (some ⟨cb,4,none⟩),.int .i64 x] w0 fun _ w=>Q0 w cb #[a,b,c,d,.int .i64 x] 123/\w0.grownBy w (some cb):=by
 refine C.enter (n:=9) func82 rfl rfl ?_;refine W.region rfl ?_;refine U14 ?_;refine L.va (K0 rfl underlying121 rfl sz2 (by decide)) ?_;refine L.va (W4 rfl) ?_;refine L.va (mi0 (u:=e) rfl rfl func107 Wt0 rfl enI exI (hC.E0 4 rfl) hC.frozen rfl) ?_;refine U62 ?_;exact⟨hC.set (o:=4) (.int .i64 x),eu0 w0 ⟨cb,4,none⟩ _⟩
theorem Cu0 (cb lb:Nat) (a b c d e f:Value) (w0:World) (hC:Q0 w0 cb #[a,b,c,d,e] 132) (hL:Q0 w0 lb #[f] 2) :
  C prog 61 #[.pointer (some ⟨cb,4,none⟩),.pointer (some ⟨lb,0,none⟩)] w0 fun _ w=>Q0 w cb #[a,b,c,d,.pointer (some ⟨lb,0,none⟩)] 132/\w0.grownBy w (some cb):=by
 refine C.enter (n:=10) func61 rfl rfl ?_;refine W.region rfl ?_;refine U14 ?_;refine L.va (K0 rfl underlying130 rfl Vr0 (by decide)) ?_;refine L.va (H3 rfl) ?_;refine L.va (ey0 rfl underlying126 underlying128 nzN (hL.E0 0 (v:=f) rfl)) ?_;refine L.va (lf0 (u:=e) rfl rfl func85 cy1 rfl enS exS (hC.E0 4 rfl) hC.frozen rfl) ?_;refine U62 ?_;exact⟨hC.set (o:=4) (.pointer (some ⟨lb,0,none⟩)),eu0 w0 ⟨cb,4,none⟩ _⟩
theorem ml0 (wb:Nat) (obj num:Int) (x:Int) (w0:World) (hW:Q0 w0 wb #[.bool false] 105):C prog 53 #[.pointer (some ⟨wb,0,none⟩),.int .i64 obj,.int .i64 num,.int .i64 x] w0 fun v w=>∃cb sa,v= .pointer (some ⟨cb,0,none⟩)/\w0.heap.size <=cb/\Q0 w cb #[.int .i64 obj,.int .i64 num,.pointer (some ⟨wb,0,none⟩),.int .i64 x,sa] 123/\Below w0.heap.size w0 w:=by
 refine C.enter (n:=23) func53 rfl rfl ?_;refine U42 ?_;intro hb;refine U461 ?_;refine U43 ?_;refine L.va (L3 (parts:=[(0,.tmp 12),(1,.tmp 13),(2,.tmp 14)]) rfl (So0 obj num ((some ⟨wb,0,none⟩)) x)) ?_;refine L.box (cs:=#[.int .i64 obj,.int .i64 num,.pointer (some ⟨wb,0,none⟩),.int .i64 x,.int .i64 0]) rfl rfl (fun w b16 F16=>?_);have zb0:=F16.lq hb.size;have hb:=N0 hb F16.below;have mj0:=F16.blk;refine U92 ?_;refine U14 ?_;refine L.va (K0 rfl underlying123 rfl Vq0 (by decide)) ?_;refine L.va (W4 rfl) ?_;refine L.call (C4 rfl rfl func82 rfl cw1 rfl) (Ct0 b16 _ _ _ _ _ x _ mj0) ?_;rintro _ w ⟨I1,hg⟩;have T5:=O7.dh0 mj0 hg;have hb:=P3 hb hb.size hg zb0;have mj0:=I1;clear T5;refine U9 ?_;refine U265 ?_;exact⟨b16,_,rfl,zb0,mj0,hb⟩
theorem sg0 (wb:Nat) (obj num:Int) (x:Int) (w0:World) (hW:Q0 w0 wb #[.bool false] 105):C prog 54 #[.pointer (some ⟨wb,0,none⟩),.int .i64 obj,.int .i64 num,.int .i64 x] w0 fun v w=>∃cb sa,v= .pointer (some ⟨cb,0,none⟩)/\w0.heap.size <=cb/\Q0 w cb #[.int .i64 obj,.int .i64 num,.pointer (some ⟨wb,0,none⟩),.int .i64 x,sa] 132/\Below w0.heap.size w0 w:=by
 refine C.enter (n:=22) func54 rfl rfl ?_;refine U4 ?_;intro hb;refine L.box (cs:=#[.int .i64 x]) rfl rfl (fun w b7 F7=>?_);have lt7:=F7.lq hb.size;have hb:=N0 hb F7.below;have hB7:=F7.blk;refine U92 ?_;refine U461 ?_;refine L.va (H3 rfl) ?_;refine L.va (F0 rfl underlying2 rfl (hB7.E0 0 (v:=.int .i64 x) rfl)) ?_;refine L.va (L3 (parts:=[(0,.tmp 12),(1,.tmp 13),(2,.tmp 14)]) rfl (Sp0 obj num ((some ⟨wb,0,none⟩)) x)) ?_;refine L.box (cs:=#[.int .i64 obj,.int .i64 num,.pointer (some ⟨wb,0,none⟩),.int .i64 x,.pointer none]) rfl rfl (fun w b16 F16=>?_);have zb0:=F16.lq hb.size;have hb:=N0 hb F16.below;have hB7:=hB7.A0 F16.below;have mj0:=F16.blk;refine U92 ?_;refine U14 ?_;refine L.va (K0 rfl underlying132 rfl Vs0 (by decide)) ?_;refine L.call (C4 rfl rfl func61 rfl cn1 rfl) (Cu0 b16 b7 _ _ _ _ _ _ _ mj0 hB7) ?_;rintro _ w ⟨I1,hg⟩;have T5:=O7.dh0 mj0 hg;have hb:=P3 hb hb.size hg zb0;have mj0:=I1;clear T5;refine U9 ?_;refine U265 ?_;exact⟨b16,_,rfl,zb0,mj0,hb⟩
theorem Bd0 (wb:Nat) (obj num:Int) (x:Int) (w0:World) (hW:Q0 w0 wb #[.bool false] 105):C prog 55 #[.pointer (some ⟨wb,0,none⟩),.int .i64 obj,.int .i64 num,.int .i64 x] w0 fun v w=>∃cb,v= .pointer (some ⟨cb,0,none⟩)/\w0.heap.size <=cb/\Q0 w cb #[.int .i64 obj,.int .i64 num,.pointer (some ⟨wb,0,none⟩),.int .i64 x] 115/\Below w0.heap.size w0 w:=by
 refine C.enter (n:=16) func55 rfl rfl ?_;refine U42 ?_;intro hb;refine U89 ?_;refine L.va (L3 (parts:=[(0,.tmp 9),(1,.tmp 10)]) rfl (za0 obj num)) ?_;refine U43 ?_;refine L.va (L3 (parts:=[(0,.tmp 11),(1,.tmp 12),(2,.tmp 13)]) rfl (Sq0 obj num ((some ⟨wb,0,none⟩)) x)) ?_;refine L.box (cs:=#[.int .i64 obj,.int .i64 num,.pointer (some ⟨wb,0,none⟩),.int .i64 x]) rfl rfl (fun w b15 F15=>?_);have Mp0:=F15.lq hb.size;have hb:=N0 hb F15.below;have zc0:=F15.blk;refine U51 ?_;exact⟨b15,rfl,Mp0,zc0,hb⟩
structure bz0 (w:World) (B wb tb:Nat) (sb mb:Nat->Nat->Nat):Prop where
 hT:Q0 w tb (arr 10 fun j=>.pointer (some ⟨if j/2+1 <=2 then mb (j/2+1) (j%2) else sb (j/2+1) (j%2),0,none⟩)) 72
 lT:B <=tb
 hM:∀t n,1 <=t->t <=2->n<2->Q0 w (mb t n) #[.iface 193 (.pointer (some ⟨sb t n,0,none⟩))] (mty t)/\B <=mb t n
 hS:∀t n,1 <=t->t <=5->n<2->∃sa,Q0 w (sb t n) (Z6 wb ps0 t n sa) (tty t)
 lS:∀t n,1 <=t->t <=5->n<2->B <=sb t n
 inj:∀t n t' n',1 <=t->t <=5->n<2->1 <=t'->t' <=5->n'<2->sb t n=sb t' n'->t=t'/\n=n'
def sel (a0 a1 b0 b1 c0 c1 d0 d1 e0 e1:Nat) (t n:Nat):Nat:=match t with
 |1=>if n=0 then a0 else a1
 |2=>if n=0 then b0 else b1
 |3=>if n=0 then c0 else c1
 |4=>if n=0 then d0 else d1
 |_=>if n=0 then e0 else e1
omit [Ctx prog] in
theorem k3 {w:World} {b b':Nat} {cs Z5:Array Value} {T T':TypeId} (h:Q0 w b cs T) (h':Q0 w b' Z5 T') (hT:T≠T'):b≠b':=Q0.ne h h' hT
omit [Ctx prog] in
set_option maxHeartbeats 4000000 in
theorem Ss0 (x10 x11 x20 x21 x30 x31 x40 x41 x50 x51:Nat) (fo1:x10≠x11) (fp1:x10≠x20) (fq1:x10≠x21) (fr1:x10≠x30) (fs1:x10≠x31) (ft1:x10≠x40) (fu1:x10≠x41) (fv1:x10≠x50) (fw1:x10≠x51) (fx1:x11≠x20) (fy1:x11≠x21) (fz1:x11≠x30) (ga1:x11≠x31) (gb1:x11≠x40) (gc1:x11≠x41) (gd1:x11≠x50) (ge1:x11≠x51) (gf1:x20≠x21) (gg1:x20≠x30) (gh1:x20≠x31) (gi1:x20≠x40) (gj1:x20≠x41) (gk1:x20≠x50) (gl1:x20≠x51) (gm1:x21≠x30) (gn1:x21≠x31) (go1:x21≠x40) (gp1:x21≠x41) (gq1:x21≠x50) (gr1:x21≠x51) (gs1:x30≠x31) (gt1:x30≠x40) (gu1:x30≠x41) (gv1:x30≠x50) (gw1:x30≠x51) (gx1:x31≠x40) (gy1:x31≠x41) (gz1:x31≠x50) (hd1:x31≠x51) (he1:x40≠x41) (hf1:x40≠x50) (hg1:x40≠x51) (hh1:x41≠x50) (hk1:x41≠x51) (hn1:x50≠x51):∀t n t' n',1 <=t->t <=5->n<2->1 <=t'->t' <=5->n'<2->sel x10 x11 x20 x21 x30 x31 x40 x41 x50 x51 t n=sel x10 x11 x20 x21 x30 x31 x40 x41 x50 x51 t' n'->t=t'/\n=n':=by
 intro t n t' n' h1 h2 h3 h4 h5 h6 he;obtain rfl|rfl|rfl|rfl|rfl:t=1\/t=2\/t=3\/t=4\/t=5:=by omega
 all_goals obtain rfl|rfl|rfl|rfl|rfl:t'=1\/t'=2\/t'=3\/t'=4\/t'=5:=by omega
 all_goals obtain rfl|rfl:n=0\/n=1:=by omega
 all_goals obtain rfl|rfl:n'=0\/n'=1:=by omega
 all_goals first|exact⟨rfl,rfl⟩|(exfalso;simp[sel]at he;first|exact absurd he (by assumption)|exact absurd he.symm (by assumption))
set_option maxHeartbeats 4000000 in
theorem Il0 (wb:Nat) (w0:World) (hW:Q0 w0 wb #[.bool false] 105):C prog 16 #[.pointer (some ⟨wb,0,none⟩)] w0 fun v w=>∃tb sb mb,v= .pointer (some ⟨tb,0,none⟩)/\bz0 w w0.heap.size wb tb sb mb/\Below w0.heap.size w0 w:=by
 refine C.enter (n:=52) func16 rfl rfl ?_;refine U42 ?_;intro hb;refine L.va (L3 (parts:=[]) rfl Sr0) ?_;refine L.box (cs:=#[.pointer none,.pointer none,.pointer none,.pointer none,.pointer none,.pointer none,.pointer none,.pointer none,.pointer none,.pointer none]) rfl rfl (fun w b6 F6=>?_);have lt6:=F6.lq hb.size;have hb:=N0 hb F6.below;have hW:=hW.A0 F6.below;have c7:=F6.blk;refine U117 ?_;refine U15 ?_;refine U69 ?_;refine W.rounds 3 ?_;refine cj0.go ?_;refine U32 ?_;refine L.va (L2 (r:=true) (by decide) (es0 (m:=0) (k:=2) rfl rfl)) ?_;refine U31 ?_;refine U244 ?_;refine U172 ?_;refine U374 ?_;intro u6 hb hW c7;clear u6;generalize w.drew=w at *;refine U20 ?_;refine U429 ?_;refine L.call (N7 rfl rfl rfl func51 rfl Vy0 rfl) (ws0 wb 1 0 _ hW) ?_;rintro _ w ⟨m10,s10,rfl,ee1,ef1,J5,V4,Y1⟩;have Yp0:=Nat.le_trans hb.size ee1;have Yq0:=Nat.le_trans hb.size ef1;refine U391 ?_;intro hb hW c7;refine L.nil ⟨rfl,trivial,?_⟩;refine U8 ?_;refine L.va (Z1 (i:=0) (n:=2) rfl rfl underlying62 Bz0 (by decide)) ?_;refine L.pu 0 [.pointer (some ⟨m10,0,none⟩)] #[.pointer (some ⟨m10,0,none⟩),.pointer none,.pointer none,.pointer none,.pointer none,.pointer none,.pointer none,.pointer none,.pointer none,.pointer none] Bz0 c7 (fun w I1 hg D2=>?_);refine U26 ?_;intro T5 hb hW V4 J5;have c7:=I1;refine U77 ?_;refine U27 ?_;intro u6 hb hW c7 V4 J5;clear u6;generalize w.drew=w at *;refine U20 ?_;refine U430 ?_;refine L.call (N7 rfl rfl rfl func52 rfl Vz0 rfl) (mk0 wb 2 0 _ hW) ?_;rintro _ w ⟨m20,s20,rfl,eg1,Yr0,o5,Q4,Y1⟩;have Ys0:=Nat.le_trans hb.size eg1;have Yt0:=Nat.le_trans hb.size Yr0;have St0:s10≠s20:=Nat.ne_of_lt (Nat.lt_of_lt_of_le (R3 V4).lt Yr0);refine U39 ?_;intro hb hW c7 V4 J5;refine L.nil ⟨rfl,trivial,?_⟩;refine U8 ?_;refine L.va (Z1 (i:=0) (n:=2) rfl rfl underlying64 vv0 (by decide)) ?_;refine L.pu 2 [.pointer (some ⟨m20,0,none⟩)] #[.pointer (some ⟨m10,0,none⟩),.pointer none,.pointer (some ⟨m20,0,none⟩),.pointer none,.pointer none,.pointer none,.pointer none,.pointer none,.pointer none,.pointer none] vv0 c7 (fun w I1 hg D2=>?_);refine U26 ?_;intro T5 hb hW V4 J5;refine U352 ?_;intro Q4 o5;have c7:=I1;refine U77 ?_;refine U27 ?_;intro u6 hb hW c7 V4 J5;refine U419 ?_;intro Q4 o5;clear u6;generalize w.drew=w at *;refine U20 ?_;refine U431 ?_;refine L.call (w8 rfl rfl rfl rfl func53 rfl Wa0 rfl) (ml0 wb 3 0 0 _ hW) ?_;rintro _ w ⟨s30,a30,rfl,eh1,p5,Y1⟩;have Yu0:=Nat.le_trans hb.size eh1;refine U39 ?_;intro hb hW c7 V4 J5;refine U420 ?_;intro Q4 o5;refine L.nil ⟨rfl,trivial,?_⟩;refine U8 ?_;refine L.va (Z1 (i:=0) (n:=2) rfl rfl underlying66 Ca0 (by decide)) ?_;refine L.pu 4 [.pointer (some ⟨s30,0,none⟩)] #[.pointer (some ⟨m10,0,none⟩),.pointer none,.pointer (some ⟨m20,0,none⟩),.pointer none,.pointer (some ⟨s30,0,none⟩),.pointer none,.pointer none,.pointer none,.pointer none,.pointer none] Ca0 c7 (fun w I1 hg D2=>?_);refine U26 ?_;intro T5 hb hW V4 J5;refine U35 ?_;intro Q4 o5 p5;have c7:=I1;refine U77 ?_;refine U27 ?_;intro u6 hb hW c7 V4 J5;refine U477 ?_;intro Q4 o5 p5;clear u6;generalize w.drew=w at *;refine U20 ?_;refine U432 ?_;refine L.call (w8 rfl rfl rfl rfl func54 rfl Wb0 rfl) (sg0 wb 4 0 0 _ hW) ?_;rintro _ w ⟨s40,a40,rfl,ei1,W5,Y1⟩;have Yv0:=Nat.le_trans hb.size ei1;refine U39 ?_;intro hb hW c7 V4 J5;refine U478 ?_;intro Q4 o5 p5;refine L.nil ⟨rfl,trivial,?_⟩;refine U8 ?_;refine L.va (Z1 (i:=0) (n:=2) rfl rfl underlying68 Cb0 (by decide)) ?_;refine L.pu 6 [.pointer (some ⟨s40,0,none⟩)] #[.pointer (some ⟨m10,0,none⟩),.pointer none,.pointer (some ⟨m20,0,none⟩),.pointer none,.pointer (some ⟨s30,0,none⟩),.pointer none,.pointer (some ⟨s40,0,none⟩),.pointer none,.pointer none,.pointer none] Cb0 c7 (fun w I1 hg D2=>?_);refine U26 ?_;intro T5 hb hW V4 J5;refine U35 ?_;intro Q4 o5 p5;have W5:=W5.mod T5 rfl;have c7:=I1;clear T5;refine U0 ?_;refine U27 ?_;intro u6 hb hW c7 V4 J5;refine U78 ?_;intro Q4 o5 p5 W5;clear u6;generalize w.drew=w at *;refine U20 ?_;refine U433 ?_;refine L.call (w8 rfl rfl rfl rfl func55 rfl Wc0 rfl) (Bd0 wb 5 0 0 _ hW) ?_;rintro _ w ⟨s50,rfl,ej1,X5,Y1⟩;have Yw0:=Nat.le_trans hb.size ej1;refine U39 ?_;intro hb hW c7 V4 J5;refine U79 ?_;intro Q4 o5 p5 W5;refine L.nil ⟨rfl,trivial,?_⟩;refine U8 ?_;refine L.va (Z1 (i:=0) (n:=2) rfl rfl underlying70 Cc0 (by decide)) ?_;refine L.pu 8 [.pointer (some ⟨s50,0,none⟩)] #[.pointer (some ⟨m10,0,none⟩),.pointer none,.pointer (some ⟨m20,0,none⟩),.pointer none,.pointer (some ⟨s30,0,none⟩),.pointer none,.pointer (some ⟨s40,0,none⟩),.pointer none,.pointer (some ⟨s50,0,none⟩),.pointer none] Cc0 c7 (fun w I1 hg D2=>?_);refine U26 ?_;intro T5 hb hW V4 J5;refine U35 ?_;intro Q4 o5 p5;refine U70 ?_;intro W5 X5;have c7:=I1;clear T5;refine L.nil ?_;refine U123 ?_;refine L.va (W4 rfl) ?_;refine L.va (to0 (r:=1) (by decide) (by decide) rfl rfl) ?_;refine U203 ?_;refine T.nrm ?_;refine cj0.go ?_;refine U32 ?_;refine L.va (L2 (r:=true) (by decide) (es0 (m:=1) (k:=2) rfl rfl)) ?_;refine U31 ?_;refine U244 ?_;refine U172 ?_;refine U27 ?_;intro u6 hb hW c7 V4 J5;refine U78 ?_;intro Q4 o5 p5 W5;have X5:=X5.A0 u6;clear u6;generalize w.drew=w at *;refine U20 ?_;refine U429 ?_;refine L.call (N7 rfl rfl rfl func51 rfl Vy0 rfl) (ws0 wb 1 1 _ hW) ?_;rintro _ w ⟨m11,s11,rfl,ek1,Su0,W8,e7,Y1⟩;have Yx0:=Nat.le_trans hb.size ek1;have Yy0:=Nat.le_trans hb.size Su0;have Sv0:s10≠s11:=Nat.ne_of_lt (Nat.lt_of_lt_of_le (R3 V4).lt Su0);have Sw0:s20≠s11:=Nat.ne_of_lt (Nat.lt_of_lt_of_le (R3 Q4).lt Su0);refine U39 ?_;intro hb hW c7 V4 J5;refine U79 ?_;intro Q4 o5 p5 W5;have X5:=X5.A0 Y1;refine L.nil ⟨rfl,trivial,?_⟩;refine U8 ?_;refine L.va (Z1 (i:=1) (n:=2) rfl rfl underlying62 Bz0 (by decide)) ?_;refine L.pu 1 [.pointer (some ⟨m11,0,none⟩)] #[.pointer (some ⟨m10,0,none⟩),.pointer (some ⟨m11,0,none⟩),.pointer (some ⟨m20,0,none⟩),.pointer none,.pointer (some ⟨s30,0,none⟩),.pointer none,.pointer (some ⟨s40,0,none⟩),.pointer none,.pointer (some ⟨s50,0,none⟩),.pointer none] Bz0 c7 (fun w I1 hg D2=>?_);refine U26 ?_;intro T5 hb hW V4 J5;refine U35 ?_;intro Q4 o5 p5;refine U70 ?_;intro W5 X5;refine U99 ?_;intro e7 W8;have c7:=I1;refine U77 ?_;refine U27 ?_;intro u6 hb hW c7 V4 J5;refine U78 ?_;intro Q4 o5 p5 W5;have X5:=X5.A0 u6;have e7:=e7.A0 u6;have W8:=W8.A0 u6;clear u6;generalize w.drew=w at *;refine U20 ?_;refine U430 ?_;refine L.call (N7 rfl rfl rfl func52 rfl Vz0 rfl) (mk0 wb 2 1 _ hW) ?_;rintro _ w ⟨m21,s21,rfl,el1,Mq0,bf0,r8,Y1⟩;have Yz0:=Nat.le_trans hb.size el1;have Za0:=Nat.le_trans hb.size Mq0;have Sx0:s10≠s21:=Nat.ne_of_lt (Nat.lt_of_lt_of_le (R3 V4).lt Mq0);have Sy0:s20≠s21:=Nat.ne_of_lt (Nat.lt_of_lt_of_le (R3 Q4).lt Mq0);have Sz0:s11≠s21:=Nat.ne_of_lt (Nat.lt_of_lt_of_le (R3 e7).lt Mq0);refine U39 ?_;intro hb hW c7 V4 J5;refine U79 ?_;intro Q4 o5 p5 W5;have X5:=X5.A0 Y1;have e7:=e7.A0 Y1;have W8:=W8.A0 Y1;refine L.nil ⟨rfl,trivial,?_⟩;refine U8 ?_;refine L.va (Z1 (i:=1) (n:=2) rfl rfl underlying64 vv0 (by decide)) ?_;refine L.pu 3 [.pointer (some ⟨m21,0,none⟩)] #[.pointer (some ⟨m10,0,none⟩),.pointer (some ⟨m11,0,none⟩),.pointer (some ⟨m20,0,none⟩),.pointer (some ⟨m21,0,none⟩),.pointer (some ⟨s30,0,none⟩),.pointer none,.pointer (some ⟨s40,0,none⟩),.pointer none,.pointer (some ⟨s50,0,none⟩),.pointer none] vv0 c7 (fun w I1 hg D2=>?_);refine U26 ?_;intro T5 hb hW V4 J5;refine U35 ?_;intro Q4 o5 p5;refine U70 ?_;intro W5 X5;refine U99 ?_;intro e7 W8;have r8:=r8.mod T5 rfl;have bf0:=bf0.mod T5 rfl;have c7:=I1;refine U77 ?_;refine U27 ?_;intro u6 hb hW c7 V4 J5;refine U78 ?_;intro Q4 o5 p5 W5;have X5:=X5.A0 u6;have e7:=e7.A0 u6;have W8:=W8.A0 u6;have r8:=r8.A0 u6;have bf0:=bf0.A0 u6;clear u6;generalize w.drew=w at *;refine U20 ?_;refine U431 ?_;refine L.call (w8 rfl rfl rfl rfl func53 rfl Wa0 rfl) (ml0 wb 3 1 0 _ hW) ?_;rintro _ w ⟨s31,a31,rfl,Zb0,X9,Y1⟩;have Zc0:=Nat.le_trans hb.size Zb0;have Ta0:s30≠s31:=Nat.ne_of_lt (Nat.lt_of_lt_of_le (R3 p5).lt Zb0);refine U39 ?_;intro hb hW c7 V4 J5;refine U79 ?_;intro Q4 o5 p5 W5;have X5:=X5.A0 Y1;have e7:=e7.A0 Y1;have W8:=W8.A0 Y1;have r8:=r8.A0 Y1;have bf0:=bf0.A0 Y1;refine L.nil ⟨rfl,trivial,?_⟩;refine U8 ?_;refine L.va (Z1 (i:=1) (n:=2) rfl rfl underlying66 Ca0 (by decide)) ?_;refine L.pu 5 [.pointer (some ⟨s31,0,none⟩)] #[.pointer (some ⟨m10,0,none⟩),.pointer (some ⟨m11,0,none⟩),.pointer (some ⟨m20,0,none⟩),.pointer (some ⟨m21,0,none⟩),.pointer (some ⟨s30,0,none⟩),.pointer (some ⟨s31,0,none⟩),.pointer (some ⟨s40,0,none⟩),.pointer none,.pointer (some ⟨s50,0,none⟩),.pointer none] Ca0 c7 (fun w I1 hg D2=>?_);refine U26 ?_;intro T5 hb hW V4 J5;refine U35 ?_;intro Q4 o5 p5;refine U70 ?_;intro W5 X5;refine U99 ?_;intro e7 W8;have r8:=r8.mod T5 rfl;have bf0:=bf0.mod T5 rfl;have X9:=X9.mod T5 rfl;have c7:=I1;refine U77 ?_;refine U27 ?_;intro u6 hb hW c7 V4 J5;refine U78 ?_;intro Q4 o5 p5 W5;have X5:=X5.A0 u6;have e7:=e7.A0 u6;have W8:=W8.A0 u6;have r8:=r8.A0 u6;have bf0:=bf0.A0 u6;have X9:=X9.A0 u6;clear u6;generalize w.drew=w at *;refine U20 ?_;refine U432 ?_;refine L.call (w8 rfl rfl rfl rfl func54 rfl Wb0 rfl) (sg0 wb 4 1 0 _ hW) ?_;rintro _ w ⟨s41,a41,rfl,Zd0,dq0,Y1⟩;have Ze0:=Nat.le_trans hb.size Zd0;have Tb0:s40≠s41:=Nat.ne_of_lt (Nat.lt_of_lt_of_le (R3 W5).lt Zd0);refine U39 ?_;intro hb hW c7 V4 J5;refine U79 ?_;intro Q4 o5 p5 W5;have X5:=X5.A0 Y1;have e7:=e7.A0 Y1;have W8:=W8.A0 Y1;have r8:=r8.A0 Y1;have bf0:=bf0.A0 Y1;have X9:=X9.A0 Y1;refine L.nil ⟨rfl,trivial,?_⟩;refine U8 ?_;refine L.va (Z1 (i:=1) (n:=2) rfl rfl underlying68 Cb0 (by decide)) ?_;refine L.pu 7 [.pointer (some ⟨s41,0,none⟩)] #[.pointer (some ⟨m10,0,none⟩),.pointer (some ⟨m11,0,none⟩),.pointer (some ⟨m20,0,none⟩),.pointer (some ⟨m21,0,none⟩),.pointer (some ⟨s30,0,none⟩),.pointer (some ⟨s31,0,none⟩),.pointer (some ⟨s40,0,none⟩),.pointer (some ⟨s41,0,none⟩),.pointer (some ⟨s50,0,none⟩),.pointer none] Cb0 c7 (fun w I1 hg D2=>?_);refine U26 ?_;intro T5 hb hW V4 J5;refine U35 ?_;intro Q4 o5 p5;refine U70 ?_;intro W5 X5;refine U99 ?_;intro e7 W8;have r8:=r8.mod T5 rfl;have bf0:=bf0.mod T5 rfl;have X9:=X9.mod T5 rfl;have dq0:=dq0.mod T5 rfl;have c7:=I1;clear T5;refine U0 ?_;refine U27 ?_;intro u6 hb hW c7 V4 J5;refine U78 ?_;intro Q4 o5 p5 W5;have X5:=X5.A0 u6;have e7:=e7.A0 u6;have W8:=W8.A0 u6;have r8:=r8.A0 u6;have bf0:=bf0.A0 u6;have X9:=X9.A0 u6;have dq0:=dq0.A0 u6;clear u6;generalize w.drew=w at *;refine U20 ?_;refine U433 ?_;refine L.call (w8 rfl rfl rfl rfl func55 rfl Wc0 rfl) (Bd0 wb 5 1 0 _ hW) ?_;rintro _ w ⟨s51,rfl,Zf0,mm0,Y1⟩;have Zg0:=Nat.le_trans hb.size Zf0;have Tc0:s50≠s51:=Nat.ne_of_lt (Nat.lt_of_lt_of_le (R3 X5).lt Zf0);have hb:=N0 hb Y1;have c7:=c7.A0 Y1;refine U389 ?_;intro V4 J5;refine U79 ?_;intro Q4 o5 p5 W5;have X5:=X5.A0 Y1;have e7:=e7.A0 Y1;have W8:=W8.A0 Y1;have r8:=r8.A0 Y1;have bf0:=bf0.A0 Y1;have X9:=X9.A0 Y1;have dq0:=dq0.A0 Y1;refine L.nil ⟨rfl,trivial,?_⟩;refine U8 ?_;refine L.va (Z1 (i:=1) (n:=2) rfl rfl underlying70 Cc0 (by decide)) ?_;refine L.pu 9 [.pointer (some ⟨s51,0,none⟩)] #[.pointer (some ⟨m10,0,none⟩),.pointer (some ⟨m11,0,none⟩),.pointer (some ⟨m20,0,none⟩),.pointer (some ⟨m21,0,none⟩),.pointer (some ⟨s30,0,none⟩),.pointer (some ⟨s31,0,none⟩),.pointer (some ⟨s40,0,none⟩),.pointer (some ⟨s41,0,none⟩),.pointer (some ⟨s50,0,none⟩),.pointer (some ⟨s51,0,none⟩)] Cc0 c7 (fun w I1 hg D2=>?_);refine U303 ?_;intro T5 hb;refine U331 ?_;intro V4 J5;refine U35 ?_;intro Q4 o5 p5;refine U70 ?_;intro W5 X5;refine U99 ?_;intro e7 W8;have r8:=r8.mod T5 rfl;have bf0:=bf0.mod T5 rfl;have X9:=X9.mod T5 rfl;have dq0:=dq0.mod T5 rfl;have mm0:=mm0.mod T5 rfl;have c7:=I1;clear T5;refine L.nil ?_;refine U123 ?_;refine L.va (W4 rfl) ?_;refine L.va (to0 (r:=2) (by decide) (by decide) rfl rfl) ?_;refine U203 ?_;refine T.nrm ?_;refine cj0.go ?_;refine U32 ?_;refine L.va (L2 (r:=false) (by decide) (es0 (m:=2) (k:=2) rfl rfl)) ?_;refine U269 ?_;refine W.exit ?_;refine U73 ?_;refine U265 ?_;refine⟨b6,sel s10 s11 s20 s21 s30 s31 s40 s41 s50 s51,sel m10 m11 m20 m21 0 0 0 0 0 0,rfl,⟨c7,lt6,fun t n h1 h2 h3=>?_,fun t n h1 h2 h3=>?_,fun t n h1 h2 h3=>?_,?_⟩,hb⟩
 ·obtain rfl|rfl:t=1\/t=2:=by omega
  ·obtain rfl|rfl:n=0\/n=1:=by omega
   ·exact⟨J5,Yp0⟩
   ·exact⟨W8,Yx0⟩
  ·obtain rfl|rfl:n=0\/n=1:=by omega
   ·exact⟨o5,Ys0⟩
   ·exact⟨bf0,Yz0⟩
 ·obtain rfl|rfl|rfl|rfl|rfl:t=1\/t=2\/t=3\/t=4\/t=5:=by omega
  ·obtain rfl|rfl:n=0\/n=1:=by omega
   ·exact⟨.bool false,V4⟩
   ·exact⟨.bool false,e7⟩
  ·obtain rfl|rfl:n=0\/n=1:=by omega
   ·exact⟨.bool false,Q4⟩
   ·exact⟨.bool false,r8⟩
  ·obtain rfl|rfl:n=0\/n=1:=by omega
   ·exact⟨a30,p5⟩
   ·exact⟨a31,X9⟩
  ·obtain rfl|rfl:n=0\/n=1:=by omega
   ·exact⟨a40,W5⟩
   ·exact⟨a41,dq0⟩
  ·obtain rfl|rfl:n=0\/n=1:=by omega
   ·exact⟨.bool false,X5⟩
   ·exact⟨.bool false,mm0⟩
 ·obtain rfl|rfl|rfl|rfl|rfl:t=1\/t=2\/t=3\/t=4\/t=5:=by omega
  ·obtain rfl|rfl:n=0\/n=1:=by omega
   ·exact Yq0
   ·exact Yy0
  ·obtain rfl|rfl:n=0\/n=1:=by omega
   ·exact Yt0
   ·exact Za0
  ·obtain rfl|rfl:n=0\/n=1:=by omega
   ·exact Yu0
   ·exact Zc0
  ·obtain rfl|rfl:n=0\/n=1:=by omega
   ·exact Yv0
   ·exact Ze0
  ·obtain rfl|rfl:n=0\/n=1:=by omega
   ·exact Yw0
   ·exact Zg0
 ·refine Ss0 s10 s11 s20 s21 s30 s31 s40 s41 s50 s51 Sv0 St0 Sx0 (k3 V4 p5 (by decide)) (k3 V4 X9 (by decide)) (k3 V4 W5 (by decide)) (k3 V4 dq0 (by decide)) (k3 V4 X5 (by decide)) (k3 V4 mm0 (by decide)) Sw0.symm Sz0 (k3 e7 p5 (by decide)) (k3 e7 X9 (by decide)) (k3 e7 W5 (by decide)) (k3 e7 dq0 (by decide)) (k3 e7 X5 (by decide)) (k3 e7 mm0 (by decide)) Sy0 (k3 Q4 p5 (by decide)) (k3 Q4 X9 (by decide)) (k3 Q4 W5 (by decide)) (k3 Q4 dq0 (by decide)) (k3 Q4 X5 (by decide)) (k3 Q4 mm0 (by decide)) (k3 r8 p5 (by decide)) (k3 r8 X9 (by decide)) (k3 r8 W5 (by decide)) (k3 r8 dq0 (by decide)) (k3 r8 X5 (by decide)) (k3 r8 mm0 (by decide)) Ta0 (k3 p5 W5 (by decide)) (k3 p5 dq0 (by decide)) (k3 p5 X5 (by decide)) (k3 p5 mm0 (by decide)) (k3 X9 W5 (by decide)) (k3 X9 dq0 (by decide)) (k3 X9 X5 (by decide)) (k3 X9 mm0 (by decide)) Tb0 (k3 W5 X5 (by decide)) (k3 W5 mm0 (by decide)) (k3 dq0 X5 (by decide)) (k3 dq0 mm0 (by decide)) Tc0
end
end Go.Vy.Sc
end
section
namespace Go.Vy.Sc
open Go Go.Conc Go.Yc Go.RowKit Go.Proofs Go.Proofs.YtnifpkopeheodaaGreat Tryz
open Go.Vc Go.Wg
open Go.ConcN (sumTo)
structure V7 (w:World) (ba:Option Addr) (m:Nat) (bo:Nat->List D3) (oa:Nat->Option Addr) (oc:Nat->Nat):Prop where
 sl:SL ba m
 row:∀i,i<m->w.cell? ⟨ab ba,ao ba+i*1,none⟩=some (.slice (oa i) (bo i).length (oc i))
 ops:∀i,i<m->fg0 w (oa i) (bo i)
 len:∀i,i<m->(bo i).length <=1048576
theorem V7.A0 {w w':World} {ba:Option Addr} {m:Nat} {bo:Nat->List D3} {oa:Nat->Option Addr} {oc:Nat->Nat} (h:V7 w ba m bo oa oc) (hb:Below w.heap.size w w'):V7 w' ba m bo oa oc :=
 ⟨h.sl,fun i hi=>eg0 (h.row i hi) hb,fun i hi=>(h.ops i hi).A0 hb,h.len⟩
structure Mr0 (m:Nat) (bo:Nat->List D3) (sn:Nat):Prop where
 m1:m <=16
 sum:sumTo m (fun i=>(bo i).length) <=3000
 ops:∀i,i<m->∀o,o∈bo i->POk o
 sn1:sn <=20000
theorem Be0 {bo:Nat->List D3}:∀{i:Nat},(∀j,j<i->(bo j).length <=1048576)->sumTo i (fun j=>(bo j).length) <=i*1048576
 |0,_=>Nat.le_refl _
 |i+1,h=>by
  have h1:=Be0 (bo:=bo) (i:=i) fun j hj=>h j (by omega);have h2:=h i (by omega);show sumTo i _+(bo i).length <=_;omega
theorem Im0 {bo:Nat->List D3} {i m:Nat} {x:Int} (hl:∀j,j<m->(bo j).length <=1048576) (hi:i<m) (hx:i <=16->x=(sumTo i (fun j=>(bo j).length):Nat)) (h:i+1 <=16):IntKind.i64.wrap (x+((bo i).length:Int))=(sumTo (i+1) (fun j=>(bo j).length):Nat):=by
 have h1:=Be0 (bo:=bo) (i:=i) fun j hj=>hl j (by omega);have h2:=hl i hi;have h3:=hx (by omega);have h4:i*1048576 <=16*1048576:=Nat.mul_le_mul_right _ (by omega);show _=((sumTo i (fun j=>(bo j).length)+(bo i).length:Nat):Int);rw[IntWalk.i64_in _ (by omega),h3];omega
theorem Td0 {bo:Nat->List D3} {i:Nat}:sumTo i (fun j=>(bo j).length) <=sumTo (i+1) (fun j=>(bo j).length):=Nat.le_add_right _ _
theorem Ms0 {bo:Nat->List D3} {i k:Nat} {x y:Int} (hx:i <=16->x=(sumTo i (fun j=>(bo j).length):Nat)) (hk:i <=16->x <=3000->∀j,j<i->∀o,o∈bo j->POk o) (hy:i+1 <=16->y=(sumTo (i+1) (fun j=>(bo j).length):Nat))
  (hq:∀(q:Nat) o,q<k->(bo i)[q]? =some o->POk o) (he:¬(k<(bo i).length/\y <=3000)):i+1 <=16->y <=3000->∀j,j<i+1->∀o,o∈bo j->POk o:=by
 intro h1 h2 j V2 o ho;have h3:=hx (by omega);have h4:=hy h1;have h5:=Td0 (bo:=bo) (i:=i);by_cases e:j=i
 ·subst e;obtain⟨q,hq1⟩:=List.mem_iff_getElem?.1 ho;have hq2:=(List.getElem?_eq_some_iff.1 hq1).1;exact hq q o (by omega) hq1
 ·exact hk (by omega) (by omega) j (by omega) o ho
section
variable [Ctx prog]
theorem Mt0 (o:D3) (w0:World):C prog 37 #[.agg #[.int .i64 o.c5,.int .i64 o.jn0,.int .i64 o.call,.int .i64 o.val]] w0 fun v w=>∃b,v= .bool b/\(b=true↔POk o)/\Below w0.heap.size w0 w:=by
 refine C.enter (n:=55) func37 rfl rfl ?_;refine U496 ?_;intro hb w b1 F1;have lt1:=F1.lq hb.size;have hb:=N0 hb F1.below;have hB1:=F1.blk;refine U7 ?_;refine U46 ?_;refine L.va (F0 rfl underlying3 rfl (hB1.E0 0 (v:=.int .i64 o.c5) rfl)) ?_;refine U0 ?_;refine U21 ?_;refine L.va (O4 rfl rfl) ?_;refine U7 ?_;refine W.cp0 rfl (fun h5=>?_) (fun h5=>?_)
 ·refine W.seq ?_;refine U184 ?_;refine L.gd0 4 [10,11,12,13,14] 14 (.bool (decide (o.call=1\/o.call=2))) (tj:=10) rfl (fun Te0=>?_) (fun Te0=>?_) (fun f=>?_)
  ·refine L.off rfl ?_;refine U181 ?_;refine⟨rfl,congrArg Value.bool (by first|exact Kg0 Te0|rfl|(simp_all;done)|(rw[Bool.eq_iff_iff];simp_all;omega)),?_⟩;exact V0.upd rfl (V0.upd rfl (V0.upd rfl (V0.upd rfl (V0.upd rfl (V0.refl _ _)))))
  ·refine L.on rfl ?_;refine U182 ?_;refine⟨rfl,congrArg Value.bool (by first|exact Kh0 Te0|rfl|(simp_all;done)|(rw[Bool.eq_iff_iff];simp_all;omega)),?_⟩;exact V0.upd rfl (V0.upd rfl (V0.upd rfl (V0.upd rfl (V0.upd rfl (V0.refl _ _)))))
  exact U96
 ·refine W.seq ?_;refine U188 ?_;refine W.cp0 rfl (fun h15=>?_) (fun h15=>?_)
  ·refine W.seq ?_;refine U403 ?_;refine L.va (zy0 rfl rfl) ?_;refine L.va (ai0 rfl) ?_;refine L.gd0 4 [20,21,22,23,24] 24 (.bool (decide (1 <=o.call/\o.call <=4))) (tj:=20) rfl (fun Tf0=>?_) (fun Tf0=>?_) (fun f=>?_)
   ·refine L.on rfl ?_;refine U305 ?_;refine U190 ?_;refine⟨rfl,congrArg Value.bool (by first|exact vj0 Tf0|rfl|(simp_all;done)|(rw[Bool.eq_iff_iff];simp_all;omega)),?_⟩;exact V0.upd rfl (V0.upd rfl (V0.upd rfl (V0.upd rfl (V0.upd rfl (V0.refl _ _)))))
   ·refine L.off rfl ?_;refine U101 ?_;refine⟨rfl,congrArg Value.bool (by first|exact vi0 Tf0|rfl|(simp_all;done)|(rw[Bool.eq_iff_iff];simp_all;omega)),?_⟩;exact V0.upd rfl (V0.upd rfl (V0.upd rfl (V0.upd rfl (V0.upd rfl (V0.refl _ _)))))
   exact U96
  ·refine W.seq ?_;refine U188 ?_;refine W.cp0 rfl (fun h25=>?_) (fun h25=>?_)
   ·refine W.seq ?_;refine U184 ?_;refine L.gd0 4 [30,31,32,33,34] 34 (.bool (decide (o.call=5\/o.call=7))) (tj:=30) rfl (fun Tg0=>?_) (fun Tg0=>?_) (fun f=>?_)
    ·refine L.off rfl ?_;refine U181 ?_;refine⟨rfl,congrArg Value.bool (by first|exact Kg0 Tg0|rfl|(simp_all;done)|(rw[Bool.eq_iff_iff];simp_all;omega)),?_⟩;exact V0.upd rfl (V0.upd rfl (V0.upd rfl (V0.upd rfl (V0.upd rfl (V0.refl _ _)))))
    ·refine L.on rfl ?_;refine U182 ?_;refine⟨rfl,congrArg Value.bool (by first|exact Kh0 Tg0|rfl|(simp_all;done)|(rw[Bool.eq_iff_iff];simp_all;omega)),?_⟩;exact V0.upd rfl (V0.upd rfl (V0.upd rfl (V0.upd rfl (V0.upd rfl (V0.refl _ _)))))
    exact U96
   ·refine W.seq ?_;refine U188 ?_;refine W.cp0 rfl (fun h35=>?_) (fun h35=>?_)
    ·refine W.seq ?_;refine U184 ?_;refine L.gd0 4 [40,41,42,43,44] 44 (.bool (decide (o.call=5\/o.call=6))) (tj:=40) rfl (fun Th0=>?_) (fun Th0=>?_) (fun f=>?_)
     ·refine L.off rfl ?_;refine U181 ?_;refine⟨rfl,congrArg Value.bool (by first|exact Kg0 Th0|rfl|(simp_all;done)|(rw[Bool.eq_iff_iff];simp_all;omega)),?_⟩;exact V0.upd rfl (V0.upd rfl (V0.upd rfl (V0.upd rfl (V0.upd rfl (V0.refl _ _)))))
     ·refine L.on rfl ?_;refine U182 ?_;refine⟨rfl,congrArg Value.bool (by first|exact Kh0 Th0|rfl|(simp_all;done)|(rw[Bool.eq_iff_iff];simp_all;omega)),?_⟩;exact V0.upd rfl (V0.upd rfl (V0.upd rfl (V0.upd rfl (V0.upd rfl (V0.refl _ _)))))
     exact U96
    ·refine W.seq ?_;refine U188 ?_;refine W.cp0 rfl (fun h45=>?_) (fun h45=>?_)
     ·refine W.seq ?_;refine U184 ?_;refine L.gd0 4 [50,51,52,53,54] 54 (.bool (decide (o.call=8\/o.call=9))) (tj:=50) rfl (fun zd0=>?_) (fun zd0=>?_) (fun f=>?_)
      ·refine L.off rfl ?_;refine U181 ?_;refine⟨rfl,congrArg Value.bool (by first|exact Kg0 zd0|rfl|(simp_all;done)|(rw[Bool.eq_iff_iff];simp_all;omega)),?_⟩;exact V0.upd rfl (V0.upd rfl (V0.upd rfl (V0.upd rfl (V0.upd rfl (V0.refl _ _)))))
      ·refine L.on rfl ?_;refine U182 ?_;refine⟨rfl,congrArg Value.bool (by first|exact Kh0 zd0|rfl|(simp_all;done)|(rw[Bool.eq_iff_iff];simp_all;omega)),?_⟩;exact V0.upd rfl (V0.upd rfl (V0.upd rfl (V0.upd rfl (V0.upd rfl (V0.refl _ _)))))
      exact U96
     ·refine W.skip ?_;refine U404 ?_;refine U34 ?_;exact⟨_,rfl,by unfold POk;simp only[Bool.false_eq_true,false_iff];omega,hb⟩
set_option maxHeartbeats 1000000 in
theorem Zh0 {m bc sn scp:Nat} {bo:Nat->List D3} {ba sa:Option Addr} {oa:Nat->Option Addr} {oc:Nat->Nat} (w0:World) (hm:m <=1000000000000) (hsn:sn <=9223372036854775807) (hBo:V7 w0 ba m bo oa oc) :
  C prog 9 #[.slice ba m bc,.slice sa sn scp] w0 fun v w=>∃b,v= .bool b/\(b=true->Mr0 m bo sn)/\Below w0.heap.size w0 w:=by
 refine C.enter (n:=55) func9 rfl rfl ?_;have hb:Below w0.heap.size w0 w0:=Below.refl _ _;have hlen:=hBo.len;refine U3 ?_;refine U76 ?_;refine U13 ?_;refine U15 ?_;refine U69 ?_;refine W.loop (fun k e w=>∃(i:Nat),∃(x:Int),k=m-i/\e 0= .slice ba m bc/\e 1= .slice sa sn scp/\e 4= .bool false/\e 5= .int .i64 x/\e 6= .int .i64 (i:Nat)/\i <=m/\(i <=16->x=(sumTo i (fun j=>(bo j).length):Nat))/\(i <=16->x <=3000->∀j,j<i->∀o,o∈bo j->POk o)/\V7 w ba m bo oa oc/\Below w0.heap.size w0 w) _ ⟨0,0,rfl,rfl,rfl,rfl,rfl,rfl,Nat.zero_le _,(fun _=>rfl),(fun _ _ j hj=>absurd hj (Nat.not_lt_zero _)),hBo,hb⟩ ?_;rintro k e w ⟨i,x,hk,s0,s1,s4,s5,s6,hi,hx,hkd,hBo,hb⟩;rw[K1 s0,K1 s1,K1 s4,K1 s5,K1 s6];clear s0 s1 s4 s5 s6;refine U32 ?_;refine U242 ?_;refine U67 ?_;refine W.cp0 rfl (fun h11=>?_) (fun h11=>?_)
 ·have C2:i<m:=by omega
  have hle:=hlen i C2;refine U104 ?_;refine L.va (W4 rfl) ?_;refine U157 ?_;refine U534 ?_;refine L.va (iz0 (κ:=.i64) (m:=x) (k:=((bo i).length:Int)) rfl rfl) ?_;refine U64 ?_;refine U69 ?_;refine W.loop (fun k e w=>∃(k2:Nat),∃(y:Int),k=(bo i).length-k2/\e 0= .slice ba m bc/\e 1= .slice sa sn scp/\e 4= .bool false/\e 5= .int .i64 y/\e 6= .int .i64 (i:Nat)/\e 7= .int .i64 (k2:Nat)/\(i+1 <=16->y=(sumTo (i+1) (fun j=>(bo j).length):Nat))/\k2 <=(bo i).length/\(∀(q:Nat) o,q<k2->(bo i)[q]? =some o->POk o)/\V7 w ba m bo oa oc/\Below w0.heap.size w0 w) _ ⟨0,_,rfl,rfl,rfl,rfl,rfl,rfl,rfl,(Im0 hlen C2 hx),Nat.zero_le _,(fun q o hq=>absurd hq (Nat.not_lt_zero _)),hBo,hb⟩ ?_;rintro k e w ⟨k2,y,hk,s0,s1,s4,s5,s6,s7,hy,hkl,hq,hBo,hb⟩;rw[K1 s0,K1 s1,K1 s4,K1 s5,K1 s6,K1 s7];clear s0 s1 s4 s5 s6 s7;refine U32 ?_;refine U157 ?_;refine U534 ?_;refine L.va (es0 rfl rfl) ?_;refine L.va (ai0 rfl) ?_;refine L.gd0 3 [28,29,30,31] 31 (.bool (decide (k2<(bo i).length/\y <=3000))) (tj:=28) rfl (fun Ti0=>?_) (fun Ti0=>?_) (fun f=>?_)
  ·refine L.on rfl ?_;refine L.va (W4 rfl) ?_;refine U190 ?_;refine⟨rfl,congrArg Value.bool (by first|exact vj0 Ti0|rfl|(simp_all;done)|(rw[Bool.eq_iff_iff];simp_all;omega)),?_⟩;exact V0.upd rfl (V0.upd rfl (V0.upd rfl (V0.upd rfl (V0.refl _ _))))
  ·refine L.off rfl ?_;refine L.off rfl ?_;refine U211 ?_;refine⟨rfl,congrArg Value.bool (by first|exact vi0 Ti0|rfl|(simp_all;done)|(rw[Bool.eq_iff_iff];simp_all;omega)),?_⟩;exact V0.upd rfl (V0.upd rfl (V0.upd rfl (V0.upd rfl (V0.refl _ _))))
  refine U0 ?_;refine W.cp0 rfl (fun h31=>?_) (fun h31=>?_)
  ·obtain⟨o,ho⟩:∃o,(bo i)[k2]? =some o:=⟨_,List.getElem?_eq_getElem h31.1⟩
   refine U104 ?_;refine U157 ?_;refine U297 ?_;refine L.va (W4 rfl) ?_;refine L.va (k9 (i:=k2) rfl rfl underlying50 dk0 (hBo.ops i C2).sl h31.1) ?_;refine L.va (P1 (cs:=yt0 o) rfl underlying52 rfl dk0 rfl (fun q v hq=>(hBo.ops i C2).cell k2 o ho q v hq)) ?_;refine L.call (W2 rfl func37 rfl cc1 rfl) (Mt0 o _) ?_;rintro _ w ⟨b,rfl,hri,Y1⟩;have hb:=N0 hb Y1;have hBo:=hBo.A0 Y1;refine L.va (lc0 rfl) ?_;refine U0 ?_;refine W.cond rfl (fun h42=>?_) (fun h42=>?_)
   ·refine W.seq ?_;refine W.region rfl ?_;refine U34 ?_;exact⟨false,rfl,(fun h=>by cases h),hb⟩
   ·have hbb:b=true:=by simpa using h42
    refine W.skip ?_;refine U177 ?_;exact⟨_,by omega,⟨k2+1,y,rfl,rfl,rfl,rfl,rfl,rfl,rfl,hy,h31.1,(fun q o2 hq2 hq3=>by
     rcases Nat.lt_or_eq_of_le (Nat.le_of_lt_succ hq2)with z|z
     ·exact hq q o2 z hq3
     ·subst z;rw[ho]at hq3;cases hq3;exact hri.1 hbb),hBo,hb⟩⟩
  ·refine W.exit ?_;refine U197 ?_;refine U177 ?_;exact⟨_,by omega,⟨i+1,y,rfl,rfl,rfl,rfl,rfl,rfl,(by omega),hy,(Ms0 hx hkd hy hq h31),hBo,hb⟩⟩
 ·have him:i=m:=by omega
  refine W.exit ?_;refine U73 ?_;refine L.va (W4 rfl) ?_;refine L.va (zx0 rfl rfl) ?_;refine L.va (ai0 rfl) ?_;refine L.gd0 4 [45,46,47,48,49] 49 (.bool (decide (x <=3000/\m <=16))) (tj:=45) rfl (fun Tj0=>?_) (fun Tj0=>?_) (fun f=>?_)
  ·refine L.on rfl ?_;refine L.va (j9 rfl) ?_;refine L.on rfl ?_;refine L.va (M7 rfl underlying22 rfl) ?_;refine U190 ?_;refine⟨rfl,congrArg Value.bool (by first|exact vj0 Tj0|rfl|(simp_all;done)|(rw[Bool.eq_iff_iff];simp_all;omega)),?_⟩;exact V0.upd rfl (V0.upd rfl (V0.upd rfl (V0.upd rfl (V0.upd rfl (V0.refl _ _)))))
  ·refine L.off rfl ?_;refine U101 ?_;refine⟨rfl,congrArg Value.bool (by first|exact vi0 Tj0|rfl|(simp_all;done)|(rw[Bool.eq_iff_iff];simp_all;omega)),?_⟩;exact V0.upd rfl (V0.upd rfl (V0.upd rfl (V0.upd rfl (V0.upd rfl (V0.refl _ _)))))
  refine L.va (ai0 rfl) ?_;refine L.gd0 4 [50,51,52,53,54] 54 (.bool (decide ((x <=3000/\m <=16)/\sn <=20000))) (tj:=50) rfl (fun zd0=>?_) (fun zd0=>?_) (fun f=>?_)
  ·refine L.on rfl ?_;refine L.va (j9 rfl) ?_;refine L.on rfl ?_;refine L.va (M7 rfl underlying23 rfl) ?_;refine U190 ?_;refine⟨rfl,congrArg Value.bool (by first|exact vj0 zd0|rfl|(simp_all;done)|(rw[Bool.eq_iff_iff];simp_all;omega)),?_⟩;exact V0.upd rfl (V0.upd rfl (V0.upd rfl (V0.upd rfl (V0.upd rfl (V0.refl _ _)))))
  ·refine L.off rfl ?_;refine U101 ?_;refine⟨rfl,congrArg Value.bool (by first|exact vi0 zd0|rfl|(simp_all;done)|(rw[Bool.eq_iff_iff];simp_all;omega)),?_⟩;exact V0.upd rfl (V0.upd rfl (V0.upd rfl (V0.upd rfl (V0.upd rfl (V0.refl _ _)))))
  refine U34 ?_;refine⟨_,rfl,fun h=>?_,hb⟩;obtain⟨⟨g1,g2⟩,g3⟩:=of_decide_eq_true h;subst him;have hs:=hx g2;exact⟨g2,by omega,fun j V2 o ho=>hkd g2 g1 j V2 o ho,g3⟩
end
theorem Bf0 {f:Nat->Nat}:∀{m i:Nat},i<m->f i <=sumTo m f
 |m+1,i,h=>by
  show f i <=sumTo m f+f m;rcases Nat.lt_or_eq_of_le (Nat.le_of_lt_succ h)with z|z
  ·have:=Bf0 (f:=f) z;omega
  ·subst z;omega
theorem Zi0 {p:o4}:∀q,(E3 p).Reach q->q.I2=[]:=by
 refine Sys.ind (Y:=E3 p) (fun q=>q.I2=[]) rfl (fun q h _=>?_) (fun q i l h _ hf _=>?_)
 ·show q.I2++tell _ _ (l4 (p.bo q.ft.length) 0 q.s).I2=[];rw[h];rfl
 ·unfold Sys.A5;rw[hf];show q.I2++tell _ _ (goP (p.bo i) i l q.s).I2=[];rw[h,Az0];rfl
def fvP (b1:Nat->Nat) (bp tp k:Nat):Value:=.func (.func 46) #[] #[.pointer (some ⟨b1 k,0,none⟩),.pointer (some ⟨bp,0,none⟩),.pointer (some ⟨tp,0,none⟩)]
theorem Cv0 {m x bp tp:Nat} {b1:Nat->Nat}:(List.range (m+1)).map (fvP (upN b1 m x) bp tp)=(List.range m).map (fvP b1 bp tp) ++ [.func (.func 46) #[] #[.pointer (some ⟨x,0,none⟩),.pointer (some ⟨bp,0,none⟩),.pointer (some ⟨tp,0,none⟩)]]:=by
 rw[List.range_succ,List.map_append];congr 1
 ·apply List.map_congr_left;intro i hi;have:i≠m:=by have:i<m:=(by simpa using hi);omega
  unfold fvP;rw[S4 this]
 ·simp[fvP,B4]
structure Y9 (w:World) (m:Nat) (bo:Nat->List D3) (oa:Nat->Option Addr) (oc b1:Nat->Nat):Prop where
 blk:∀i,i<m->Q0 w (b1 i) #[.slice (oa i) (bo i).length (oc i)] 50
section
variable {w w':World}{m:Nat}{bo:Nat->List D3}{oa:Nat->Option Addr}{oc b1:Nat->Nat}
theorem Y9.A0 (h:Y9 w m bo oa oc b1) (hb:Below w.heap.size w w'):Y9 w' m bo oa oc b1:=⟨fun i hi=>(h.blk i hi).A0 hb⟩
theorem Y9.mod {B:Nat} {TS:List TypeId} (h:Y9 w m bo oa oc b1) (hm:O7 w w' B TS) (hT:TS.contains 50=false):Y9 w' m bo oa oc b1:=⟨fun i hi=>(h.blk i hi).mod hm hT⟩
theorem Y9.snoc {x:Nat} (h:Y9 w m bo oa oc b1) (hx:Q0 w x #[.slice (oa m) (bo m).length (oc m)] 50):Y9 w (m+1) bo oa oc (upN b1 m x):=by
 have key:∀i,i<m+1->i≠m->i<m:=fun i hi hn=>by omega
 refine⟨fun i hi=>?_⟩;by_cases hn:i=m
 ·subst hn;rw[B4];exact hx
 ·rw[S4 hn];exact h.blk i (key i hi hn)
end
theorem cn0 {T:TypeId} (h1:T≠195) (h2:T≠123) (h3:T≠132) (h4:T≠115):∀t,T≠tty t:=fun t=>by
 unfold tty;split
 ·exact h1
 split
 ·exact h2
 split
 ·exact h3
 ·exact h4
theorem In0 (t:Nat):(∀k,mty t≠tty k)/\mty t≠45/\mty t≠2/\mty t≠0/\mty t≠73:=by
 unfold mty;split
 ·exact⟨cn0 (by decide) (by decide) (by decide) (by decide),by decide,by decide,by decide,by decide⟩
 ·exact⟨cn0 (by decide) (by decide) (by decide) (by decide),by decide,by decide,by decide,by decide⟩
section
variable {w w':World}{B wb tb:Nat}{sb mb:Nat->Nat->Nat}
theorem bz0.A0 (h:bz0 w B wb tb sb mb) (hb:Below w.heap.size w w'):bz0 w' B wb tb sb mb :=
 ⟨h.hT.A0 hb,h.lT,fun t n h1 h2 h3=>⟨(h.hM t n h1 h2 h3).1.A0 hb,(h.hM t n h1 h2 h3).2⟩,fun t n h1 h2 h3=>let⟨sa,hS⟩:=h.hS t n h1 h2 h3;⟨sa,hS.A0 hb⟩,h.lS,h.inj⟩
theorem bz0.down {B':Nat} (h:bz0 w B wb tb sb mb) (hB:B' <=B):bz0 w B' wb tb sb mb :=
 ⟨h.hT,Nat.le_trans hB h.lT,fun t n h1 h2 h3=>⟨(h.hM t n h1 h2 h3).1,Nat.le_trans hB (h.hM t n h1 h2 h3).2⟩,h.hS,fun t n h1 h2 h3=>Nat.le_trans hB (h.lS t n h1 h2 h3),h.inj⟩
theorem bz0.mod {B':Nat} {TS:List TypeId} (h:bz0 w B wb tb sb mb) (hm:O7 w w' B' TS) (hT:(TS.contains 72 ||TS.contains 113 ||TS.contains 125 ||TS.contains 195 ||TS.contains 123 ||TS.contains 132 ||TS.contains 115)=false):bz0 w' B wb tb sb mb:=by
 simp only[Bool.or_eq_false_iff]at hT;obtain⟨⟨⟨⟨⟨⟨a1,a2⟩,a3⟩,a4⟩,a5⟩,a6⟩,a7⟩:=hT;refine⟨h.hT.mod hm a1,h.lT,fun t n h1 h2 h3=>⟨(h.hM t n h1 h2 h3).1.mod hm ?_,(h.hM t n h1 h2 h3).2⟩,fun t n h1 h2 h3=>let⟨sa,hS⟩:=h.hS t n h1 h2 h3;⟨sa,hS.mod hm ?_⟩,h.lS,h.inj⟩
 ·unfold mty;split
  ·exact a2
  ·exact a3
 ·unfold tty;split
  ·exact a4
  split
  ·exact a5
  split
  ·exact a6
  ·exact a7
end
abbrev pS (p:o4) (sc:Nat->Int) (sn:Nat):PS:=((E3 p).pn sc sn).s
structure L8 (p:o4) (sc:Nat->Int) (sn B:Nat) (w:World) (R:Rn) (r:G5):Prop where
 lg:Q0 w p.lgb (arr p.m fun i=>.slice (r.la i) ((pS p sc sn).K3 i).length (r.lc i)) 45
 ans:∀i,i<p.m->Own w p.B 2 1 (r.la i) ((pS p sc sn).K3 i).length (r.lc i) (Ii0 ((pS p sc sn).K3 i))
 run:gn0 (E3 p) sc sn B R w
section
variable {p:o4}{sc:Nat->Int}{sn B:Nat}{w w':World}{R:Rn}{r:G5}
theorem L8.A0 (h:L8 p sc sn B w R r) (hb:Below w.heap.size w w'):L8 p sc sn B w' R r :=
 ⟨h.lg.A0 hb,fun i hi=>Own.congr (h.ans i hi) fun ha=>hb.block _ ((h.ans i hi).lt ha),h.run.A0 hb⟩
theorem L8.down {B':Nat} (h:L8 p sc sn B w R r) (hB:B' <=B):L8 p sc sn B' w R r:=⟨h.lg,h.ans,h.run.down hB⟩
theorem L8.n5 (h:L8 p sc sn B w R r) {b:Nat} (hg:w.grownBy w' (some b)) (hn:b<B/\∃cs,Q0 w b cs 30):L8 p sc sn B w' R r:=by
 obtain⟨C2,cs,hB⟩:=hn;exact⟨h.lg.other hg (Q0.ne h.lg hB (by decide)),fun i hi=>(h.ans i hi).n5 hg (Own.Ox0 (h.ans i hi) (R3 hB) (by decide)),h.run.n5 hg fun z=>by have:=h.run.fp b z;omega⟩
end
theorem Io0 {w:World} {a:Addr} {v:Value} (h:w.cell? a=some v):w.heap[a.block]? ≠some nothing:=by
 unfold World.cell? at h;intro e;rw[e]at h;simp[nothing]at h
set_option maxHeartbeats 1000000 in
theorem ze0 {lb:Nat} {pl:Nat->w6} {m sn lc scp wb tb lgb bp tp:Nat} {bo:Nat->List D3} {sc:Nat->Int} {ba l sa:Option Addr} {oa:Nat->Option Addr} {oc b1:Nat->Nat} {sb mb:Nat->Nat->Nat} {w0 w:World} (hBo:V7 w0 ba m bo oa oc) (hz:∀i,m <=i->bo i=[]) (hSc:uh0 w0 sa sn scp sc) (hF:Mr0 m bo sn) (hb:Below w0.heap.size w0 w)
  (hl:Own w w0.heap.size 73 1 l m lc ((List.range m).map (fvP b1 bp tp))) (hTh:bz0 w w0.heap.size wb tb sb mb) (hW:Q0 w wb #[.bool false] 105)
  (hG:Q0 w lgb (arr m fun _=>.slice none 0 0) 45) (hbp:Q0 w bp #[.pointer (some ⟨tb,0,none⟩)] 54) (htp:Q0 w tp #[.slice (some ⟨lgb,0,none⟩) m m] 31) (hx:Y9 w m bo oa oc b1) (l1:w0.heap.size <=lgb) :
  @C prog (l7 lb pl) 48 #[.slice l m lc,.slice sa sn scp] w fun v w'=>∃(p:o4) (R:Rn) (r:G5),v= .tuple #[Go0 R,.int .i64 0]/\(p.m=m/\p.bo=bo/\p.lgb=lgb/\p.B=w0.heap.size)/\l5 p/\L8 p sc sn w.heap.size w' R r /\
   Q0 w' tp #[.slice (some ⟨lgb,0,none⟩) m m] 31/\Below w0.heap.size w0 w'/\(w.heap.size <=w'.heap.size)/\∀(b:Nat) (cs:Array Value),w0.heap.size <=b->Q0 w b cs 30->Q0 w' b cs 30:=by
 classical
 let RO:Nat->Prop:=fun b=>b=tb\/b=wb\/(∃t n,1 <=t/\t <=2/\n<2/\b=mb t n)\/b=bp\/b=tp\/(∃i,i<m/\b=b1 i)\/∃i,i<m/\0<(bo i).length/\b=ab (oa i)
 let p:o4:=⟨m,bo,tb,wb,sb,mb,lgb,RO,w,w0.heap.size,lb,pl⟩
 have M5:∀i,i<m->0<(bo i).length->∃v,w0.cell? ⟨ab (oa i),ao (oa i)+0*4+0,none⟩=some v:=fun i hi hl0=>by
  obtain⟨o,ho⟩:∃o,(bo i)[0]? =some o:=⟨_,List.getElem?_eq_getElem hl0⟩
  exact⟨_,(hBo.ops i hi).cell 0 o ho 0 _ rfl⟩
 have om0:∀i,i<m->0<(bo i).length->ab (oa i)<w0.heap.size:=fun i hi hl0=>by
  obtain⟨v,hv⟩:=M5 i hi hl0;exact gm0 hv
 have hRO:∀b,RO b->b<w0.heap.size\/∃cs T,Q0 w b cs T/\(∀t,T≠tty t)/\T≠45/\T≠2/\T≠0/\T≠73:=by
  rintro b (h|h|⟨t,n,h1,h2,h3,h⟩|h|h|⟨i,hi,h⟩|⟨i,hi,h0,h⟩)
  ·rw[h];exact .inr ⟨_,_,hTh.hT,cn0 (by decide) (by decide) (by decide) (by decide),by decide,by decide,by decide,by decide⟩
  ·rw[h];exact .inr ⟨_,_,hW,cn0 (by decide) (by decide) (by decide) (by decide),by decide,by decide,by decide,by decide⟩
  ·have:=In0 t;rw[h];exact .inr ⟨_,_,(hTh.hM t n h1 h2 h3).1,this.1,this.2.1,this.2.2.1,this.2.2.2.1,this.2.2.2.2⟩
  ·rw[h];exact .inr ⟨_,_,hbp,cn0 (by decide) (by decide) (by decide) (by decide),by decide,by decide,by decide,by decide⟩
  ·rw[h];exact .inr ⟨_,_,htp,cn0 (by decide) (by decide) (by decide) (by decide),by decide,by decide,by decide,by decide⟩
  ·rw[h];exact .inr ⟨_,_,hx.blk i hi,cn0 (by decide) (by decide) (by decide) (by decide),by decide,by decide,by decide,by decide⟩
  ·rw[h];exact .inl (om0 i hi h0)
 have em1:∀b,RO b->b<w.heap.size/\w.heap[b]? ≠some nothing:=fun b hr=>by
  rcases hRO b hr with C2|⟨cs,T,hB,_,_,_,h0,_⟩
  ·have hx:∃i,i<m/\0<(bo i).length/\b=ab (oa i)\/∃cs T,Q0 w b cs T/\T≠0:=by
    rcases hr with h|h|⟨t,n,h1,h2,h3,h⟩|h|h|⟨i,hi,h⟩|⟨i,hi,h0,h⟩
    ·exact⟨0,.inr ⟨_,_,h▸hTh.hT,by decide⟩⟩
    ·exact⟨0,.inr ⟨_,_,h▸hW,by decide⟩⟩
    ·exact⟨0,.inr ⟨_,_,h▸(hTh.hM t n h1 h2 h3).1,(In0 t).2.2.2.1⟩⟩
    ·exact⟨0,.inr ⟨_,_,h▸hbp,by decide⟩⟩
    ·exact⟨0,.inr ⟨_,_,h▸htp,by decide⟩⟩
    ·exact⟨0,.inr ⟨_,_,h▸hx.blk i hi,by decide⟩⟩
    ·exact⟨i,.inl ⟨hi,h0,h⟩⟩
   obtain⟨i,⟨hi,h0,h⟩|⟨cs,T,hB,hT⟩⟩:=hx
   ·obtain⟨v,hv⟩:=M5 i hi h0;have hv':=eg0 hv hb;rw[h];exact⟨gm0 hv',Io0 hv'⟩
   ·exact gq0 hB hT
  ·exact gq0 hB h0
 have hP:l5 p:=by
  refine⟨em1,fun b hr=>?_,fun t n h1 h2 h3=>hTh.lS t n h1 h2 h3,hTh.inj,⟨.inl rfl,hTh.hT⟩,⟨.inr (.inl rfl),hW⟩,fun t n h1 h2 h3=>⟨.inr (.inr (.inl ⟨t,n,h1,h2,h3,rfl⟩)),(hTh.hM t n h1 h2 h3).1⟩,fun i o ho=>?_⟩
  ·rcases hRO b hr with h|⟨cs,T,hB,h1,h2,h3,_,_⟩
   ·exact .inl h
   ·exact .inr ⟨cs,T,hB,h1,h2,h3⟩
  ·rcases Nat.lt_or_ge i m with z|z
   ·exact hF.ops i z o ho
   ·rw[show p.bo i=[] from hz i z]at ho;cases ho
 have hlen:∀i,i<m->(bo i).length <=100000:=fun i hi=>by
  have h1:=Bf0 (f:=fun i=>(bo i).length) hi;have h2:=hF.sum;have h1:(bo i).length <=sumTo m fun i=>(bo i).length:=h1;omega
 have hD:∀i,i<m->ow0 p i (b1 i) bp tp (oa i) (oc i):=fun i hi=>⟨.inr (.inr (.inr (.inr (.inr (.inl ⟨i,hi,rfl⟩))))),.inr (.inr (.inr (.inl rfl))),.inr (.inr (.inr (.inr (.inl rfl)))),fun h0=>.inr (.inr (.inr (.inr (.inr (.inr ⟨i,hi,h0,rfl⟩))))),hx.blk i hi,hbp,htp,(hBo.ops i hi).A0 hb,hlen i hi⟩
 have hO:jm0 (E3 p) (fun _=>46) (fun i=>#[.pointer (some ⟨b1 i,0,none⟩),.pointer (some ⟨bp,0,none⟩),.pointer (some ⟨tp,0,none⟩)]) (fvP b1 bp tp) l sa sn sc:=by
  refine⟨gu0 hP,hF.m1,Nat.le_trans hF.sn1 (by decide),hl.sl,hSc.sl,fun i hi=>.inr ⟨rfl,rfl,_,func46,rfl,cj1⟩,?_,fun base i cb top u F hi _ hs=>?_⟩
  ·rw[Zi0 _ (.inr ⟨sc,sn,rfl⟩)];exact Nat.zero_le _
  ·obtain⟨s,r,hE,hc,_⟩:=R8.start hs hP;exact Cr0 rfl (Sj0 (hD i hi) hi u hE hc)
 let r0:G5:=⟨fun _=>none,fun _=>0⟩
 have hM0:cx0 p w ps0 r0:=⟨hTh.hS,hG,fun i hi=>Own.nil _ _ _ _,fun i j _ _ _ h=>absurd rfl h,fun _ _=>rfl,l1⟩
 have hinv:Sg0 p ps0 (fun _=>0) w (PF p r0):=⟨r0,rfl,hM0⟩
 have hFT:∀b,PF p r0 b->b<w0.heap.size/\RO b\/∃cs T,Q0 w b cs T/\T≠73:=fun b hb2=>by
  rcases hb2 with⟨t,n,h1,h2,h3,rfl⟩|rfl|⟨i,_,ha,_⟩|h
  ·obtain⟨sa,hS⟩:=hTh.hS t n h1 h2 h3;exact .inr ⟨_,_,hS,(cn0 (T:=73) (by decide) (by decide) (by decide) (by decide) t).symm⟩
  ·exact .inr ⟨_,_,hG,by decide⟩
  ·exact absurd rfl ha
  ·rcases hRO b h with z|⟨cs,T,hB,_,_,_,_,h5⟩
   ·exact .inl ⟨z,h⟩
   ·exact .inr ⟨cs,T,hB,h5⟩
 have hlF:0<m->¬PF p r0 (ab l):=fun hm hh=>by
  obtain⟨cur,hc,hle,_⟩:=hl.row (hl.Aa0 hm);rcases hFT _ hh with⟨z,_⟩|⟨cs,T,hB,hT⟩
  ·omega
  ·exact Q0.ne hB hc hT rfl
 have Pa0:∀b,b<w0.heap.size->PF p r0 b->RO b:=fun b C2 hh=>by
  rcases hh with⟨t,n,h1,h2,h3,e⟩|e|⟨i,_,ha,_⟩|h
  ·have:=hTh.lS t n h1 h2 h3;have e:b=sb t n:=e;omega
  ·have e:b=lgb:=e;omega
  ·exact absurd rfl ha
  ·exact h
 have hsF:0<sn->¬PF p r0 (ab sa)\/∀s m w' F',(E3 p).Inv s m w' F'->w'.heap[ab sa]? =w.heap[ab sa]?:=fun h0=>by
  by_cases hr:RO (ab sa)
  ·refine .inr fun s m w' F' hI=>?_;obtain⟨r,_,hr'⟩:∃r,F'=PF p r/\cx0 p w' s r:=hI;exact hr'.ro _ hr
  ·exact .inl fun hh=>hr (Pa0 _ (gm0 (hSc.cell 0 h0)) hh)
 have key:=Ly0 (Y:=E3 p) (m0:=fun _=>0) (lc:=lc) hO hinv (fun j hj=>by
   have hj:j<m:=hj;rw[hl.off,Nat.zero_add,Nat.mul_one];exact hl.cell (by simp[hj])) hlF (hSc.A0 hb) hsF
 refine @Calls.mono _ (l7 lb pl) _ _ _ _ _ key fun e w' he=>?_;cases e with
 |panicked ch=>exact he.elim
 |outgrown=>exact he.elim
 |returned v=>
  obtain⟨R,rfl,hX,⟨m',F',hI,hdR⟩,hos,bx0,Zj0,D2,T7⟩:=he;obtain⟨r,rfl,hR'⟩:∃r,F'=PF p r/\cx0 p w' (pS p sc sn) r:=hI;have Y3:∀(b:Nat) (cs:Array Value),w0.heap.size <=b->Q0 w b cs 30->Q0 w' b cs 30:=fun b cs hlo hB=>by
   refine(T7 b (R3 hB).lt fun hF2=>?_).trans hB;rcases hF2 with⟨t,n,h1,h2,h3,z⟩|z|⟨i,_,ha,_⟩|h
   ·obtain⟨sa,hS⟩:=hTh.hS t n h1 h2 h3;exact Q0.ne hB hS (cn0 (by decide) (by decide) (by decide) (by decide) t) z
   ·exact Q0.ne hB hG (by decide) z
   ·exact absurd rfl ha
   ·rcases h with h|h|⟨t,n,h1,h2,h3,h⟩|h|h|⟨i,hi,h⟩|⟨i,hi,h0,h⟩
    ·exact Q0.ne hB hTh.hT (by decide) h
    ·exact Q0.ne hB hW (by decide) h
    ·exact Q0.ne hB (hTh.hM t n h1 h2 h3).1 (by unfold mty;split <;> decide) h
    ·exact Q0.ne hB hbp (by decide) h
    ·exact Q0.ne hB htp (by decide) h
    ·exact Q0.ne hB (hx.blk i hi) (by decide) h
    ·have:=om0 i hi h0;omega
  refine⟨p,R,r,rfl,⟨rfl,rfl,rfl,rfl⟩,hP,⟨hR'.hG,hR'.hL,hX⟩,(hR'.ro tp (.inr (.inr (.inr (.inr (.inl rfl)))))).trans htp,hb.trans ⟨hos,Zj0,bx0,D2,fun k hk=>?_⟩,D2,Y3⟩;by_cases hkF:PF p r0 k
  ·exact hR'.ro k (Pa0 k hk hkF)
  ·exact T7 k (Nat.lt_of_lt_of_le hk hb.size) hkF
end Go.Vy.Sc
end
section
namespace Go.Vy.Sc
open Go Go.Conc Go.Yc Go.RowKit Go.Proofs Go.Proofs.YtnifpkopeheodaaGreat Tryz
open Go.Vc Go.Wg
theorem Mu0 (m:Nat) (v:Value):Array.replicate (m*1) v=arr m fun _=>v:=by
 rw[Nat.mul_one];apply Array.toList_inj.1;simp[arr,List.map_const']
section
variable [Ctx prog]
theorem Zk0 (x:Int) (w0:World):C prog 49 #[.int .i64 x] w0 fun v w=>v= .int .i64 x/\w=w0:=by
 refine C.enter (n:=4) func49 rfl rfl ?_;refine U3 ?_;refine U64 ?_;refine L.va (W4 rfl) ?_;refine U24 ?_;exact⟨rfl,rfl⟩
end
section
set_option maxHeartbeats 1000000 in
theorem Ip0 {lb:Nat} {pl:Nat->w6} {m bc sn scp:Nat} {bo:Nat->List D3} {sc:Nat->Int} {ba sa:Option Addr} {oa:Nat->Option Addr} {oc:Nat->Nat} (w0:World) (hBo:V7 w0 ba m bo oa oc) (hz:∀i,m <=i->bo i=[]) (hSc:uh0 w0 sa sn scp sc) (hF:Mr0 m bo sn) :
  @C prog (l7 lb pl) 11 #[.slice ba m bc,.slice sa sn scp] w0 fun v w=>∃(p:o4) (R:Rn) (r:G5),v= .tuple #[Go0 R,.slice (some ⟨p.lgb,0,none⟩) m m,.bool true]/\(p.m=m/\p.bo=bo/\p.B=w0.heap.size)/\l5 p/\L8 p sc sn w0.heap.size w R r/\Below w0.heap.size w0 w:=by
 letI:Ctx prog:=l7 lb pl;refine C.enter (n:=44) func11 rfl rfl ?_;have hb:Below w0.heap.size w0 w0:=Below.refl _ _;have ho1:=hF.m1;refine U3 ?_;refine L.alloc (cs:=#[.slice none 0 0,.slice none 0 0,.slice none 0 0,.slice none 0 0,.bool false,.int .i64 0]) Fl0 rfl (fun w b4 F4=>?_);have lt4:=F4.lq hb.size;have hb:=N0 hb F4.below;have m9:=F4.blk;refine L.va (bk0 rfl) ?_;refine U76 ?_;refine L.call (aj0  func36 rfl Vx0 rfl) (jo0 _) ?_;rintro _ w ⟨wb,rfl,hwb,hW,Y1⟩;have hwb:=Nat.le_trans hb.size hwb;have hb:=N0 hb Y1;have m9:=m9.A0 Y1;refine L.call (W2 rfl func16 rfl bo1 rfl) (Il0 wb _ hW) ?_;rintro _ w ⟨tb,sb,mb,rfl,hTh,Y1⟩;have hTh:bz0 w w0.heap.size wb tb sb mb:=hTh.down hb.size;have hb:=N0 hb Y1;have m9:=m9.A0 Y1;have hW:=hW.A0 Y1;have dr0:=m9;have wt0:=hW;have jp0:=hTh;have Z9:=hb;refine L.alloc (cs:=#[.pointer none]) bj1 rfl (fun w b7 F7=>?_);have lt7:=F7.lq hb.size;have hB7:=F7.blk;refine L.pa [.p tb] bi1 hB7 (fun w I1 hg D2=>?_);have W7:=P3 F7.below F7.below.size hg (by have:=F7.here;omega);have m9:=dr0.A0 W7;have hW:=wt0.A0 W7;have hTh:=jp0.A0 W7;have hb:=N0 Z9 W7;have hB7:=I1;clear I1 hg D2 W7 F7 dr0 wt0 jp0 Z9;refine U9 ?_;refine U242 ?_;refine L.make (m:=m) rfl rfl underlying31 bc1 (z0:=.slice none 0 0) rfl (by decide) (by omega) (by omega) (fun w b18 F18=>?_);have hp1:=F18.lq hb.size;have l18:w0.heap.size <=b18:=by omega
 have hb:=N0 hb F18.below;have m9:=m9.A0 F18.below;have hW:=hW.A0 F18.below;have hTh:=hTh.A0 F18.below;have hB7:=hB7.A0 F18.below;have Zl0:=F18.blk;have hG:Q0 w b18 (arr m fun _=>.slice none 0 0) 45:=by have h9:=Zl0;rw[Mu0]at h9;exact h9
 clear Zl0;have dr0:=m9;have wt0:=hW;have jp0:=hTh;have wu0:=hB7;have Iq0:=hG;have Z9:=hb;refine L.alloc (cs:=#[.slice none 0 0]) az1 rfl (fun w b8 F8=>?_);have lt8:=F8.lq hb.size;have hB8:=F8.blk;refine L.pa [.slice (some ⟨b18,0,none⟩) m m] ay1 hB8 (fun w I1 hg D2=>?_);have W7:=P3 F8.below F8.below.size hg (by have:=F8.here;omega);have m9:=dr0.A0 W7;have hW:=wt0.A0 W7;have hTh:=jp0.A0 W7;have hB7:=wu0.A0 W7;have hG:=Iq0.A0 W7;have hb:=N0 Z9 W7;have hB8:=I1;clear I1 hg D2 W7 F8 dr0 wt0 jp0 wu0 Iq0 Z9;refine U9 ?_;refine L.va (bk0 rfl) ?_;refine U54 ?_;refine U69 ?_;refine W.loop (fun k e w=>∃(i:Nat),∃(l:Option Addr),∃(lc:Nat),∃(b1:Nat->Nat),k=m-i/\e 0= .slice ba m bc/\e 1= .slice sa sn scp/\e 4= .pointer (some ⟨b4,0,none⟩)/\e 7= .pointer (some ⟨b7,0,none⟩)/\e 8= .pointer (some ⟨b8,0,none⟩)/\e 9= .slice l i lc/\e 10= .int .i64 (i:Nat)/\i <=m/\Own w w0.heap.size 73 1 l i lc ((List.range i).map (fvP b1 b7 b8))/\Y9 w i bo oa oc b1/\bz0 w w0.heap.size wb tb sb mb/\Q0 w wb #[.bool false] 105/\Q0 w b18 (arr m fun _=>.slice none 0 0) 45/\Q0 w b4 #[.slice none 0 0,.slice none 0 0,.slice none 0 0,.slice none 0 0,.bool false,.int .i64 0] 30/\Q0 w b7 #[.pointer (some ⟨tb,0,none⟩)] 54/\Q0 w b8 #[.slice (some ⟨b18,0,none⟩) m m] 31/\Below w0.heap.size w0 w) _ ⟨0,none,0,(fun _=>0),rfl,rfl,rfl,rfl,rfl,rfl,rfl,rfl,Nat.zero_le _,Own.nil _ _ _ _,⟨fun i hi=>absurd hi (Nat.not_lt_zero _)⟩,hTh,hW,hG,m9,hB7,hB8,hb⟩ ?_;rintro k e w ⟨i,l,lc,b1,hk,s0,s1,s4,s7,s8,s9,s10,hi,hl,hx,hTh,hW,hG,m9,hB7,hB8,hb⟩;rw[K1 s0,K1 s1,K1 s4,K1 s7,K1 s8,K1 s9,K1 s10];clear s0 s1 s4 s7 s8 s9 s10;refine U32 ?_;refine U242 ?_;refine U67 ?_;refine W.cp0 rfl (fun h22=>?_) (fun h22=>?_)
 ·have C2:i<m:=by omega
  refine U104 ?_;refine U157 ?_;refine L.va (k9 (i:=i) rfl rfl underlying22 Kw0 hBo.sl C2) ?_;refine L.va (F0 (v:=.slice (oa i) (bo i).length (oc i)) rfl underlying50 rfl ((hBo.A0 hb).row i C2)) ?_;have Zm0:=hl;have Zn0:=hx;have jp0:=hTh;have wt0:=hW;have Iq0:=hG;have dr0:=m9;have wu0:=hB7;have wv0:=hB8;have Z9:=hb;refine L.alloc (cs:=#[.slice none 0 0]) Vl0 rfl (fun w b11 F11=>?_);have pb0:=F11.lq hb.size;have G4:=F11.blk;refine L.pa [.slice (oa i) ((bo i).length) (oc i)] Kw0 G4 (fun w I1 hg D2=>?_);have W7:=P3 F11.below F11.below.size hg (by have:=F11.here;omega);have hl:=Zm0.A0 W7;have hx:=Zn0.A0 W7;have hTh:=jp0.A0 W7;have hW:=wt0.A0 W7;have hG:=Iq0.A0 W7;have m9:=dr0.A0 W7;have hB7:=wu0.A0 W7;have hB8:=wv0.A0 W7;have hb:=N0 Z9 W7;have G4:=I1;clear I1 hg D2 W7 F11 Zm0 Zn0 jp0 wt0 Iq0 dr0 wu0 wv0 Z9;refine U50 ?_;refine L.va (j9 rfl) ?_;refine L.va (Q3 (l:=[.tmp 11,.tmp 7,.tmp 8]) (vs:=[.pointer (some ⟨b11,0,none⟩),.pointer (some ⟨b7,0,none⟩),.pointer (some ⟨b8,0,none⟩)]) rfl) ?_;refine L.lj0 (cs:=#[.func (.func 46) #[] #[.pointer (some ⟨b11,0,none⟩),.pointer (some ⟨b7,0,none⟩),.pointer (some ⟨b8,0,none⟩)]]) rfl rfl underlying90 Vo0 rfl ⟨_,bk1⟩ (by decide) (fun w b31 F31=>?_);have hr1:=F31.lq hb.size;have hb:=N0 hb F31.below;have hl:=hl.A0 F31.below;have hx:=hx.A0 F31.below;have hTh:=hTh.A0 F31.below;have hW:=hW.A0 F31.below;have hG:=hG.A0 F31.below;have m9:=m9.A0 F31.below;have hB7:=hB7.A0 F31.below;have hB8:=hB8.A0 F31.below;have G4:=G4.A0 F31.below;have en1:=F31.blk;refine L.ed0 (B:=w0.heap.size) (m:=1) rfl rfl underlying90 bl1 rfl (by decide) hl (fun h=>by cases h) (news:=[.func (.func 46) #[] #[.p b11,.p b7,.p b8]]) rfl (fun ad had j u hj=>by
   cases had;rw[Addr.add_lit]
   match j,hj with
   |0,hj=>cases hj;exact en1.E0 0 rfl) (fun u hu=>by simp only[List.mem_cons,List.not_mem_nil,or_false]at hu;subst hu;rfl) (by omega) (by omega) hb.size (fun l2 lc2 w2 hO2 hg2 dg0 _=>?_)
  have hmo:O7 w w2 w0.heap.size [73]:=O7.app hl hg2 dg0 rfl hO2;have hb:=hb.trans dg0;have hx:=hx.mod hmo rfl;have hTh:=hTh.mod hmo rfl;have hW:=hW.mod hmo rfl;have hG:=hG.mod hmo rfl;have m9:=m9.mod hmo rfl;have hB7:=hB7.mod hmo rfl;have hB8:=hB8.mod hmo rfl;have G4:=G4.mod hmo rfl;clear hmo hg2 dg0 hl
  rename World=>w
  refine U257 ?_;refine U177 ?_;exact⟨_,by omega,⟨i+1,l2,lc2,(upN b1 i b11),rfl,rfl,rfl,rfl,rfl,rfl,rfl,rfl,(by omega),(by rw[Cv0];exact hO2),(hx.snoc G4),hTh,hW,hG,m9,hB7,hB8,hb⟩⟩
 ·obtain rfl:m=i:=by omega
  refine W.exit ?_;refine U73 ?_;refine U248 ?_;refine L.call (C4 rfl rfl func48 rfl cl1 rfl) (ze0 hBo hz hSc hF hb hl hTh hW hG hB7 hB8 hx l18) ?_;have h4l:=m9.lt;rintro _ w1 ⟨p,R,r1,rfl,⟨pm,pbo,plg,pB⟩,hP,hY,hT2,Y1,D2,hrn⟩;have m9:=hrn _ _ lt4 m9;have hb:=Y1;have hB8:=hT2;clear Y1 hT2 hl hTh hW hG hx hrn hB7
  skip
  rename World=>w
  refine U264 ?_;have dt0:=hY;have dr0:=m9;have wv0:=hB8;have Z9:=hb;refine L.alloc (cs:=#[.slice none 0 0,.slice none 0 0,.slice none 0 0,.slice none 0 0,.bool false,.int .i64 0]) Fl0 rfl (fun w b12 F12=>?_);have Mo0:=F12.lq hb.size;have Mv0:=F12.ne m9;have ip0:=F12.blk;refine L.pa [.slice R.ea R.evs.length R.ec,.slice R.na R.I2.length R.nc,.slice (some ⟨R.eb,0,none⟩) R.m R.m,.slice (some ⟨R.wb,0,none⟩) R.m R.m,.bool R.stuck,.int .i64 (R.used:Int)] ic0 ip0 (fun w I1 hg D2=>?_);have W7:=P3 F12.below F12.below.size hg (by have:=F12.here;omega);have hY:=dt0.A0 W7;have m9:=dr0.A0 W7;have hB8:=wv0.A0 W7;have hb:=N0 Z9 W7;have ip0:=I1;clear I1 hg D2 W7 F12 dt0 dr0 wv0 Z9;refine U13 ?_;refine W.seq ?_;refine W.fl 7 [3,5] [0,1,2,3,4,5,6] (fun w'=>Q0 w' b12 #[.slice R.ea R.evs.length R.ec,.slice R.na R.I2.length R.nc,.slice (some ⟨R.eb,0,none⟩) R.m R.m,.slice (some ⟨R.wb,0,none⟩) R.m R.m,.bool R.stuck,.int .i64 (R.used:Int)] 30/\Q0 w' b8 #[.slice (some ⟨b18,0,none⟩) m m] 31) (by kernel_rfl) (by kernel_rfl) (by kernel_rfl) (by kernel_rfl) (by kernel_rfl) (⟨ip0.A0 (Below.refl w.heap.size w).drew,hB8.A0 (Below.refl w.heap.size w).drew⟩) ?_;have u6:Below w.heap.size w w.drew:=(Below.refl w.heap.size w).drew;have hb:=N0 hb u6;have hY:=hY.A0 u6;have m9:=m9.A0 u6;have hB8:=hB8.A0 u6;have ip0:=ip0.A0 u6;clear u6;generalize w.drew=w at *;refine F.va rfl rfl (fun w' N2=>(P1 (cs:=[.slice R.ea R.evs.length R.ec,.slice R.na R.I2.length R.nc,.slice (some ⟨R.eb,0,none⟩) R.m R.m,.slice (some ⟨R.wb,0,none⟩) R.m R.m,.bool R.stuck,.int .i64 (R.used:Int)]) rfl underlying30 rfl ic0 rfl (N2.1.z7 rfl))) ?_;refine F.va rfl rfl (fun w' N2=>(F0 rfl underlying31 rfl (N2.2.E0 0 (v:=.slice (some ⟨b18,0,none⟩) m m) rfl))) ?_;refine F.va rfl rfl (fun w' N2=>(W4 rfl)) ?_;refine F.doo rfl rfl ?_;refine L.call (W2 rfl func49 rfl cm1 rfl) (Zk0 _ w) ?_;rintro _ w1 ⟨rfl,hw⟩;refine U37 ?_;refine L.nil ⟨rfl,⟨ip0,hB8⟩,?_⟩;refine F.va rfl rfl (fun w' N2=>(L2 (r:=true) (by decide) (O4 (m:=0) (k:=0) rfl rfl))) ?_;refine F.doo rfl rfl ?_;refine L.pu 0 [.slice R.ea R.evs.length R.ec,.slice R.na R.I2.length R.nc,.slice (some ⟨R.eb,0,none⟩) R.m R.m,.slice (some ⟨R.wb,0,none⟩) R.m R.m,.bool R.stuck,.int .i64 (R.used:Int)] #[.slice R.ea R.evs.length R.ec,.slice R.na R.I2.length R.nc,.slice (some ⟨R.eb,0,none⟩) R.m R.m,.slice (some ⟨R.wb,0,none⟩) R.m R.m,.bool R.stuck,.int .i64 (R.used:Int)] ic0 m9 (fun w I1 hg D2=>?_);have T5:=O7.dh0 m9 hg;have hb:=P3 hb hb.size hg lt4;have hY:=hY.n5 hg ⟨h4l,_,m9⟩;have hB8:=hB8.mod T5 rfl;have ip0:=ip0.other hg (Ne.symm Mv0);have m9:=I1;clear T5;refine L.nil ⟨rfl,⟨ip0,hB8⟩,?_⟩;refine F.va rfl rfl (fun w' N2=>(bk0 rfl)) ?_;refine U8 ?_;refine U7 ?_;refine W.ret ?_
  repeat(first|refine T.ret ?_|refine B.ret ?_|refine N.ret ?_)
  refine ends.Hm0 (cs:=#[.slice R.ea R.evs.length R.ec,.slice R.na R.I2.length R.nc,.slice (some ⟨R.eb,0,none⟩) R.m R.m,.slice (some ⟨R.wb,0,none⟩) R.m R.m,.bool R.stuck,.int .i64 (R.used:Int)]) (.inr rfl) rfl rfl underlying30 rfl ic0 m9 ?_;exact⟨p,R,r1,by rw[plg];rfl,⟨pm,pbo,pB⟩,hP,hY.down (by omega),hb⟩
end
end Go.Vy.Sc
end
section
namespace Go.Yc
open Go Go.Conc
open Go.ConcN (sumTo upd sumTo_upd upd_ne upd_same sumTo_congr)
section
attribute [local irreducible] KK
def On (L:N3) (B:Nat->Prop) (a:Touch):Prop:=(a.write=false/\∃p∈L,a.loc= .cell p.1)\/∃ad,a.loc= .cell ad/\B ad.block
theorem On.mono {L:N3} {B B':Nat->Prop} (hB:∀b,B b->B' b) {a:Touch} (h:On L B a):On L B' a:=h.imp id fun⟨ad,h1,h2⟩=>⟨ad,h1,hB _ h2⟩
structure Apart (L0 Lc:N3) (B0 Bc:Nat->Prop):Prop where
 l0:∀p∈L0,¬Bc p.1.block
 lc:∀p∈Lc,¬B0 p.1.block
 own:∀b,B0 b->¬Bc b
theorem Apart.no {L0 Lc:N3} {B0 Bc:Nat->Prop} (H:Apart L0 Lc B0 Bc) {a b:Touch} (ha:On L0 B0 a) (hb:On Lc Bc b) (hl:a.loc=b.loc) (hw:a.write=true\/b.write=true):False:=by
 rcases ha with⟨h1,p,hp,h2⟩|⟨ad,h1,h2⟩ <;> rcases hb with⟨h3,p',hp',h4⟩|⟨ad',h3,h4⟩
 ·rcases hw with h|h
  ·rw[h1]at h;cases h
  ·rw[h3]at h;cases h
 ·rw[h2,h3]at hl;cases hl;exact H.l0 p hp h4
 ·rw[h1,h4]at hl;cases hl;exact H.lc p' hp' h2
 ·rw[h1,h3]at hl;cases hl;exact H.own _ h2 h4
structure TB (Sh:Loc->Prop) (Us:Nat->Prop) (c n0:Nat) (L0 Lc:N3) (B0 Bc:Nat->Prop) (A:Addr) (r:Option Nat) (t:Trace):Prop where
 clean:∀said,¬Race said t
 pre:∀i a,i<n0->touchAt t i=some a->a.loc.isMemory=true->¬Sh a.loc->Knows t 0 i/\Knows t c i
 post:∀i a g,n0 <=i->touchAt t i=some a->¬Sh a.loc->t.g? i=some g->(g=0/\On L0 B0 a)\/(g=c/\On Lc Bc a/\∀r0,r=some r0->i<r0)
 cy0:∀i a g,touchAt t i=some a->Sh a.loc->t.g? i=some g->(∀g',Us g'->Knows t g' i)\/(a.kind≠.plain/\(g≠0->a.kind= .atomic/\¬t.heard i))
 rel:∀r0,r=some r0->r0<t.size/\t.act? r0=some (.mark (.releaseMerge A))/\t.g? r0=some c/\t.heard r0/\∀k,r0<k->t.act? k≠some (.mark (.release A))
def si0 (u:Trace):Prop:=∀op∈u,∀a,op.act≠.mark (.release a)
section
variable {Sh:Loc->Prop}{Us Us':Nat->Prop}{c n0:Nat}{L0 Lc:N3}{B0 Bc B0' Bc':Nat->Prop}{A:Addr}{r:Option Nat}{t u:Trace}
theorem act?_old {i:Nat} (h:i<t.size):(t++u).act? i=t.act? i:=by simp only[Trace.act?,getElem?_append_old h]
theorem TB.grow (H:TB Sh Us c n0 L0 Lc B0 Bc A r t) (h0:∀b,B0 b->B0' b) (hc:∀b,Bc b->Bc' b):TB Sh Us c n0 L0 Lc B0' Bc' A r t :=
 ⟨H.clean,H.pre,fun i a g hi ha hs hg=>(H.post i a g hi ha hs hg).imp (fun z=>⟨z.1,z.2.mono h0⟩) fun z=>⟨z.1,z.2.1.mono hc,z.2.2⟩,H.cy0,H.rel⟩
theorem TB.leave (H:TB Sh Us c n0 L0 Lc B0 Bc A r t) (hU:∀g,Us' g->Us g):TB Sh Us' c n0 L0 Lc B0 Bc A r t :=
 ⟨H.clean,H.pre,H.post,fun i a g ha hs hg=>(H.cy0 i a g ha hs hg).imp (fun z g' K6=>z g' (hU g' K6)) id,H.rel⟩
theorem TB.ul0 (H:TB Sh Us c n0 L0 Lc B0 Bc A r t) (hn:r≠none->si0 u):∀r0,r=some r0->r0<(t++u).size/\(t++u).act? r0=some (.mark (.releaseMerge A))/\(t++u).g? r0=some c/\(t++u).heard r0/\∀k,r0<k->(t++u).act? k≠some (.mark (.release A)):=by
 intro r0 h0;obtain⟨h1,h2,h3,h4,h5⟩:=H.rel r0 h0;refine⟨by rw[Array.size_append];omega,by rw[act?_old h1];exact h2,by rw[g?_old h1];exact h3,(heard_old h1).2 h4,fun k hk he=>?_⟩;rcases Nat.lt_or_ge k t.size with h|h
 ·rw[act?_old h]at he;exact h5 k hk he
 ·unfold Trace.act? at he;obtain⟨op,ho,he⟩:=Option.map_eq_some_iff.1 he;rcases getElem?_append_cases ho with⟨h',_⟩|⟨_,M5⟩
  ·omega
  ·exact hn (by rw[h0];simp) op M5 A he
theorem TB.I7 (H:TB Sh Us c n0 L0 Lc B0 Bc A r t) {i g:Nat} {a:Touch} {x:MemOp} (V3:t[i]? =some x) (C5:x.act.touch? =some a) (hs:Sh a.loc) (hg:(t++u).g? i=some g) :
  (∀g',Us g'->Knows (t++u) g' i)\/(a.kind≠.plain/\(g≠0->a.kind= .atomic/\¬(t++u).heard i)):=by
 have C2:=lt_size_of_getElem? V3;rw[g?_old C2]at hg;rcases H.cy0 i a g (by rw[touchAt_of V3];exact C5) hs hg with this|this
 ·exact .inl fun g' K6=>(this g' K6).app u
 ·exact .inr ⟨this.1,fun n3=>⟨(this.2 n3).1,fun hh=>(this.2 n3).2 ((heard_old C2).1 hh)⟩⟩
theorem TB.mute (H:TB Sh Us c n0 L0 Lc B0 Bc A r t) (hn0:n0 <=t.size) (hn:∀op∈u,op.act.touch? =none) (hr:r≠none->si0 u):TB Sh Us c n0 L0 Lc B0 Bc A r (t++u):=by
 refine⟨fun said=>noRace_appendMute (H.clean said) hn,fun i a hi ha hm hs=>?_,fun i a g hi ha hs hg=>?_,fun i a g ha hs hg=>?_,H.ul0 hr⟩
 ·rw[touchAt_old (by omega)]at ha;have:=H.pre i a hi ha hm hs;exact⟨this.1.app u,this.2.app u⟩
 ·obtain⟨x,hx,C5⟩:=touch_of ha;rcases getElem?_append_cases hx with⟨C2,V3⟩|⟨_,N8⟩
  ·rw[g?_old C2]at hg;exact H.post i a g hi (by rw[touchAt_of V3];exact C5) hs hg
  ·rw[hn x N8]at C5;cases C5
 ·obtain⟨x,hx,C5⟩:=touch_of ha;rcases getElem?_append_cases hx with⟨_,V3⟩|⟨_,N8⟩
  ·exact H.I7 V3 C5 hs hg
  ·rw[hn x N8]at C5;cases C5
theorem TB.own (H:TB Sh Us c n0 L0 Lc B0 Bc A r t) (hap:Apart L0 Lc B0 Bc) (hn0:n0 <=t.size) {x:Nat} (hu:∀op∈u,op.g=x) (hs:∀op∈u,∀b,op.act.touch? =some b->¬Sh b.loc/\((x=0/\On L0 B0 b)\/(x=c/\On Lc Bc b/\r=none))) (hr:r≠none->si0 u):TB Sh Us c n0 L0 Lc B0 Bc A r (t++u):=by
 refine⟨fun said=>noRace_append (H.clean said) hu fun i a ha op M5 b hb hc=>?_,fun i a hi ha hm hs=>?_,fun i a g hi ha hns hg=>?_,fun i a g ha hsh hg=>?_,H.ul0 hr⟩
 ·obtain⟨h1,h2⟩:=hs op M5 b hb;have hns:¬Sh a.loc:=by rw[hc.1];exact h1
  rcases Nat.lt_or_ge i n0 with hi|hi
  ·have:=H.pre i a hi ha hc.2.1 hns;rcases h2 with⟨rfl,_⟩|⟨rfl,_⟩
   ·exact this.1
   ·exact this.2
  ·obtain⟨z,hz,hza⟩:=touch_of ha;have hk:=knows_own hz;rcases H.post i a z.g hi ha hns (g?_of hz)with⟨e,h3⟩|⟨e,h3,_⟩ <;> rcases h2 with⟨rfl,h4⟩|⟨e2,h4,_⟩
   ·rw[e]at hk;exact hk
   ·exact(hap.no h3 h4 hc.1 hc.2.2.1).elim
   ·exact(hap.no h4 h3 hc.1.symm hc.2.2.1.symm).elim
   ·rw[e,<- e2]at hk;exact hk
 ·rw[touchAt_old (by omega)]at ha;have:=H.pre i a hi ha hm hs;exact⟨this.1.app u,this.2.app u⟩
 ·obtain⟨z,hz,hza⟩:=touch_of ha;rcases getElem?_append_cases hz with⟨C2,hz'⟩|⟨_,hzu⟩
  ·rw[g?_old C2]at hg;exact H.post i a g hi (by rw[touchAt_of hz'];exact hza) hns hg
  ·have hgx:g=x:=by rw[g?_of hz]at hg;rw[<- hu z hzu];exact(Option.some.inj hg).symm
   rcases(hs z hzu a hza).2 with⟨e,h⟩|⟨e,h,h'⟩
   ·exact .inl ⟨hgx.trans e,h⟩
   ·exact .inr ⟨hgx.trans e,h,fun r0 e=>by rw[h']at e;cases e⟩
 ·obtain⟨z,hz,hza⟩:=touch_of ha;rcases getElem?_append_cases hz with⟨_,hz'⟩|⟨_,hzu⟩
  ·exact H.I7 hz' hza hsh hg
  ·exact absurd hsh (hs z hzu a hza).1
theorem TB.sh (H:TB Sh Us c n0 L0 Lc B0 Bc A r t) (hn0:n0 <=t.size) {g:Nat} (hUs:Us g) (hu:∀op∈u,op.g=g) (hs:∀op∈u,GOk Sh g op) (hdf:g≠0->∀i,t.size <=i->i<t.size+u.size->(t++u).deaf g i≠0) (hr:r≠none->si0 u):TB Sh Us c n0 L0 Lc B0 Bc A r (t++u):=by
 refine⟨fun said=>noRace_append (H.clean said) hu fun i a ha op M5 b hb hc=>?_,fun i a hi ha hm hs=>?_,fun i a g' hi ha hns hg=>?_,fun i a g' ha hsh K6=>?_,H.ul0 hr⟩
 ·obtain⟨h1,h2,h3⟩:=hs op M5 b hb;obtain⟨x,hx,C5⟩:=touch_of ha;rcases H.cy0 i a x.g ha (hc.1▸h1) (g?_of hx)with hsx|hsx
  ·exact hsx g hUs
  rcases hc.2.2.2 with y|y|⟨_,y1,y2⟩
  ·exact absurd y hsx.1
  ·exact absurd y h2
  ·have e1:g=0:=Classical.byContradiction fun e=>by have:=h3 e;rw[y2]at this;cases this
   have e2:x.g=0:=Classical.byContradiction fun e=>by have:=(hsx.2 e).1;rw[y1]at this;cases this
   have:=knows_own hx;rw[e2]at this;rw[e1];exact this
 ·rw[touchAt_old (by omega)]at ha;have:=H.pre i a hi ha hm hs;exact⟨this.1.app u,this.2.app u⟩
 ·obtain⟨z,hz,hza⟩:=touch_of ha;rcases getElem?_append_cases hz with⟨C2,hz'⟩|⟨_,hzu⟩
  ·rw[g?_old C2]at hg;exact H.post i a g' hi (by rw[touchAt_of hz'];exact hza) hns hg
  ·exact absurd (hs z hzu a hza).1 hns
 ·obtain⟨x,hx,C5⟩:=touch_of ha;rcases getElem?_append_cases hx with⟨_,V3⟩|⟨hi,N8⟩
  ·exact H.I7 V3 C5 hsh K6
  ·obtain⟨h1,h2,h3⟩:=hs x N8 a C5;have hgx:g'=g:=by rw[g?_of hx]at K6;rw[<- hu x N8];exact(Option.some.inj K6).symm
   subst hgx;refine .inr ⟨h2,fun n3=>⟨h3 n3,?_⟩⟩;rintro⟨g2,hg2,hd2⟩;rw[K6]at hg2;obtain rfl:=Option.some.inj hg2;exact hdf n3 i hi (by have:=lt_size_of_getElem? hx;simpa using this) hd2
theorem TB.release (H:TB Sh Us c n0 L0 Lc B0 Bc A none t) (hn0:n0 <=t.size) {fn:FuncId} {ps:String} (hd:Deaf t c=0):TB Sh Us c n0 L0 Lc B0 Bc A (some t.size) (t ++ #[{g:=c,fn,pos:=ps,act:=.mark (.releaseMerge A)}]):=by
 have M:=H.mute (u:=#[{g:=c,fn,pos:=ps,act:=.mark (.releaseMerge A)}]) hn0 (fun op M5=>by simp at M5;subst M5;rfl) (fun h=>absurd rfl h);have e0:(t ++ #[{g:=c,fn,pos:=ps,act:=MemAct.mark (.releaseMerge A)}])[t.size]? =some {g:=c,fn,pos:=ps,act:=.mark (.releaseMerge A)}:=by simp
 refine⟨M.clean,M.pre,fun i a g hi ha hs hg=>(M.post i a g hi ha hs hg).imp id fun z=>⟨z.1,z.2.1,fun r0 e=>?_⟩,M.cy0,fun r0 e=>?_⟩
 ·obtain⟨x,hx,C5⟩:=touch_of ha;rcases getElem?_append_cases hx with⟨C2,_⟩|⟨_,N8⟩
  ·have:=Option.some.inj e;omega
  ·simp at N8;subst N8;cases C5
 ·obtain rfl:=Option.some.inj e;refine⟨by simp,by rw[act?_of e0],by rw[g?_of e0],⟨c,g?_of e0,by rw[deaf_old (Nat.le_refl _)];exact hd⟩,fun k hk he=>?_⟩;unfold Trace.act? at he;obtain⟨op,ho,he⟩:=Option.map_eq_some_iff.1 he;have:=lt_size_of_getElem? ho;simp at this;omega
theorem TB.acquire {r0:Nat} (H:TB Sh Us c n0 L0 Lc B0 Bc A (some r0) t) (hn0:n0 <=t.size) {fn:FuncId} {ps:String} (hd:Deaf t 0=0) :
  let t':=t ++ #[{g:=0,fn,pos:=ps,act:=.mark (.acquire A)}]
  (∀said,¬Race said t')/\(∀i a,touchAt t' i=some a->a.loc.isMemory=true->¬Sh a.loc->Knows t' 0 i)/\∀i a g,touchAt t' i=some a->Sh a.loc->t'.g? i=some g->(∀g',Us g'->Knows t' g' i)\/(a.kind≠.plain/\(g≠0->a.kind= .atomic/\¬t'.heard i)):=by
 intro t';have hnr:si0 #[{g:=0,fn,pos:=ps,act:=MemAct.mark (.acquire A)}]:=fun op M5 a=>by simp at M5;subst M5;simp
 have M:TB Sh Us c n0 L0 Lc B0 Bc A (some r0) t':=H.mute hn0 (fun op M5=>by simp at M5;subst M5;rfl) fun _=>hnr;refine⟨M.clean,fun i a ha hm hs=>?_,M.cy0⟩;obtain⟨h1,h2,h3,h4,h5⟩:=M.rel r0 rfl;have e0:t'[t.size]? =some {g:=0,fn,pos:=ps,act:=MemAct.mark (.acquire A)}:=by simp[t']
 have C2:=(H.rel r0 rfl).1;have Bi0:HappensBefore t' r0 t.size:=Relation.TransGen.single (.inr ⟨.marked C2 (.inr h2) (act?_of e0) fun k hk _=>h5 k hk,h4,⟨0,g?_of e0,by
  show(t++_).deaf 0 t.size=0;rw[deaf_old (Nat.le_refl _)];exact hd⟩⟩)
 rcases Nat.lt_or_ge i n0 with hi|hi
 ·exact(M.pre i a hi ha hm hs).1
 ·obtain⟨x,hx,C5⟩:=touch_of ha;rcases M.post i a x.g hi ha hs (g?_of hx)with⟨e,_⟩|⟨e,_,h⟩
  ·have:=knows_own hx;rw[e]at this;exact this
  ·have hir:=h r0 rfl;obtain⟨y,hy,hyg⟩:∃y,t'[r0]? =some y/\y.g=c:=by
    unfold Trace.g? at h3;obtain⟨y,hy,h⟩:=Option.map_eq_some_iff.1 h3;exact⟨y,hy,h⟩
   exact⟨t.size,_,e0,rfl,.inr (Relation.TransGen.trans (hb_po hir hx hy (by rw[e,hyg])) Bi0)⟩
end
end
end Go.Yc
end
section
namespace Go.Yc
open Go Go.Conc Go.Wg Go.Vy
open Go.Vc (Env upd T2 ev j4 R2 Q9)
section
attribute [local irreducible] KK
abbrev PM:=List (Nat×Obj)
def jq0 (pm:PM) (b:Nat) (o:Obj):PM:=pm.map fun x=>if x.1=b then(b,o) else x
structure mn0 (gr:M4) (L:N3) (pm:PM) (w:World):Prop where
 K2:∃st sm,w7 gr st sm w
 stay:∀p∈L,w.cell? p.1=some p.2
 own:∀x∈pm,w.heap[x.1]? =some x.2
def EvM (L:N3) (pm:PM) (e:Event):Prop:=∃a,e=⟨.cell a,false,false⟩/\((∃v,(a,v)∈L)\/∃o,(a.block,o)∈pm)
def MP (P:Program) (main:Bool) (gr:M4) (L:N3) (E:Nat->PM->Goroutine->Prop):Nat->PM->Goroutine->Prop
 |0,_,_=>False
 |n+1,pm,g=>E n pm g\/(g.status= .running/\(
   (∃g' es,g'.status= .running/\(∀e∈es,EvM L pm e)/\(∀w,mn0 gr L pm w->stepG P main g w= .go g' w es)/\MP P main gr L E n pm g') \/
   (∃g' b cs T i v es,g'.status= .running/\(b,.cells cs T (0,0))∈pm/\(∀e∈es,e=⟨.cell ⟨b,i,none⟩,true,false⟩)/\(∀w,mn0 gr L pm w->stepG P main g w= .go g' (w.setCell ⟨b,i,none⟩ v) es)/\MP P main gr L E n (jq0 pm b (.cells (cs.setIfInBounds i v) T (0,0))) g') \/
   ∃gf:Nat->Goroutine,∃cs T,(∀b,(gf b).status= .running)/\(∀w,stepG P main g w= .go (gf w.heap.size) (w.alloc (.cells cs T (0,0))) #[])/\∀b,MP P main gr L E n ((b,.cells cs T (0,0))::pm) (gf b)))
section
variable {P:Program}{main:Bool}{gr:M4}{L:N3}{E:Nat->PM->Goroutine->Prop}{pm:PM}
abbrev YM (P:Program) (main:Bool) (gr:M4) (L:N3) (E:Nat->PM->Goroutine->Prop) (pm:PM):Nat->Nat->Goroutine->Prop:=fun m d g=>d=0->MP P main gr L E m pm g
theorem A2:HF P main (fun _=>False) (YM P main gr L E pm) :=
 ⟨fun m d g g' es h1 h2 h3 h4 h5 hd=>.inr ⟨h1,.inl ⟨g',es,h2,fun e he=>(h3 e he).elim,fun w _=>h4 w,h5 (by
  have:es=#[]:=by
   obtain⟨l⟩:=es;cases l with
   |nil=>rfl
   |cons e l=>exact(h3 e (by simp)).elim
  subst this;exact hd)⟩⟩⟩
theorem eo1:StG P main gr (YM P main gr L E pm):=fun m d g g' h1 h2 h3 h4 hd=>.inr ⟨h1,.inl ⟨g',#[],h2,fun e he=>by simp at he,fun w hw=>by obtain⟨st,sm,h⟩:=hw.K2;exact h3 w st sm h,h4 hd⟩⟩
variable {ft n:Nat}{b:Frame}{cs:List Frame}{ds:List Deferred}{e:Env}{k:List Item}{ops:Array Oper}{i:Nat}{l:List Oper}{dst:Option Nat}{ty:TypeId}{ps:String}{af:Array Edge}{T:TypeId}{x y:Operand}
def Src (L:N3) (pm:PM) (p:Addr) (v:Value):Prop:=(p,v)∈L\/∃cs T,(p.block,.cells cs T (0,0))∈pm/\p.spot=none/\cs[p.off]? =some v
theorem Src.cell {p:Addr} {v:Value} {w:World} (h:Src L pm p v) (hw:mn0 gr L pm w):w.cell? p=some v:=by
 rcases h with h|⟨cs,T,h1,h2,h3⟩
 ·exact hw.stay _ h
 ·have:=hw.own _ h1;unfold World.cell?;rw[this];simp[h2,h3]
theorem Src.evm {p:Addr} {v:Value} (h:Src L pm p v):EvM L pm ⟨.cell p,false,false⟩:=by
 rcases h with h|⟨cs,T,h1,_⟩
 ·exact⟨p,rfl,.inl ⟨v,h⟩⟩
 ·exact⟨p,rfl,.inr ⟨_,h1⟩⟩
theorem G0.Ir0 {g:Option (Nat×Bool)} {p:Addr} {v:Value} {u:TypeDesc} (hg:∀a,dj0 n a e ds->Region.wanted (⟨dst,.load T x,ty,ps,af,g⟩:Oper) (yielded ops a.tmps)=true) (hk:b.kind≠.early) (hd:j4 n dst=true) (hx:ev e x= .pointer (some p)) (hT:P.underlying T=some u) (hu:Q9 u=true) (hp:Src L pm p v)
  (h:G0 (YM P main gr L E pm) ft n b cs ds 0 (T2 e dst v) ops (i+1) l k):G0 (YM P main gr L E pm) (ft+1) n b cs ds 0 e ops i (⟨dst,.load T x,ty,ps,af,g⟩::l) k:=by
 intro hl a ha _;obtain⟨ho,w5⟩:=o3 hl;refine .inr ⟨rfl,.inl ⟨_,seen P b.fn #[⟨.cell p,false,false⟩],rfl,fun ev' he=>?_,fun w N2=>?_,h w5 _ (ha.put hd v) rfl⟩⟩
 ·have:=mem_seen he;have:ev'=⟨.cell p,false,false⟩:=by simpa using this
  subst this;exact hp.evm
 ·have hc:=hp.cell N2;show stepG P main (G (b.at a (.inRegion ops (i::List.range' (i+1) l.length)::k)) cs) w=_;rw[stepG_value ho (hg a ha) hk (by rw[ha.eval];exact Go.Vc.F0 hx hT hu hc),listed];have he:∀es,(isAgg T).events P w es=es:=fun es=>by
   cases u <;> simp[isAgg,go_sem,run_underlying hT]
  have hq:(execOp a.eval ⟨dst,.load T x,ty,ps,af,g⟩).events P w #[]=#[⟨.cell p,false,false⟩]:=by
   rw[ha.eval];simp[execOp,Instr.loadAt,hx,Instr.sureAddr,loadVar,Go.Vc.B9 hT,hu,hc,he]
  rw[hq]
theorem G0.jr0 {p:Addr} {v:Value} {u:TypeDesc} (hk:b.kind≠.early) (hd:j4 n dst=true) (hx:ev e x= .pointer (some p)) (hT:P.underlying T=some u) (hu:Q9 u=true) (hp:Src L pm p v)
  (h:G0 (YM P main gr L E pm) ft n b cs ds 0 (T2 e dst v) ops (i+1) l k):G0 (YM P main gr L E pm) (ft+1) n b cs ds 0 e ops i (⟨dst,.load T x,ty,ps,af,none⟩::l) k:=G0.Ir0 (fun _a _=>rfl) hk hd hx hT hu hp h
theorem G0.Tk0 {g:Nat×Bool} {p:Addr} {v:Value} {u:TypeDesc} (hk:b.kind≠.early) (hw:R2 ops e g.1=some g.2) (hd:j4 n dst=true) (hx:ev e x= .pointer (some p)) (hT:P.underlying T=some u) (hu:Q9 u=true) (hp:Src L pm p v)
  (h:G0 (YM P main gr L E pm) ft n b cs ds 0 (T2 e dst v) ops (i+1) l k):G0 (YM P main gr L E pm) (ft+1) n b cs ds 0 e ops i (⟨dst,.load T x,ty,ps,af,some g⟩::l) k :=
 G0.Ir0 (fun a ha=>by rw[ha.yielded];simp[Region.wanted,hw]) hk hd hx hT hu hp h
theorem G0.Zo0 {o:Oper} {cs0:List Value} {T0:TypeId} (hg:o.guard=none) (hk:b.kind≠.early) (hd:j4 n o.dst=true) (hr:∀w,(execOp (ev e) o).run P w= .ok (.value (.pointer (some ⟨w.heap.size,0,none⟩))) (w.alloc (.cells cs0.toArray T0 (0,0)))) (hv:∀w,(execOp (ev e) o).events P w #[]=#[])
  (h:∀bl,G0 (YM P main gr L E ((bl,.cells cs0.toArray T0 (0,0))::pm)) ft n b cs ds 0 (T2 e o.dst (.pointer (some ⟨bl,0,none⟩))) ops (i+1) l k):G0 (YM P main gr L E pm) (ft+1) n b cs ds 0 e ops i (o::l) k:=by
 intro hl a ha _;obtain⟨ho,w5⟩:=o3 hl;refine .inr ⟨rfl,.inr (.inr ⟨fun bl=>G (b.at (a.put o.dst (.pointer (some ⟨bl,0,none⟩))) (.inRegion ops (List.range' (i+1) l.length)::k)) cs,cs0.toArray,T0,fun _=>rfl,fun w=>?_,fun bl=>h bl w5 _ (ha.put hd _) rfl⟩)⟩;rw[show stepG P main (G (b.at a (.inRegion ops (List.range' i (o::l).length)::k)) cs) w=stepG P main (G (b.at a (.inRegion ops (i::List.range' (i+1) l.length)::k)) cs) w from rfl];rw[stepG_value ho (by obtain⟨d,op,ty,ps,af,g⟩:=o;cases hg;rfl) hk (by rw[ha.eval];exact hr w),listed,ha.eval,hv,seen_none]
theorem G0.Zp0 {v:Value} {cs0:List Value} (hk:b.kind≠.early) (hd:j4 n dst=true) (hx:ev e x=v) (hc:v.cells=cs0.toArray)
  (h:∀bl,G0 (YM P main gr L E ((bl,.cells cs0.toArray T (0,0))::pm)) ft n b cs ds 0 (T2 e dst (.pointer (some ⟨bl,0,none⟩))) ops (i+1) l k):G0 (YM P main gr L E pm) (ft+1) n b cs ds 0 e ops i (⟨dst,.box T x,ty,ps,af,none⟩::l) k :=
 G0.Zo0 rfl hk hd (fun w=>by rw[<- hc];exact Go.Vc.zz0 hx) (fun w=>by simp[execOp,Instr.box,newVar,newRow,hx]) h
theorem G0.Tl0 {v:Value} {cs0:List Value} (hk:b.kind≠.early) (hd:j4 n dst=true) (hz:(P.info? T).bind (·.zero)=some v) (hc:v.cells=cs0.toArray)
  (h:∀bl,G0 (YM P main gr L E ((bl,.cells cs0.toArray T (0,0))::pm)) ft n b cs ds 0 (T2 e dst (.pointer (some ⟨bl,0,none⟩))) ops (i+1) l k):G0 (YM P main gr L E pm) (ft+1) n b cs ds 0 e ops i (⟨dst,.alloc T,ty,ps,af,none⟩::l) k :=
 G0.Zo0 rfl hk hd (fun w=>by rw[<- hc];exact Go.Vc.kh0 hz) (fun w=>by
  obtain⟨inf,hi,hz'⟩:=Option.bind_eq_some_iff.1 hz;simp[execOp,Instr.alloc,newVar,newRow,zeroValue,typeInfo,hi,hz',go_sem]) h
theorem G0.Is0 {bl o:Nat} {v v0:Value} {cs0:Array Value} {T0:TypeId} (hk:b.kind≠.early) (hx:ev e x= .pointer (some ⟨bl,o,none⟩)) (hy:ev e y=v) (hs:(P.info? T).map (·.size)=some 1) (h1:v.oneCell'=true) (hm:(bl,.cells cs0 T0 (0,0))∈pm) (hc:cs0[o]? =some v0)
  (h:G0 (YM P main gr L E (jq0 pm bl (.cells (cs0.setIfInBounds o v) T0 (0,0)))) ft n b cs ds 0 e ops (i+1) l k):G0 (YM P main gr L E pm) (ft+1) n b cs ds 0 e ops i (⟨none,.store T x y,ty,ps,af,none⟩::l) k:=by
 intro hl a ha _;obtain⟨ho,w5⟩:=o3 hl;refine .inr ⟨rfl,.inr (.inl ⟨_,bl,cs0,T0,o,v,seen P b.fn #[⟨.cell ⟨bl,o,none⟩,true,false⟩],rfl,hm,fun ev' he=>?_,fun w N2=>?_,h w5 a ha rfl⟩)⟩
 ·have:=mem_seen he;simpa using this
 ·have hb:=N2.own _ hm;have T9:w.cell? ⟨bl,o,none⟩=some v0:=by unfold World.cell?;rw[hb];simp[hc]
  have hfr:w.frozen? ⟨bl,o,none⟩=false:=by simp[World.frozen?,hb]
  show stepG P main (G (b.at a (.inRegion ops (i::List.range' (i+1) l.length)::k)) cs) w=_;rw[stepG_none ho (by rw[ha.yielded];rfl) hk (by rw[ha.eval];exact Go.Vc.kg0 hx hy hs h1 T9 hfr),listed];have hv:v.cells=#[v]:=by cases v <;> first|rfl|(simp[Value.oneCell']at h1)
  have ha0:(⟨bl,o,none⟩:Addr).add 0=⟨bl,o,none⟩:=by simp[Addr.add]
  have hq:(execOp a.eval ⟨none,.store T x y,ty,ps,af,none⟩).events P w #[]=#[⟨.cell ⟨bl,o,none⟩,true,false⟩]:=by
   rw[ha.eval];simp[execOp,Instr.storeAt,hx,hy,Instr.sureAddr,storeVar,Go.Vc.run_sizeOf hs,hv,storeCells,ha0,events_store P w #[] ⟨bl,o,none⟩ v .plain h1,T9,hfr]
  rw[hq];rfl
end
end
end Go.Yc
end
section
namespace Go.Yc
open Go Go.Conc Go.Wg Go.Vy
open Go.ConcN (sumTo upd sumTo_upd upd_ne upd_same sumTo_congr)
section
attribute [local irreducible] KK
def Mw0 (G:M4) (w:World):Array Value×TypeId:=((let c:=w.heap[G.blk]?;match c with|some (.cells c _ _)=>c.extract 0 G.off|_=>#[]),(match w.heap[G.blk]? with|some (.cells _ T _)=>T|_=>0))
structure WF (G:M4) (bx:Nat) (w0 w:World):Prop where
 os:w.os=w0.os
 output:w.output=w0.output
 size:w0.heap.size <=w.heap.size
 old:∀b,b<w0.heap.size->b≠G.blk->b≠bx->w.heap[b]? =w0.heap[b]?
 pre:Mw0 G w=Mw0 G w0
section
variable {G:M4}{bx:Nat}{w0 w:World}
theorem WF.refl:WF G bx w w:=⟨rfl,rfl,Nat.le_refl _,fun _ _ _ _=>rfl,rfl⟩
theorem WF.at (h:WF G bx w0 w) (d:Nat):WF G bx w0 (w.at d):=⟨h.os,h.output,h.size,h.old,h.pre⟩
theorem size_setCell (w:World) (a:Addr) (v:Value):(w.setCell a v).heap.size=w.heap.size:=by simp[World.setCell]
theorem WF.cell (h:WF G bx w0 w) {b i:Nat} (v:Value) (hb:b=bx\/w0.heap.size <=b) (hg:b≠G.blk):WF G bx w0 (w.setCell ⟨b,i,none⟩ v):=by
 refine⟨h.os,h.output,by rw[size_setCell];exact h.size,fun k hk h1 h2=>?_,?_⟩
 ·have:k≠b:=by rintro rfl;rcases hb with e|e;exact h2 e;omega
  rw[A1 w v (a:=⟨b,i,none⟩) this];exact h.old k hk h1 h2
 ·rw[<- h.pre];unfold Mw0;rw[A1 w v (a:=⟨b,i,none⟩) (Ne.symm hg)]
theorem WF.alloc (h:WF G bx w0 w) (o:Obj) (hg:G.blk<w0.heap.size):WF G bx w0 (w.alloc o):=by
 have hh:∀k,k<w0.heap.size->(w.alloc o).heap[k]? =w.heap[k]?:=fun k hk=>by
  have:=h.size;show(w.heap.push o)[k]? =_;rw[Array.getElem?_push,if_neg (by omega)]
 refine⟨h.os,h.output,by have:=h.size;show _ <=(w.heap.push o).size;rw[Array.size_push];omega,fun k hk h1 h2=>by rw[hh k hk];exact h.old k hk h1 h2,?_⟩;rw[<- h.pre];unfold Mw0;rw[hh _ hg]
theorem WF.It0 (h:WF G bx w0 w) {st sm:Int} (hg:w7 G st sm w) {a:Addr} (ha:a.block=G.blk) (hs:a.spot=none) (ho:G.off <=a.off) (v:Value):WF G bx w0 (w.setCell a v):=by
 refine⟨h.os,h.output,by rw[size_setCell];exact h.size,fun k hk h1 h2=>?_,?_⟩
 ·rw[A1 w v (by rw[ha];exact h1)];exact h.old k hk h1 h2
 ·rw[<- h.pre];have:=da0 hg ha hs ho v;exact Prod.ext this.1 this.2
end
inductive Bd where
 |up (wt:Bool)
 |out
 |last (s:Nat)
 |done
def bst:Bd->Int×Int
 | .up wt=>((((0+1)*KK+(if wt then 1 else 0):Nat):Int),0)
 | .out=>(0,0)
 | .last 0=>(0,0)
 | .last (_+1)=>(1,0)
 | .done=>(0,1)
def frB:Bd->Bool
 | .up false=>true
 | .out=>true
 |_=>false
def UsB (c:Nat) (σ:Bd) (g:Nat):Prop:=g=0\/(g=c/\(match σ with| .up _=>True| .last _=>True|_=>False))
def zf0 (P:Program) (G:M4) (A:Addr) (Fp:PM->Prop) (n:Nat) (pm:PM) (g:Goroutine):Prop :=
 g.status= .running/\Fp pm/\∃g',(∀w,stepG P false g w= .go g' w #[⟨.mark (.releaseMerge A),false,true⟩])/\Lt P G n 0 g'
def du0 (P:Program) (G:M4) (Lc:N3) (A:Addr) (Fp:PM->Prop) (σ:Bd) (r:Option Nat) (pm:PM) (d n:Nat) (g:Goroutine):Prop:=match σ with
 | .up _=>(r=none/\d=0/\MP P false G Lc (zf0 P G A Fp) n pm g)\/(r≠none/\Lt P G n d g)
 | .last s=>r≠none/\s <=2/\Lst P G n s d g
 |_=>r≠none/\QuitsD P n d g
def GB (X:Gh) (b:Nat):Prop:=∃G,(X.K2=some G\/G∈X.old)/\b=G.blk
structure StB (X:Gh) (G:M4) (c bx:Nat) (w0:World) (L0 Lc:N3):Prop where
 K2:X.K2=some G
 c0:c≠0
 st:∀p,p∈L0\/p∈Lc->w0.cell? p.1=some p.2/\p.1.block<w0.heap.size/\p.1.block≠bx/\¬GB X p.1.block
 bx:bx<w0.heap.size/\¬GB X bx
 gb:∀b,GB X b->b<w0.heap.size
abbrev BM (pm:PM) (b:Nat):Prop:=∃o,(b,o)∈pm
structure Rb (P:Program) (X:Gh) (G:M4) (c bx n0:Nat) (w0:World) (L0 Lc:N3) (A:Addr) (Fp:PM->Prop) (N:Nat) (σ:Bd) (r:Option Nat) (u7 R6:PM) (d:Nat) (T:Trace) (gs:Array Goroutine) (w:World) (q:Nat->Nat):Prop where
 wf:WF G bx w0 w
 tb:TB X.Sh (UsB c σ) c n0 L0 Lc (BM u7) (BM R6) A r T
 n0:n0 <=T.size
 d0:Deaf T 0=d
 own:∀x,x∈u7\/x∈R6->(x.1=bx\/w0.heap.size <=x.1)/\w.heap[x.1]? =some x.2
 apart:Apart L0 Lc (BM u7) (BM R6)
 child:∀g,gs[c]? =some g->du0 P G Lc A Fp σ r R6 (Deaf T c) (q c) g
 rest:∀i g,i≠0->i≠c->gs[i]? =some g->QuitsD P (q i) (Deaf T i) g
 y6:w7 G (bst σ).1 (bst σ).2 w
 size:c<gs.size/\gs.size=N
 above:∀j,gs.size <=j->Deaf T j=0
 fin:r≠none->Fp R6
theorem ww0 {e:Event} {a:Addr} (h:MemAct.ofEvent e= .mark (.release a)):e.loc= .mark (.release a):=by
 obtain⟨l,w,s⟩:=e;cases l with
 |mark m=>cases m <;> simp[MemAct.ofEvent]at h⊢<;> exact h
 |_=>cases w <;> cases s <;> simp[MemAct.ofEvent]at h
section
variable {P:Program}{X:Gh}{G:M4}{c bx n0:Nat}{w0:World}{L0 Lc:N3}{A:Addr}{Fp:PM->Prop}{N:Nat}{σ σ':Bd}{r r':Option Nat}{u7 R6 pmc':PM}{d:Nat}{T:Trace}{gs:Array Goroutine}{w w':World}{q:Nat->Nat}
theorem norel_of {x:Nat} {fn:FuncId} {pos:String} {es:Array Event} (h:∀e∈es,∀a,e.loc≠.mark (.release a)):si0 (MemOp.ofEvents x fn pos es):=fun op M5 a e=>by
 obtain⟨ev,he,rfl⟩:=Go.Conc.mem_ofEvents M5;exact h ev he a (ww0 e)
theorem TB.K2 {Us:Nat->Prop} {B0 Bc:Nat->Prop} (H:TB X.Sh Us c n0 L0 Lc B0 Bc A r T) (hn0:n0 <=T.size) (hG:X.K2=some G) {x:Nat} {fn:FuncId} {pos:String} {es:Array Event} (I9:∀e∈es,GEv G x e) (hu:(∀e∈es,(MemAct.ofEvent e).touch? =none)\/(Us x/\(x≠0->∀k,k<es.size->deafBehind (Deaf T x) (es.extract 0 k)≠0))) :
  TB X.Sh Us c n0 L0 Lc B0 Bc A r (T++MemOp.ofEvents x fn pos es):=by
 have hnr:=norel_of (x:=x) (fn:=fn) (pos:=pos) fun e he=>(I9 e he).2;rcases hu with hu|⟨hU,hdf⟩
 ·exact H.mute hn0 (fun op M5=>by obtain⟨e,he,rfl⟩:=Go.Conc.mem_ofEvents M5;exact hu e he) fun _=>hnr
 ·refine H.sh hn0 hU V1 (fun op M5 b hb=>?_) (fun n3 i hi1 hi2=>?_) fun _=>hnr
  ·obtain⟨e,he,rfl⟩:=Go.Conc.mem_ofEvents M5;obtain⟨⟨a,h1,h2,h3⟩,h4⟩:=(I9 e he).1 b hb;exact⟨⟨a,G,.inl hG,h1,h2,h3⟩,h4⟩
  ·obtain⟨m,rfl⟩:∃m,i=T.size+m:=⟨i-T.size,by omega⟩
   have hm:m<es.size:=by
    have D2:(MemOp.ofEvents x fn pos es).size=es.size:=by rw[ofEvents_eq];simp
    omega
   rw[Go.Conc.deaf_inside T x fn pos es m (Nat.le_of_lt hm)];exact hdf n3 m hm
theorem StB.on0 (S:StB X G c bx w0 L0 Lc) (o7:∀b,BM u7 b->b=bx\/w0.heap.size <=b) {a:Touch} (h:On L0 (BM u7) a):¬X.Sh a.loc:=by
 rintro⟨ad,G',hG',e,hb,_⟩;have hgb:GB X ad.block:=⟨G',hG',hb⟩
 rcases h with⟨_,p,hp,h2⟩|⟨ad',h1,h2⟩
 ·rw[e]at h2;cases h2;exact(S.st p (.inl hp)).2.2.2 hgb
 ·rw[e]at h1;cases h1;rcases o7 _ h2 with e|e
  ·rw[e]at hgb;exact S.bx.2 hgb
  ·have:=S.gb _ hgb;omega
theorem StB.onc (S:StB X G c bx w0 L0 Lc) (o7:∀b,BM R6 b->b=bx\/w0.heap.size <=b) {a:Touch} (h:On Lc (BM R6) a):¬X.Sh a.loc:=by
 rintro⟨ad,G',hG',e,hb,_⟩;have hgb:GB X ad.block:=⟨G',hG',hb⟩
 rcases h with⟨_,p,hp,h2⟩|⟨ad',h1,h2⟩
 ·rw[e]at h2;cases h2;exact(S.st p (.inr hp)).2.2.2 hgb
 ·rw[e]at h1;cases h1;rcases o7 _ h2 with e|e
  ·rw[e]at hgb;exact S.bx.2 hgb
  ·have:=S.gb _ hgb;omega
theorem StB.cell (S:StB X G c bx w0 L0 Lc) (hw:WF G bx w0 w) {p:Addr×Value} (hp:p∈L0\/p∈Lc):w.cell? p.1=some p.2:=by
 obtain⟨h1,h2,h3,h4⟩:=S.st p hp;have:=(y5 (u:=w0) (u':=w) (a:=p.1) (hw.old _ h2 (fun e=>h4 ⟨G,.inl S.K2,e⟩) h3)).1;rw[this];exact h1
theorem EvM.on {L:N3} {pm:PM} {e:Event} (h:EvM L pm e):(∀b,(MemAct.ofEvent e).touch? =some b->On L (BM pm) b)/\(∀a,e.loc≠.mark (.release a))/\e.loc≠.mark .disable/\e.loc≠.mark .enable:=by
 obtain⟨a,rfl,h⟩:=h;refine⟨fun b hb=>?_,by simp,by simp,by simp⟩;simp only[ofEvent_cell0,MemAct.touch?,Option.some.injEq]at hb;subst hb;rcases h with⟨v,hv⟩|⟨o,ho⟩
 ·exact .inl ⟨rfl,_,hv,rfl⟩
 ·exact .inr ⟨a,rfl,o,ho⟩
theorem dv0 {L:N3} {pm:PM} {bl i:Nat} {o:Obj} (h:(bl,o)∈pm) {e:Event} (he:e=⟨.cell ⟨bl,i,none⟩,true,false⟩):(∀b,(MemAct.ofEvent e).touch? =some b->On L (BM pm) b)/\(∀a,e.loc≠.mark (.release a))/\e.loc≠.mark .disable/\e.loc≠.mark .enable:=by
 subst he;refine⟨fun b hb=>?_,by simp,by simp,by simp⟩;simp only[MemAct.ofEvent,MemAct.touch?,Option.some.injEq]at hb;subst hb;exact .inr ⟨_,rfl,o,h⟩
theorem Rb.Zq0 (C:Rb P X G c bx n0 w0 L0 Lc A Fp N σ r u7 R6 d T gs w q):∀b,BM u7 b->b=bx\/w0.heap.size <=b:=fun _b ⟨_o,h⟩=>(C.own _ (.inl h)).1
theorem Rb.Zr0 (C:Rb P X G c bx n0 w0 L0 Lc A Fp N σ r u7 R6 d T gs w q):∀b,BM R6 b->b=bx\/w0.heap.size <=b:=fun _b ⟨_o,h⟩=>(C.own _ (.inr h)).1
theorem Rb.Iu0 (C:Rb P X G c bx n0 w0 L0 Lc A Fp N σ r u7 R6 d T gs w q) (S:StB X G c bx w0 L0 Lc):mn0 G L0 u7 w:=⟨⟨_,_,C.y6⟩,fun _p hp=>S.cell C.wf (.inl hp),fun x hx=>(C.own x (.inl hx)).2⟩
theorem Rb.Iv0 (C:Rb P X G c bx n0 w0 L0 Lc A Fp N σ r u7 R6 d T gs w q) (S:StB X G c bx w0 L0 Lc):mn0 G Lc R6 w:=⟨⟨_,_,C.y6⟩,fun _p hp=>S.cell C.wf (.inr hp),fun x hx=>(C.own x (.inr hx)).2⟩
theorem Rb.at (C:Rb P X G c bx n0 w0 L0 Lc A Fp N σ r u7 R6 d T gs w q) (k:Nat):Rb P X G c bx n0 w0 L0 Lc A Fp N σ r u7 R6 d T gs (w.at k) q :=
 ⟨C.wf.at k,C.tb,C.n0,C.d0,C.own,C.apart,C.child,C.rest,C.y6,C.size,C.above,C.fin⟩
theorem MP.running {main:Bool} {gr:M4} {L:N3} {E:Nat->PM->Goroutine->Prop} (hE:∀n pm g,E n pm g->g.status= .running):∀{n:Nat} {pm:PM} {g:Goroutine},MP P main gr L E n pm g->g.status= .running
 |0,_,_,h=>h.elim
 |_+1,_,_,h=>h.elim (hE _ _ _) fun z=>z.1
theorem du0.status {n:Nat} {g:Goroutine} (h:du0 P G Lc A Fp σ r R6 d n g):g.status= .running\/g.status= .finished:=by
 cases σ with
 |up wt=>rcases h with⟨_,_,h⟩|⟨_,h⟩;exact .inl (h.running fun _ _ _ z=>z.1);exact .inl h.running
 |last s=>exact .inl h.2.2.running
 |out=>exact h.2.status
 |done=>exact h.2.status
theorem Rb.status (C:Rb P X G c bx n0 w0 L0 Lc A Fp N σ r u7 R6 d T gs w q) {i:Nat} {g:Goroutine} (hi:i≠0) (hg:gs[i]? =some g):g.status= .running\/g.status= .finished:=by
 by_cases e:i=c
 ·subst e;exact(C.child g hg).status
 ·exact(C.rest i g hi e hg).status
theorem Rb.move (C:Rb P X G c bx n0 w0 L0 Lc A Fp N σ r u7 R6 d T gs w q) {i n:Nat} {g g':Goroutine} {es:Array Event} {sl:Option (Nat×Nat)} (hi:gs[i]? =some g) (n3:i≠0) (E2:stepG P false g w= .go g' w' es) (hq:q i=n+1)
  (tb':TB X.Sh (UsB c σ') c n0 L0 Lc (BM u7) (BM pmc') A r' (T++MemOp.ofEvents i g.frame.fn g.frame.place es)) (wf':WF G bx w0 w') (Bu0:∀x,x∈u7\/x∈pmc'->(x.1=bx\/w0.heap.size <=x.1)/\w'.heap[x.1]? =some x.2) (zg0:Apart L0 Lc (BM u7) (BM pmc')) (Iw0:w7 G (bst σ').1 (bst σ').2 w') (ep1:r'≠none->Fp pmc')
  (ko0:(i=c->du0 P G Lc A Fp σ' r' pmc' (deafBehind (Deaf T c) es) n g')/\(i≠c->σ'=σ/\r'=r/\pmc'=R6/\QuitsD P n (deafBehind (Deaf T i) es) g')) :
  ∃J4 ops q',runT P (crowd gs w sl) i=(.next (crowd J4 w' sl),ops)/\J4.size=gs.size/\(∀g0,gs[0]? =some g0->J4[0]? =some (woken P g g' w' g0))/\Rb P X G c bx n0 w0 L0 Lc A Fp N σ' r' u7 pmc' d (T++ops) J4 w' q'/\sumTo J4.size q'<sumTo gs.size q:=by
 have C2:i<gs.size:=(Array.getElem?_eq_some_iff.1 hi).1;have hi0:(i==0)=false:=by simpa using n3
 have D2:((gs.map (woken P g g' w')).setIfInBounds i g').size=gs.size:=by simp
 have hdo:∀x,x≠i->Deaf (T++MemOp.ofEvents i g.frame.fn g.frame.place es) x=Deaf T x:=fun x hx=>Deaf_other T (Ne.symm hx) _ V1;have wk0:∀x y,x≠0->((gs.map (woken P g g' w')).setIfInBounds i g')[x]? =some y->(x=i/\y=g')\/(x≠i/\gs[x]? =some y):=fun x y hx hy=>by
  by_cases e:x=i
  ·subst e;rw[Array.getElem?_setIfInBounds_self_of_lt (by simpa using C2)]at hy;exact .inl ⟨rfl,(Option.some.inj hy).symm⟩
  ·rw[Array.getElem?_setIfInBounds_ne (fun z=>e z.symm),Array.getElem?_map]at hy;obtain⟨y₀,hy₀,rfl⟩:=Option.map_eq_some_iff.1 hy;rw[woken_of_again (again_of_running (C.status hx hy₀) w')];exact .inr ⟨e,hy₀⟩
 refine⟨_,_,upd q i n,runT_crowd_go (sl:=sl) hi (by rw[hi0];exact E2),D2,fun g0 h0=>?_,⟨wf',tb',by rw[Array.size_append];have:=C.n0;omega,(hdo 0 (Ne.symm n3)).trans C.d0,Bu0,zg0,fun y hy=>?_,fun x y hx hxc hy=>?_,Iw0,by rw[D2];exact C.size,fun j hj=>?_,ep1⟩,?_⟩
 ·rw[Array.getElem?_setIfInBounds_ne n3,Array.getElem?_map,h0];rfl
 ·have hc0:c≠0\/c=0:=(Decidable.em (c=0)).symm;by_cases e:i=c
  ·subst e;rw[Array.getElem?_setIfInBounds_self_of_lt (by simpa using C2)]at hy;obtain rfl:=Option.some.inj hy;rw[Deaf_own,upd_same];exact ko0.1 rfl
  ·obtain⟨rfl,rfl,rfl,_⟩:=ko0.2 e;have hy':gs[c]? =some y:=by
    rw[Array.getElem?_setIfInBounds_ne e,Array.getElem?_map]at hy;obtain⟨y₀,hy₀,rfl⟩:=Option.map_eq_some_iff.1 hy;rw[woken_of_again (again_of_running (C.child y₀ hy₀).status w')];exact hy₀
   rw[hdo c (Ne.symm e),upd_ne q n (Ne.symm e)];exact C.child y hy'
 ·rcases wk0 x y hx hy with⟨rfl,rfl⟩|⟨e,hy'⟩
  ·rw[Deaf_own,upd_same];exact(ko0.2 hxc).2.2.2
  ·rw[hdo x e,upd_ne q n e];exact C.rest x y hx hxc hy'
 ·rw[D2]at hj;rw[hdo j (by omega)];exact C.above j hj
 ·have h2:sumTo gs.size (upd q i n)+(n+1)=sumTo gs.size q+n:=by
   have:=sumTo_upd q n id C2;simpa [hq]using this
  rw[D2];omega
end
end
end Go.Yc
end
