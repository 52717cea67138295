/- What the claim leans on, part 4. Laws. -/
import Derived.Test.YtnifpkopeheodaaGreatKL3
import Derived.Conc.LeavingOf
import Derived.ProofKit
import Derived.Deep.Slices
import Derived.SizedLaws
import Derived.Conc.SmallLaws
import Derived.Laws.LoneSync
import Derived.FollowTie
set_option linter.unusedVariables false
section
namespace Go.Vy.Sc
open Go Go.Conc Go.Yc Go.RowKit Go.Proofs Go.Proofs.YtnifpkopeheodaaGreat Tryz
open Go.Vc Go.Wg
section
attribute [local irreducible] KK
def wi0 (lb:Nat) (pl:Nat->x6) (Post:Value->World->Prop) (g:Goroutine) (u:World):Prop:=∀X,Lone X u->lb <=u.heap.size->(∀b,X.low b->lb <=b)->X.O4=pl->Fin prog Post X 0 g u
theorem Hp0 (lb:Nat) (pl:Nat->x6) (Post:Value->World->Prop):Cl prog true (wi0 lb pl Post):=⟨fun g u hr hs X hX h1 h2 h3=>Fin.Bu0 hr fun τ d=>by
 obtain⟨g',u',d',hF,hz⟩:=hs τ d;refine⟨g',u',hF,fun⟨ρ,w,hr0⟩=>?_⟩;have he:=(hF.2 ρ w hr0).1;have hX':Lone X (Yc.W2 u' u.tape d'):=(hX.mono he.size:Lone X u')|> fun h=>⟨h.D1,h.cap,h.pend,h.dn,h.under,h.O4,h.il0⟩
 exact kc0 (hz X hX' (Nat.le_trans h1 he.size) h2 h3)⟩
theorem Cm0 (lb:Nat) (pl:Nat->x6) (Post:Value->World->Prop):Ign (wi0 lb pl Post):=fun _g _u hz X hX h1 h2 h3=>u9 _ _ fun hv=>hz hv X hX h1 h2 h3
@[reducible] def o7 (lb:Nat) (pl:Nat->x6):Ctx prog:=⟨true,fun Z=>∃Post,Z=wi0 lb pl Post,fun Z h=>by obtain⟨Post,rfl⟩:=h;exact Hp0 lb pl Post⟩
structure Mb0 (Y:Sys) (q:PR Y) (Mn:Nat->Option Obj) (w0 w:World) (R:Rn):Prop where
 mem:L4 w w0.heap.size R
 m:R.m=Y.m
 evs:R.evs=q.evs
 N2:R.N2=q.N2
 used:R.used=q.used
 ends:∀j,j<Y.m->R.ends[j]? =some (as0 q.ft[j]?)
 k8:∀j,j<Y.m->R.k8[j]? =some (Rn0 Y j (q.ft[j]?))
 stuck:R.stuck=(q.ft.any (·.isLeft)&&(Y.rds q).isEmpty)
 inv:∃m F,Y.Inv q.s m w F/\∀b,F b->¬R.fp b
 fp:∀b,R.fp b->w0.heap.size <=b
 A0:∀b,Mn b≠none->w.heap[b]? =Mn b
 size:w0.heap.size <=w.heap.size
 os:w.os=w0.os
 output:w.output=w0.output
 tape:w.tape=w0.tape
section
variable {Y:Sys}{fb:Nat->FuncId}{caps:Nat->Array Value}{fv:Nat->Value}{ba sa:Option Addr}{sn:Nat}{sc:Nat->Int}{Mn:Nat->Option Obj}{w0:World}
theorem Yf0 (hO:jm0 Y fb caps fv ba sa sn sc) (hmn:∀b o,Mn b=some o->w0.heap[b]? =some o) {F:Nat->Prop} {m0:Gm} (hinv:Y.Inv Y.s0 m0 w0 F) (hFm:∀b,F b->Mn b=none)
  (hbc:∀w:World,(∀b,Mn b≠none->w.heap[b]? =Mn b)->∀j,j<Y.m->w.cell? ⟨ab ba,ao ba+j*1,none⟩=some (fv j)) (hsc:∀w:World,(∃s m F,Y.Inv s m w F)->(∀b,Mn b≠none->w.heap[b]? =Mn b)->∀j,j<sn->w.cell? ⟨ab sa,ao sa+j*1,none⟩=some (.i (sc j))) {bc scp:Nat} :
  @C prog (o7 Y.lb Y.pl) 48 #[.slice ba Y.m bc,.slice sa sn scp] w0 fun v w=>∃R,v= .tuple #[Gu0 R,.i 0]/\Mb0 Y (Y.pn sc sn) Mn w0 w R:=by
 intro Z hZ cs hk;obtain⟨Post,rfl⟩:=hZ;intro X hX E5 hb2 hb3;refine Lp0 (fv:=fv) (sc:=sc) hO.m1 hO.sn1 hX.under hX.O4 hX.cap fun w4 rb yb eb wb tb hB=>?_;have P8:=hO.sys.vis _ _ _ _ hinv;have ol0:=hB.low;have Yg0:Mn tb=none:=by
  cases h:Mn tb with
  |none=>rfl
  |some o=>
   have:=(Array.getElem?_eq_some_iff.1 (hmn tb o h)).1;have:=hB.le.2.2.2.2;omega
 have H2:∀b o,Mn b=some o->b<w0.heap.size:=fun b o h=>(Array.getElem?_eq_some_iff.1 (hmn b o h)).1
 let Mn':Nat->Option Obj:=fun b=>if b=tb then some (.cells #[.slice none 0 0,.slice none 0 0,.slice none 0 0,.slice none 0 0,.bool false,.i 0] 30 (0,0)) else Mn b
 have hMn:∀w:World,(∀b,Mn' b≠none->w.heap[b]? =Mn' b)->∀b,Mn b≠none->w.heap[b]? =Mn b:=fun w h b hb=>by
  have B3:b≠tb:=fun e=>hb (e▸Yg0);have:=h b (by show(if b=tb then _ else Mn b)≠none;rw[if_neg B3];exact hb);rw[this];show(if b=tb then _ else Mn b)=_;rw[if_neg B3]
 refine⟨_,_,_,_,ring (Mn:=Mn') (w0:=w0) (rb0:=rb) hO (if_pos rfl) (fun w h=>hbc w (hMn w h)) (fun w hI h=>hsc w hI (hMn w h)),⟨fun X' R w w' fr hJ J3 hfn hl=>?_⟩,?_⟩
 ·obtain⟨_,⟨Γ,hM⟩,hT,W9,ae0⟩:=hJ;have hF:=hM.fix;have hlen:R.cl.length=Y.m:=hT.len.trans (Sys.T8 sc sn);have wj0:=hMn w hM.get;obtain⟨Fq,Oz0,Yh0⟩:=hM.inv;have htb:w.heap[tb]? =Mn' tb:=hM.get tb (by show(if tb=tb then _ else _)≠none;rw[if_pos rfl];simp);have htl:tb<w.heap.size:=by
   have:Mn' tb=some (.cells #[.slice none 0 0,.slice none 0 0,.slice none 0 0,.slice none 0 0,.bool false,.i 0] 30 (0,0)):=if_pos rfl;rw[this]at htb;exact(Array.getElem?_eq_some_iff.1 htb).1
  have tb0:∀b,b<w.heap.size->b≠tb->w'.heap[b]? =w.heap[b]?:=fun b hb B3=>J3.block b hb fun e=>B3 (Option.some.inj e);have htk:Kept Y Γ R Mn' tb:=.inl (by show(if tb=tb then _ else _)≠none;rw[if_pos rfl];simp);have hfp:∀b,R.fp b->b≠tb:=fun b hb e=>(hF.mn tb (by show(if tb=tb then _ else _)≠none;rw[if_pos rfl];simp)).2.1 (e▸hb);refine kc0 (τ:=w0.tape) (d:=w0.drawn) (hk (.returned _) (Yc.W2 w' w0.tape w0.drawn) fr ⟨R,rfl,?_⟩ hfn (lv0 hl) {X' with pend:=0,cap:=0,dn:=0} ?_ (Nat.le_trans E5 (Nat.le_trans hF.size J3.size)) hF.base.low hF.base.pl)
  ·refine⟨hF.mem.congr fun b hb=>tb0 b (hF.mem.lt hb) (hfp b hb),hF.m,hT.evs,hT.N2,hT.used,hT.ends,fun j hj=>?_,ae0,⟨_,Fq,hO.sys.loc _ _ w _ Fq Oz0 fun b hb=>tb0 b (hO.sys.vis _ _ _ _ Oz0 b hb).1 fun e=>(Yh0 b hb).2 (e▸htk),fun b hb=>(Yh0 b hb).1⟩,hF.fpB,fun b hb=>?_,Nat.le_trans hF.size J3.size,J3.os.trans (hF.os rfl),J3.output.trans (hF.output rfl),rfl⟩
   ·rw[W9 j hj,if_pos hj]
   ·have h1:=wj0 b hb;have hbl:b<w.heap.size:=by
     rcases Nat.lt_or_ge b w.heap.size with z|z
     ·exact z
     ·exact absurd (h1.symm.trans (Array.getElem?_eq_none z)) hb
    exact(tb0 b hbl fun e=>hb (e▸Yg0)).trans h1
  ·refine⟨fun i=>?_,rfl,rfl,rfl,?_,fun b hb=>hF.O4 b (Nat.le_trans J3.size hb),hF.il0⟩
   ·show X'.D1 i=none;by_cases h0:i=0
    ·subst h0;exact hF.ls0 rfl
    ·cases hs:X'.D1 i with
     |none=>rfl
     |some s=>
      obtain⟨j,c,h5,h6,h7,_⟩:=hF.Q3 i s h0 hs;have hjl:=(List.getElem?_eq_some_iff.1 h5).1;rcases hF.waits h5 with⟨_,_,l,h8,_⟩|⟨_,x,_,h8⟩
      ·have h8:(if j<Y.m then B8 ((Y.pn sc sn).ft[j]?) else(Y.pn sc sn).ft[j]?)=some (.inl l):=h8;rw[if_pos (by omega)]at h8;cases hx:(Y.pn sc sn).ft[j]? with
       |none=>rw[hx]at h8;cases h8
       |some f=>cases f <;> (rw[hx]at h8;cases h8)
      ·rcases h8 with h8|h8
       ·rw[h6]at h8;cases h8
       ·rw[<- h7,hs]at h8;cases h8
   ·have hu:=hF.under.mono J3.size;exact⟨hu.stay,hu.j4,hu.N7,hu.O2,hu.low⟩
 ·have hle:=hB.le;have Ru0:∀b,(rn0 rb yb eb wb Y.m).fp b->w0.heap.size <=b:=fun b hb=>by
   rcases hb with rfl|rfl|rfl|⟨h,_⟩|⟨h,_⟩|⟨h,_⟩|⟨j,c,h,_⟩
   ·exact hle.1
   ·exact hle.2.2.1
   ·exact hle.2.2.2.1
   ·exact absurd rfl h
   ·exact absurd rfl h
   ·exact absurd rfl h
   ·simp[rn0]at h
  have Yi0:yb<w4.heap.size:=(Array.getElem?_eq_some_iff.1 hB.yb).1;have dy1:¬(rn0 rb yb eb wb Y.m).fp tb:=hB.mem.Or0 hB.tb (by decide);have hu:=hX.under.mono ol0.size;have hnl:∀{j:Nat},¬j<(rn0 rb yb eb wb Y.m).cl.length:=fun h=>Nat.not_lt_zero _ h;have hnc:∀{j:Nat} {c:CB},(rn0 rb yb eb wb Y.m).cl[j]? =some c->False:=fun h=>by simp[rn0]at h
  refine⟨Nat.zero_le _,⟨⟨m0,fun _=>0,fun _=>0,fun _=>0,fun _=>[],fun _ _=>False⟩,⟨⟨hB.mem,rfl,fun j c hc=>(hnc hc).elim,fun j c hc=>(hnc hc).elim,Ru0,fun j hj=>(hnl hj).elim,fun j b hb=>hb.elim,fun b hb=>?_,hX.il0,fun _=>ol0.os,fun _=>ol0.output,ol0.size,rfl,show Go.ConcN.upd X.stay 0 _ 0=_ from Go.ConcN.upd_same _ _ _,.inr rfl,fun g s hg hs=>?_,fun j k hj=>(hnl hj).elim,fun j k hj=>(hnl hj).elim,fun j k c d hc=>(hnc hc).elim,fun j c hc=>(hnc hc).elim,hX.dn,hX.pend,?_,?_,fun b hb=>hX.O4 b (Nat.le_trans ol0.size hb),fun _=>hX.D1 0,⟨E5,fun b hb=>?_,hb3⟩⟩,F,?_,fun b hb=>⟨fun z=>?_,fun z=>?_⟩⟩⟩,⟨rfl,rfl,rfl,rfl,rfl,fun j c hc=>(hnc hc).elim,fun j hj=>?_⟩,rfl,rfl⟩
  ·by_cases hbt:b=tb
   ·subst hbt;refine⟨?_,dy1,fun k hk=>(hnl hk).elim⟩;show _=(if b=b then _ else _);rw[if_pos rfl];exact hB.tb
   ·have hMb:Mn' b=Mn b:=if_neg hbt;rw[hMb]at hb⊢;cases ho:Mn b with
    |none=>exact absurd ho hb
    |some o=>
     have hl:=H2 b o ho;exact⟨(ol0.block b hl).trans (hmn b o ho),fun z=>by have:=Ru0 b z;omega,fun k hk=>(hnl hk).elim⟩
  ·have:=hX.D1 g;have hs:X.D1 g=some s:=hs;rw[this]at hs;cases hs
  ·show X.cap <=0;rw[hX.cap];exact Nat.le_refl _
  ·refine⟨fun g p hp=>?_,hu.j4,fun b hb=>?_,fun G hG=>?_,fun b hb=>?_⟩
   ·by_cases hg:g=0
    ·subst hg;have hp':p∈Go.ConcN.upd X.stay 0 [((⟨rb,8-1,none⟩:Addr),Value.chan (some yb))] 0:=hp;rw[Go.ConcN.upd_same]at hp';simp at hp';rw[hp'];exact hB.mem.run.lt
    ·have hp':p∈Go.ConcN.upd X.stay 0 [((⟨rb,8-1,none⟩:Addr),Value.chan (some yb))] g:=hp;rw[Go.ConcN.upd_ne _ _ hg]at hp';exact hu.stay g p hp'
   ·rcases hb with z|rfl
    ·exact hu.N7 b z
    ·exact Yi0
   ·rcases hG with z|z
    ·have z:some (⟨rb,8⟩:N4)=some G:=z;cases z;exact hB.mem.run.lt
    ·have z:G∈X.O2.toList++X.old:=z;rw[List.mem_append]at z;rcases z with z|z
     ·exact hu.O2 G (.inl (by simpa using z))
     ·exact hu.O2 G (.inr z)
   ·rcases hb with(z|rfl)|rfl
    ·exact hu.low b z
    ·exact Yi0
    ·exact hB.mem.run.lt
  ·rcases hb with(z|rfl)|rfl
   ·exact hb2 b z
   ·have:=hle.2.1;omega
   ·have:=hle.1;omega
  ·exact hO.sys.loc _ _ w0 w4 F hinv fun b hb=>ol0.block b (P8 b hb).1
  ·have:=Ru0 b z;have:=(P8 b hb).1;omega
  ·rcases z with z|⟨k,hk,_⟩|⟨j,z⟩
   ·by_cases hbt:b=tb
    ·have:=(P8 b hb).1;have:=hle.2.2.2.2;omega
    ·exact z ((if_neg hbt).trans (hFm b hb))
   ·exact(hnl hk).elim
   ·exact z
  ·show(List.replicate Y.m (0:Int))[j]? =_;simp[hj];rfl
end
end
end Go.Vy.Sc
end
section
namespace Go.Vy
open Go Go.Conc Go.Yc Go.RowKit
open Go.Vc
section
variable {P:Program}[Ctx P]
end
section
variable {P:Program}[Ctx P]{n:Nat}{Q:Exit->Env->World->Prop}{e:Env}{w:World}{ops:Array Oper}{rest:List Oper}{d:Nat}{ty:TypeId}{ps:String}{af:Array Edge}{T E:TypeId}
theorem L.uf0 {s m:Nat} {parts:List (Nat×Operand)} {vs:List (Nat×Value)} {zv:Value} {cs:Array Value} (hv:parts.map (fun(i,y)=>(i,ev e y))=vs) (hT:P.underlying T=some (.slice E)) (hs:(P.info? E).map (·.size)=some s) (hz:(P.info? E).bind (·.zero)=some zv) (H2:0<m*s/\m*s <=16777216)
  (hf:Instr.fill (fun i=>some (i*s,s)) ((Array.range (m*s)).map (fun i=>zv.cells[i%zv.cells.size]!)) vs=some cs)
  (k:∀w1 b,ev0 w w1 b cs E->L P n ops Q rest (upd e d (.slice (some ⟨b,0,none⟩) m m)) w1) :
  L P n ops Q (⟨some d,.buildSlice T m parts.toArray,ty,ps,af,none⟩::rest) e w:=by
 refine L.va (w':=w.alloc (.cells cs E)) (.j1 (A2 rfl _) rfl rfl fun τ d'=>?_) (k _ _ (J8 w _ E));show(execOp (ev e) ⟨some d,.buildSlice T m parts.toArray,ty,ps,af,none⟩).run P (Yc.W2 w τ d')= .ok (.value (.slice (some ⟨(Yc.W2 w τ d').heap.size,0,none⟩) m m)) ((Yc.W2 w τ d').alloc (.cells cs E));generalize Yc.W2 w τ d'=w;have h1:¬(m*s>2 ^ 24):=by omega
 have h2:¬(m*s=0):=by omega
 simp only[execOp,Instr.buildSlice,List.map_toArray,hv,Go.Vc.run_underlying hT,Go.Vc.run_sizeOf hs,Sem.run_bind,Result.andThen_ok,h1,h2,if_false,Sem.run_pure,Go.Vc.az0 hz];rw[hf];simp[newRow]
end
def Yj0 (P:Program) (fn:Func) (R:Ending->World->Prop):Exit->Env->World->Prop:=fun x e w=>match x with
 | .panic ch=>R (.panicked ch) w
 |x=>ends P fn (fun v w=>R (.returned v) w) x e w
theorem Calls.V5 {P:Program} [Ctx P] {f:FuncId} {fn:Func} {c:Code} {args:Array Value} {w:World} {R:Ending->World->Prop} {n:Nat} (hf:P.funcs[f]? =some fn) (hb:fn.body=some c) (hn:args.size+(fn.ntmps-args.size)=n)
  (h:W P n c (Yj0 P fn R) (Vc.J7 args) w):Calls P f args w R:=by
 refine calls_of_wp hf hb (wp_mono (h _ ⟨?_,rfl,?_⟩) ?_)
 ·simp[hn]
 ·intro t;simp only[Vc.J7,Array.getD_eq_getD_getElem?,Array.getElem?_append];split
  ·rfl
  ·rename_i ht;rw[Array.getElem?_eq_none (by omega:args.size <=t)];simp only[Array.getElem?_replicate];split <;> rfl
 ·rintro x a w' ⟨e',r,hx⟩;cases x with
  |panic ch=>exact⟨r.defers,hx⟩
  |normal=>obtain⟨_,v,hv,hR⟩:=hx;exact⟨r.defers,v,hv a.tmps r.get,hR⟩
  |ret=>obtain⟨_,v,hv,hR⟩:=hx;exact⟨r.defers,v,hv a.tmps r.get,hR⟩
  |exit id=>obtain⟨hx,_⟩:=hx;rcases hx with hx|hx <;> cases hx
  |goto l=>obtain⟨hx,_⟩:=hx;rcases hx with hx|hx <;> cases hx
  |outgrown=>obtain⟨hx,_⟩:=hx;rcases hx with hx|hx <;> cases hx
end Go.Vy
end
section
namespace Go.Vy.Sc
open Go Go.Conc Go.Yc Go.RowKit Go.Proofs Go.Proofs.YtnifpkopeheodaaGreat Tryz
open Go.Vc Go.Wg
theorem gp0 {w:World} {a:Addr} {v:Value} (h:w.cell? a=some v):a.block<w.heap.size:=by
 unfold World.cell? at h;rcases Nat.lt_or_ge a.block w.heap.size with z|z
 ·exact z
 ·rw[Array.getElem?_eq_none z]at h;simp at h
theorem ei0 {w0 w:World} {a:Addr} {v:Value} (h:w0.cell? a=some v) (hb:Below w0.heap.size w0 w):w.cell? a=some v:=by
 rw[(w5 (u:=w0) (u':=w) (a:=a) (hb.block _ (gp0 h))).1];exact h
theorem L4.down {B B':Nat} {w:World} {R:Rn} (h:L4 w B' R) (hB:B <=B'):L4 w B R:=⟨h.run,h.cls.down hB,h.evs.down hB,h.N2.down hB,h.ends,h.k8,h.en0,h.jx0,h.lcl,h.blk⟩
theorem W1 {P:Program} {S:Sem Next} {w:World} {b r:Bool} (h:b=r) (hd:Does P S w (.val (.bool b)) w):Does P S w (.val (.bool r)) w:=h▸hd
structure ug0 (w:World) (sa:Option Addr) (sn scp:Nat) (sc:Nat->Int):Prop where
 sl:SL sa sn
 nil:sa=none->sn=0/\scp=0
 cap:sn <=scp
 cell:∀j,j<sn->w.cell? ⟨ab sa,ao sa+j*1,none⟩=some (.i (sc j))
theorem ug0.A0 {w w':World} {sa:Option Addr} {sn scp:Nat} {sc:Nat->Int} (h:ug0 w sa sn scp sc) (hb:Below w.heap.size w w'):ug0 w' sa sn scp sc:=⟨h.sl,h.nil,h.cap,fun j hj=>ei0 (h.cell j hj) hb⟩
theorem Sys.ind {Y:Sys} (I:PR Y->Prop) (h0:I Y.p0) (hb:∀p,I p->p.ft.length<Y.m->I (Y.bgn p)) (ht:∀p i l,I p->p.ft.length=Y.m->p.ft[i]? =some (.inl l)->Y.rdy i l p.s=true->I (Y.y5 p i)):∀p,Y.Reach p->I p:=by
 have hB:∀n,n <=Y.m->I (Y.M4 n):=by
  intro n
  induction n with
  |zero=>exact fun _=>h0
  |succ n ih=>exact fun hn=>hb _ (ih (by omega)) (by rw[Sys.z5];omega)
 have hP:∀(sc:Nat->Int) n,I (Y.pn sc n):=by
  intro sc n
  induction n with
  |zero=>exact hB Y.m (Nat.le_refl _)
  |succ n ih=>
   show I (Y.step (Y.pn sc n) (sc n));unfold Sys.step;split
   ·rename_i i hi;obtain⟨_,hr⟩:=Sys.ud0 hi;unfold Sys.dp0 at hr;cases hx:(Y.pn sc n).ft[i]? with
    |none=>rw[hx]at hr;cases hr
    |some f=>
     cases f with
     |inl l=>rw[hx]at hr;exact ht _ i l ih (Sys.T8 sc n) hx hr
     |inr x=>rw[hx]at hr;cases hr
   ·exact ih
 rintro p (⟨n,hn,rfl⟩|⟨sc,n,rfl⟩)
 ·exact hB n hn
 ·exact hP sc n
end Go.Vy.Sc
end
section
namespace Go.Vy
open Go Go.Conc Go.Yc Go.RowKit
open Go.Vc
theorem Yk0 {P:Program} {fr:Frame} {fn:Func} {v:Value} {t:Tmp} (hm:fr.mode= .returning) (hd:fr.defers=[]) (hk:fr.kind= .normal) (hf:P.funcs[fr.fn]? =some fn) (hr:fn.results=#[.tmp t]) (hv:fr.tmps.getD t undef=v) (hi:P.inits.idxOf? fr.fn=none) (w:World):stepG P true (G fr []) w= .ended (.done v) w #[]:=by
 have h1:=results_tmp hr fr.tmps P w;have h2:=events_results_tmp (P:=P) (w:=w) hr fr.tmps;simp[G,stepG,unwind,doReturn,hm,hd,hk,hf,hi,h1,h2,hv,seen,GStep.after]
theorem yi0 {P:Program} {fr:Frame} {fn:Func} {w:World} {v:Value} {t:Tmp} (hl:Leaves P fr w (.returned v)) (hf:P.funcs[fr.fn]? =some fn) (hr:fn.results=#[.tmp t]) (hnv:o6 w):fr.tmps.getD t undef=v:=by
 obtain⟨h1,h2,h3,fn',h4,h5⟩:=hl;rw[hf]at h4;obtain rfl:=Option.some.inj h4;obtain⟨x',es,h6,_⟩:=h5 w.tape w.drawn _ w hnv.sim;have h7:=results_tmp hr fr.tmps P w;rw[Sem.runT_eq]at h6;have h8:=(Prod.mk.inj h6).1;rw[h7]at h8;injection h8
end Go.Vy
namespace Go.Vy.Sc
open Go Go.Conc Go.Yc Go.RowKit Go.Proofs Go.Proofs.YtnifpkopeheodaaGreat Tryz
open Go.Vc Go.Wg
def lw0 (W w':World):Prop:=Below W.heap.size W {w' with tape:=W.tape}
theorem lw0.frame {W w':World} (h:lw0 W w') (may:MemPlace->Prop):W.keptBut w' may:=Below.frame h may
theorem lw0.trod {H:Type} {enc:TypeId×Value->H} {P:Program} {t:TypeId} (hl:laidOutB P=true) (hr:P.readableRec t=true) (dz1:t<P.types.size) {W W':World} {v:Value} {d:DataW H} {ps:List MemPlace}
  (h:DataW.Trod enc P W 0 (fun _=>true) true t v d ps) (hb:lw0 W W') (H2:∀x∈ps,x.block<W.heap.size) :
  DataW.Trod enc P W' 0 (fun b=>decide (b<W.heap.size)) true t v d ps :=
 WideElems.Trod_stays hl hr dz1 h (fun x hx=>(Below.same hb (H2 x hx):W.sameAt {W' with tape:=W.tape} x)) (fun x hx=>by simpa using H2 x hx)
theorem Hq0 {x y:Obj} (h:cd0 .all x y):y=x:=by cases h;rfl
theorem Co0 {o x y:Obj} (h:cd0 (.gone o) x y):y=o:=by cases h;rfl
theorem Ue0 {f:FuncId} {fn:Func} {t:Tmp} {args:Array Value} {W:World} (hf:prog.funcs[f]? =some fn) (hr:fn.results=#[.tmp t]) (hi:prog.inits.idxOf? f=none) (h:@C prog (o7 W.heap.size (X0 W).O4) f args (df0 W) fun v w=>v= .bool true/\Below (df0 W).heap.size (df0 W) w) :
  Yc.Ends prog (fun v w'=>v= .bool true/\lw0 W w') (solo (G (Frame.enter prog f args .normal) []) W) #[]:=by
 have B2:(df0 W).heap.size=W.heap.size:=by simp[df0]
 refine Fin.start (h _ ⟨_,rfl⟩ [] (fun e w' fr he hfr hl=>?_) (X0 W) ⟨fun _=>rfl,rfl,rfl,rfl,Dz0 W _,fun b hb=>zr0 (by rw[<- B2];exact hb),Nat.one_pos⟩ (by rw[B2];exact Nat.le_refl _) (fun _ hb=>hb.elim) rfl);cases e with
 |panicked ch=>exact he.elim
 |outgrown=>exact he.elim
 |returned v=>
  obtain⟨rfl,hb⟩:=he;rw[B2]at hb;refine Cm0 _ _ _ _ _ fun hnv X hX h1 h2 h3=>?_;have wk0:prog.funcs[fr.fn]? =some fn:=by rw[hfr];exact hf
  have hv:=yi0 hl wk0 hr hnv;obtain⟨hm,hd,hk,_⟩:=hl;refine Fin.ends rfl hX.D1 hX.cap (Yk0 hm hd hk wk0 hr hv (by rw[hfr];exact hi)) fun ρ w hs hρ=>⟨rfl,?_⟩
  refine⟨hs.os.trans hb.os,rfl,hs.output.trans hb.output,?_,fun k hk=>?_⟩
  ·show W.heap.size <=w.heap.size;rw[hs.size];show W.heap.size <=w'.heap.size;rw[<- B2];exact hb.size
  ·show w.heap[k]? =W.heap[k]?;have hk':k<w'.heap.size:=by have:=hb.size;rw[B2]at this;omega
   obtain⟨y,hy,hlk⟩:=hs.obj k _ (Array.getElem?_eq_getElem hk');have e1:some w'.heap[k]=(df0 W).heap[k]?:=by rw[<- hb.block k hk];exact(Array.getElem?_eq_getElem hk').symm
   have e2:(df0 W).heap[k]? =(W.heap[k]?).map fun o=>if V3 o then nothing else o:=by
    show(W.heap.map _)[k]? =_;rw[Array.getElem?_map]
   rw[Array.getElem?_eq_getElem hk]at e2;rw[e2]at e1;have e1:=Option.some.inj e1;have hp:ρ k=(X0 W).O4 k:=by
    rw[hρ k fun z=>by have:=h2 k z;omega,h3]
   have hp2:(X0 W).O4 k=if V3 W.heap[k] then .gone W.heap[k] else .all:=by
    show(match W.heap[k]? with|some o=>if V3 o then x6.gone o else .all|none=>.all)=_;rw[Array.getElem?_eq_getElem hk]
   rw[hy,Array.getElem?_eq_getElem hk];have hlk:cd0 (ρ k) w'.heap[k] y:=hlk;rw[hp,hp2,e1]at hlk;cases hv:V3 W.heap[k]
   ·simp only[hv,Bool.false_eq_true,if_false]at hlk;rw[Hq0 hlk]
   ·simp only[hv,if_true]at hlk;rw[Co0 hlk]
end Go.Vy.Sc
end
section
namespace Go.Vy.Sc
open Go Go.Conc Go.Yc Go.RowKit Go.Proofs Go.Proofs.YtnifpkopeheodaaGreat Tryz
open Go.Vc Go.Wg Go.ChangeShapes Go.WideShapes Go.ChangeAt Go.Deep
theorem ip0 {W:World} {a:Addr} {v:Value} (h:W.cell? a=some v):(df0 W).cell? a=some v:=by
 unfold World.cell? at h⊢;cases ho:W.heap[a.block]? with
 |none=>rw[ho]at h;cases h
 |some o=>
  cases o with
  |cells c e f=>
   rw[Ea0 ho rfl];rw[ho]at h;exact h
  |_=>rw[ho]at h;cases h
theorem lx0 {α:Type} [Inhabited α] {n:Nat} {p:Nat->α->Prop} (h:∀i,i<n->∃x,p i x):∃f:Nat->α,∀i,i<n->p i (f i):=by
 classical
 exact⟨fun i=>if hi:i<n then(h i hi).choose else default,fun i hi=>by
  show p i (if hi:i<n then(h i hi).choose else default);rw[dif_pos hi];exact(h i hi).choose_spec⟩
section
variable {H:Type}{enc:TypeId×Value->H}{W:World}{base:Nat}{spare:Nat->Bool}{held:Bool}{P:Program}
theorem yj0 {t:TypeId} {fs:Array Field} {fuel:Nat} {cs:List Value} {x:DataW H×List MemPlace} (ht:P.underlying t=some (.struct fs)) (h:DataW.trod enc P W base spare held fuel t cs=some x) :
  ∃m,cs.length=P.cellsOf t/\∀(j:Nat) f,fs[j]? =some f->∃y,DataW.trod enc P W base spare held m f.type ((cs.drop f.offset).take (P.cellsOf f.type))=some y:=by
 obtain⟨xs,m,_,_,hl,hxl,hf⟩:=DataW.trod_struct ht h;refine⟨m,hl,fun j f hj=>?_⟩;have hjl:j<xs.length:=by rw[hxl];exact(Array.getElem?_eq_some_iff.1 hj).1
 exact⟨xs[j],by rw[hf j f hj];exact List.getElem?_eq_getElem hjl⟩
end
section
theorem wl0:prog.cellsOf 3=1:=by kernel_rfl
end
end Go.Vy.Sc
end
section
namespace Go.Vy
open Go Go.Conc Go.Yc
open Go.Vc (Env upd k3 ev)
theorem Does.quiet {P:Program} {S:Sem Next} {u:World} {r:Out} (h:∀τ d ρ x,K5 ρ (W2 u τ d) x->S.run P x=r.res x/\S.events P x #[]=#[]):Does P S u r u :=
 ⟨rfl,rfl,fun τ d ρ x hs=>by
  obtain⟨h1,h2⟩:=h τ d ρ x hs;exact⟨Z8.refl _,x,#[],by rw[Sem.runT_eq,h1,h2],hs,fun e he=>by simp at he⟩⟩
section
variable {P:Program}{ρ:Operand->Value}{d:Option Nat}{ty:TypeId}{ps:String}{af:Array Edge}{g:Option (Nat×Bool)}{x y:Operand}{w:World}
theorem ez0 {src dst t:TypeId} {a:Addr} {v:Value} (hx:ρ x= .pointer (some a)) (hs:P.underlying src=some (.pointer t)) (hd:P.underlying dst=some .unsafePointer) (hz:(P.info? t).map (fun i=>decide (i.size=0))=some false) (hc:w.cell? a=some v) :
  Does P (execOp ρ ⟨d,.convert src dst x,ty,ps,af,g⟩) w (.val (.pointer (some a))) w :=
 .quiet fun τ dd ρ' X h=>by
  have M6:=h.cell (a:=a) (v:=v) hc;refine⟨Go.Vc.ez0 hx hs hd hz M6,?_⟩;simp[execOp,hx,events_convert_to_unsafe hs hd hz M6]
theorem Hr0 {f:FuncId} {fn:Func} {args:Array Value} {e:Array Value->Sem Value} (hf:P.funcs[f]? =some fn) (L2:(fn.name== "runtime.NumGoroutine")=false) (hb:fn.body.isNone=true) (hn:Extern.findNext fn=none) (he:Extern.find fn=some e) (ht:B1 P (e args)):B1 P (callFunc f args):=by
 unfold callFunc;refine vn0 ?_;rw[hf];simp only[L2,Bool.false_eq_true,if_false,hb,if_true,hn,he];exact G1 (s:=mark (Mark.extern f)) (show(if xc0 (Mark.extern f)=true then B1 P (.pure ()) else dead P (.pure ()))by rw[if_pos (show xc0 (Mark.extern f)=true from rfl)];trivial) fun _=>G1 ht fun _=>K1 _
theorem lb0 {f:FuncId} {fn:Func} {aT:Array TypeId} {a:Addr} {p:Option Addr} {u:Value} (hx:ρ x= .pointer (some a)) (hy:ρ y= .pointer p) (hf:P.funcs[f]? =some fn) (L2:(fn.name== "runtime.NumGoroutine")=false) (hb:fn.body.isNone=true) (hn:Extern.findNext fn=none)
  (he:Extern.find fn=some Extern.Atomic.storeT) (hc:w.cell? a=some u) (hz:w.frozen? a=false) (hρ:ρ (.func f)= .func (.func f) #[] #[]) :
  Does P (execOp ρ ⟨d,.call ⟨.value (.func f),#[x,y],aT⟩,ty,ps,af,g⟩) w (.val (.tuple #[])) (w.setCell a (.pointer p)) :=
 .j1 (by
  show B1 P (do let d <- Deferred.ofValue (ρ (.func f)) (#[x,y].map ρ);invoke d.target d.args);rw[hρ];refine U472 ?_;have e1:(#[] ++ #[x,y].map ρ ++ #[]:Array Value)=#[.pointer (some a),.pointer p]:=by simp[hx,hy]
  rw[e1];show B1 P (do store (<- asAddr (.pointer (some a))) (.pointer p) .atomic;pure Extern.Atomic.none_);exact G1 (fu0 _) fun b=>G1 (td0 _ _ _) fun _=>K1 _) rfl rfl fun τ dd=>Go.Vc.lb0 hx hy hf L2 hb hn he hc hz hρ
end
section
open Go.Vc Go.RowKit
variable {P:Program}[Ctx P]
end
end Go.Vy
end
section
namespace Go.Vy.Sc
open Go Go.Conc Go.Yc Go.RowKit Go.Proofs Go.Proofs.YtnifpkopeheodaaGreat Tryz
open Go.Vc Go.Wg
structure w9 (K:Q8 prog) (w:World) (o:gl0 K.S K.L):Prop where
 on:gh w 2=0
 N2:gh w 1=0
 out:K.out (gh w 0)=o
 none:o.N2=[]
 os:w.os=K.base.os
 output:w.output=K.base.output
section
variable {K:Q8 prog}{w w':World}{o:gl0 K.S K.L}
theorem w9.to (h:w9 K w o) (ht:w'.tape=w.tape) (ho:w'.os=w.os) (ho2:w'.output=w.output):w9 K w' o :=
 ⟨by rw[n4 ht];exact h.on,by rw[n4 ht];exact h.N2,by rw[n4 ht];exact h.out,h.none,ho.trans h.os,ho2.trans h.output⟩
theorem w9.A0 {B:Nat} (h:w9 K w o) (hb:Below B w w'):w9 K w' o:=h.to hb.tape hb.os hb.output
theorem w9.k5 {r:Option Nat} (h:w9 K w o) (hg:w.grownBy w' r) (_:True):w9 K w' o:=h.to hg.tape hg.os hg.output
theorem w9.S2 {F:Nat->Prop} {m:Gm} {f:K.L ⊕ Nat} (h:w9 K w o) (hf:o.g8=f) (hm:K.gu (gm w) m) (hi:K.Inv o.s m w F):K.Told w m F f :=
 ⟨h.on,by rw[h.out];exact hf,by rw[h.N2,h.out,h.none];rfl,by rw[h.out];exact hi,hm,h.os,h.output⟩
theorem w9.done {F:Nat->Prop} {m:Gm} {v:Value} (h:w9 K w o) (hf:o.g8= .inr 1) (hm:K.gu (gm w) m) (hi:K.Inv o.s m w F):K.xt0 w F (.returned v):=.inl ⟨m,h.S2 hf hm hi⟩
theorem w9.goes {F F':Nat->Prop} {m:Gm} {u:World} {l:K.L} (h:w9 K w o) (hg:K.Goes w m F l u F') (hn:∀s,(K.go l s).N2=[]):w9 K u (K.go l (K.sOf (gh u 0))) :=
 ⟨hg.on,hg.N2,hg.out,hn _,hg.X6.os.trans h.os,hg.X6.output.trans h.output⟩
end
structure gq0 (Y:Sys) (sc:Nat->Int) (sn B:Nat) (R:Rn) (w:World):Prop where
 mem:L4 w B R
 hm:R.m=Y.m
 evs:R.evs=(Y.pn sc sn).evs
 N2:R.N2=(Y.pn sc sn).N2
 used:R.used=(Y.pn sc sn).used
 ends:∀j,j<Y.m->R.ends[j]? =some (as0 (Y.pn sc sn).ft[j]?)
 k8:∀j,j<Y.m->R.k8[j]? =some (Rn0 Y j ((Y.pn sc sn).ft[j]?))
 stuck:R.stuck=((Y.pn sc sn).ft.any (·.isLeft)&&(Y.rds (Y.pn sc sn)).isEmpty)
 fp:∀b,R.fp b->B <=b
section
variable {Y:Sys}{sc:Nat->Int}{sn B B':Nat}{R:Rn}{w w':World}
theorem gq0.congr (h:gq0 Y sc sn B R w) (he:∀k,R.fp k->w'.heap[k]? =w.heap[k]?):gq0 Y sc sn B R w' :=
 ⟨h.mem.congr he,h.hm,h.evs,h.N2,h.used,h.ends,h.k8,h.stuck,h.fp⟩
theorem gq0.A0 (h:gq0 Y sc sn B R w) (hb:Below w.heap.size w w'):gq0 Y sc sn B R w':=h.congr fun k hk=>hb.block k (h.mem.lt hk)
theorem gq0.k5 {b:Nat} (h:gq0 Y sc sn B R w) (hg:w.grownBy w' (some b)) (hn:¬R.fp b):gq0 Y sc sn B R w':=h.congr fun k hk=>hg.block k (h.mem.lt hk) fun e=>hn (by cases e;exact hk)
theorem gq0.down (h:gq0 Y sc sn B' R w) (hB:B <=B'):gq0 Y sc sn B R w :=
 ⟨h.mem.down hB,h.hm,h.evs,h.N2,h.used,h.ends,h.k8,h.stuck,fun b hb=>Nat.le_trans hB (h.fp b hb)⟩
theorem Mc0 {fb:Nat->FuncId} {caps:Nat->Array Value} {fv:Nat->Value} {l sa:Option Addr} {lc scp:Nat} {F:Nat->Prop} (hO:jm0 Y fb caps fv l sa sn sc) {m0:Gm} (hinv:Y.Inv Y.s0 m0 w F) (hl:∀j,j<Y.m->w.cell? ⟨ab l,ao l+j*1,none⟩=some (fv j)) (hlF:0<Y.m->¬F (ab l)) (hSc:ug0 w sa sn scp sc) (hsF:0<sn->¬F (ab sa)\/∀s m w' F',Y.Inv s m w' F'->w'.heap[ab sa]? =w.heap[ab sa]?) :
  @C prog (o7 Y.lb Y.pl) 48 #[.slice l Y.m lc,.slice sa sn scp] w fun v w'=>∃R,v= .tuple #[Gu0 R,.i 0]/\gq0 Y sc sn w.heap.size R w'/\(∃m' F',Y.Inv (Y.pn sc sn).s m' w' F'/\∀b,F' b->¬R.fp b)/\w'.os=w.os/\w'.output=w.output/\w'.tape=w.tape/\w.heap.size <=w'.heap.size/\∀b,b<w.heap.size->¬F b->w'.heap[b]? =w.heap[b]?:=by
 classical
 let Mn:Nat->Option Obj:=fun b=>if F b then none else w.heap[b]?
 have T9:∀(w':World) (a:Addr) (v:Value),(∀b,Mn b≠none->w'.heap[b]? =Mn b)->¬F a.block->w.cell? a=some v->w'.cell? a=some v:=fun w' a v hw hF ha=>by
  have h1:Mn a.block=w.heap[a.block]?:=if_neg hF;have h2:w'.heap[a.block]? =w.heap[a.block]?:=by
   rw[<- h1];refine hw _ ?_;rw[h1,Array.getElem?_eq_getElem (gp0 ha)];simp
  rw[(w5 (u:=w) (u':=w') (a:=a) h2).1];exact ha
 have key:=Yf0 (Mn:=Mn) (w0:=w) (F:=F) (bc:=lc) (scp:=scp) hO (fun b o h=>by
   have h:(if F b then none else w.heap[b]?)=some o:=h;split at h
   ·cases h
   ·exact h) hinv (fun b hb=>if_pos hb) (fun w' hw j hj=>T9 w' _ _ hw (hlF (by omega)) (hl j hj)) (fun w' hI hw j hj=>by
   rcases hsF (by omega)with h|h
   ·exact T9 w' _ _ hw h (hSc.cell j hj)
   ·obtain⟨s,m,F',hI⟩:=hI;rw[(w5 (u:=w) (u':=w') (a:=⟨ab sa,ao sa+j*1,none⟩) (h s m w' F' hI)).1];exact hSc.cell j hj)
 refine @Calls.mono _ (o7 Y.lb Y.pl) _ _ _ _ _ key fun e w' he=>?_;cases e with
 |panicked ch=>exact he.elim
 |outgrown=>exact he.elim
 |returned v=>
  obtain⟨R,rfl,hD⟩:=he;refine⟨R,rfl,⟨hD.mem,hD.m,hD.evs,hD.N2,hD.used,hD.ends,hD.k8,hD.stuck,hD.fp⟩,hD.inv,hD.os,hD.output,hD.tape,hD.size,fun b hb hF=>?_⟩;have h1:Mn b=w.heap[b]?:=if_neg hF;rw[<- h1];refine hD.A0 b ?_;rw[h1,Array.getElem?_eq_getElem hb];simp
end
section
variable [Ctx prog]
theorem gr0 (wb:Nat) (w0:World) (hW:S0 w0 wb #[.bool false] 105):C prog 44 #[.p wb] w0 fun v w=>v= .bool false/\w=w0:=by
 refine C.enter (n:=11) func44 rfl rfl ?_;refine U2 ?_;refine U88 ?_;refine U517 ?_;refine U115 ?_;refine U506 ?_;refine L.on rfl ?_;refine L.va (E0 rfl underlying4 rfl (hW.F0 0 (v:=.bool false) rfl)) ?_;refine L.va (Q7 rfl) ?_;refine U35 ?_;exact⟨rfl,rfl⟩
theorem Rv0 (b0 b1 cb:Nat) (obj num:Int) (q:Value) (x:Int) (x2:Int) (w0:World) (k6:S0 w0 b0 #[.p cb] 69) (hB1:S0 w0 b1 #[.i x2] 2) (hC:S0 w0 cb #[.i obj,.i num,q,.i x] 115) :
  C prog 58 #[.p b0,.p b1] w0 fun v w=>v= .tuple #[]/\S0 w b1 #[.i x] 2/\w0.grownBy w (some b1):=by
 refine C.enter (n:=6) func58 rfl rfl ?_;refine W.region rfl ?_;refine L.va (E0 rfl underlying69 rfl (k6.F0 0 (v:=.p cb) rfl)) ?_;refine U465 ?_;refine L.va (E0 rfl underlying2 rfl (hC.F0 3 (v:=.i x) rfl)) ?_;refine L.pu 0 [.i x] #[.i x] sz2 hB1 (fun w C1 hg B2=>?_);have T5:=V7.dj0 hB1 hg;have hB1:=C1;exact U283
theorem Rw0 (b0 b1 cb:Nat) (obj num:Int) (q:Value) (x:Int) (x2:Int) (w0:World) (k6:S0 w0 b0 #[.i x] 2) (hB1:S0 w0 b1 #[.p cb] 69) (hC:S0 w0 cb #[.i obj,.i num,q,.i x2] 115) :
  C prog 57 #[.p b0,.p b1] w0 fun v w=>v= .tuple #[]/\S0 w cb #[.i obj,.i num,q,.i x] 115/\w0.grownBy w (some cb):=by
 refine C.enter (n:=6) func57 rfl rfl ?_;refine W.region rfl ?_;refine L.va (E0 rfl underlying69 rfl (hB1.F0 0 (v:=.p cb) rfl)) ?_;refine L.va (E0 rfl underlying2 rfl (k6.F0 0 (v:=.i x) rfl)) ?_;refine U465 ?_;refine L.pu 3 [.i x] #[.i obj,.i num,q,.i x] sz2 hC (fun w C1 hg B2=>?_);have T5:=V7.dj0 hC hg;have hC:=C1;refine U110 ?_;exact⟨rfl,hC,hg⟩
end
theorem cw0 {w:World} {b:Nat} {cs:Array Value} {T:TypeId} {f:Nat×Nat} (h:I1 w b cs T f) (h0:0<cs.size):w.heap[b]? ≠some nothing:=by
 unfold I1 at h;rw[h];intro e;have e1:=Option.some.inj e;unfold nothing at e1;injection e1 with e2
 rw[e2]at h0;exact absurd h0 (Nat.lt_irrefl 0)
theorem af0 {P:Program} {f:FuncId} {fn:Func} {caps:Array Value} (hf:P.funcs[f]? =some fn) (hb:fn.body.isSome=true) (hn:(fn.name== "runtime.NumGoroutine")=false):Kw0 P (.func (.func f) #[] caps) f caps:=⟨rfl,fn,hf,hb,hn⟩
structure Cp0 (w:World) (t:Nat):Prop where
 eq:gh w 0=t
structure KOk (K:Q8 prog):Prop where
 loc:∀s m (w w':World) F,K.Inv s m w F->(∀b,F b->w'.heap[b]? =w.heap[b]?)->K.Inv s m w' F
 vis:∀s m (w:World) F,K.Inv s m w F->∀b,F b->b<w.heap.size/\w.heap[b]? ≠some nothing
 refl:∀a,K.gu a a
 step:K.jg0=83
 number:K.L3=47
theorem Sys.kok {Y:Sys} (h:lt0 Y) {fb:Nat->FuncId} {q:PR Y} {w0:World} {i cb:Nat} {top:List Frame}:KOk (Y.cfg fb q w0 i cb top):=⟨h.loc,h.vis,fun a j _=>h.refl j a,rfl,rfl⟩
section
variable {K:Q8 prog}{w0 w u u':World}{m:Gm}{F F':Nat->Prop}{l:K.L}{f:K.L ⊕ Nat}
theorem KOk.S2 (hK:KOk K) (h:K.Told w0 m F f) (ht:w.tape=w0.tape) (ho:w.os=w0.os) (hp:w.output=w0.output) (hk:∀b,F b->w.heap[b]? =w0.heap[b]?):K.Told w m F f :=
 ⟨by rw[n4 ht];exact h.on,by rw[n4 ht];exact h.g8,by rw[n4 ht,n4 ht];exact h.N2,hK.loc _ _ w0 w F (by rw[n4 ht];exact h.inv) hk,by rw[gk0 ht];exact h.le,ho.trans h.os,hp.trans h.output⟩
theorem KOk.A0 (hK:KOk K) (h:K.Told w0 m F f) (hb:Below w0.heap.size w0 w):K.Told w m F f :=
 hK.S2 h hb.tape hb.os hb.output fun b hF=>hb.block b (hK.vis _ _ _ _ h.inv b hF).1
theorem KOk.tlt (hK:KOk K) (h:K.Told w0 m F f) {b:Nat} (hF:F b):b<w0.heap.size:=(hK.vis _ _ _ _ h.inv b hF).1
theorem j5.down (hb:Below w0.heap.size w0 w) (h:K.j5 w m F u F'):K.j5 w0 m F u F' :=
 ⟨Nat.le_trans hb.size h.size,fun b H2 hn hF=>by
  have e:=hb.block b H2;have:=h.A0 b (Nat.lt_of_lt_of_le H2 hb.size) (by rw[e];exact hn) hF;exact⟨this.1.trans e,this.2⟩,h.inv,h.le,h.os.trans hb.os,h.output.trans hb.output⟩
theorem Goes.down (hb:Below w0.heap.size w0 w) (h:K.Goes w m F l u F'):K.Goes w0 m F l u F':=⟨j5.down hb h.X6,h.N2,h.on,h.out,h.rdy,h.at_⟩
theorem Goes.own (hK:KOk K) (h:K.Goes w0 m F l u F') (ht:u'.tape=u.tape) (ho:u'.os=u.os) (hp:u'.output=u.output) (hs:u.heap.size <=u'.heap.size) (hk:∀b,(b<w0.heap.size\/F' b)->b<u.heap.size->u'.heap[b]? =u.heap[b]?):K.Goes w0 m F l u' F':=by
 have hv:=hK.vis _ _ _ _ h.X6.inv;refine⟨⟨Nat.le_trans h.X6.size hs,fun b H2 hn hF=>?_,?_,?_,ho.trans h.X6.os,hp.trans h.X6.output⟩,?_,?_,?_,?_,?_⟩
 ·have:=h.X6.A0 b H2 hn hF;exact⟨(hk b (.inl H2) (Nat.lt_of_lt_of_le H2 h.X6.size)).trans this.1,this.2⟩
 ·rw[n4 ht,gk0 ht];exact hK.loc _ _ u u' F' h.X6.inv fun b hb=>hk b (.inr hb) (hv b hb).1
 ·rw[gk0 ht];exact h.X6.le
 ·rw[n4 ht];exact h.N2
 ·rw[n4 ht];exact h.on
 ·rw[n4 ht];exact h.out
 ·rw[n4 ht];exact h.rdy
 ·rw[n4 ht];exact h.at_
structure Gn (K:Q8 prog) (w0:World) (m:Gm) (F:Nat->Prop) (l:K.L) (u:World) (F':Nat->Prop):Prop where
 ok:KOk K
 goes:K.Goes w0 m F l u F'
theorem Gn.k5 (h:Gn K w0 m F l u F') {b:Nat} (hg:u.grownBy u' (some b)) (hn:w0.heap.size <=b/\¬F' b):Gn K w0 m F l u' F' :=
 ⟨h.ok,Goes.own h.ok h.goes hg.tape hg.os hg.output hg.size fun k hk hl=>hg.block k hl fun e=>by cases e;rcases hk with hk|hk;omega;exact hn.2 hk⟩
theorem Goes.ag0 (h:K.Goes w0 m F l u F') {b:Nat} {cs:Array Value} {T:TypeId} (hB:S0 w0 b cs T) (h0:0<cs.size) (hF:¬F b):S0 u b cs T/\¬F' b:=by
 have hB':I1 w0 b cs T (0,0):=T3 hB;have:=h.X6.A0 b hB'.lt (cw0 hB' h0) hF;exact⟨this.1.trans hB',this.2⟩
end
structure fg0 (K:Q8 prog) (w0 u:World):Prop where
 g2:gh u 2=1
 inv:∃F',K.Inv (K.sOf (gh u 0)) (gm u) u F'
 os:u.os=w0.os
 output:u.output=w0.output
theorem fg0.at {K:Q8 prog} {w0 w1 u:World} (h:fg0 K w1 u) (ho:w1.os=w0.os) (hp:w1.output=w0.output):fg0 K w0 u:=⟨h.g2,h.inv,h.os.trans ho,h.output.trans hp⟩
theorem uh0 {K:Q8 prog} {w0 u:World} {m:Gm} {F F':Nat->Prop} (h:K.j5 w0 m F u F') (h2:gh u 2=1):fg0 K w0 u:=⟨h2,⟨F',h.inv⟩,h.os,h.output⟩
theorem fg0.done {K:Q8 prog} {w0 u:World} {ch:List PanicEntry} (hK:KOk K) (h:fg0 K w0 u) (hr:bd0 ch) (ho:w0.os=K.base.os) (hp:w0.output=K.base.output):∃F,K.xt0 u F (.panicked ch):=by
 obtain⟨F',hi⟩:=h.inv;exact⟨F',hr,.inr ⟨h.g2,⟨gm u,hK.refl _,hi⟩,h.os.trans ho,h.output.trans hp⟩⟩
def D3 (K:Q8 prog) (w0:World) (R:Value->World->Prop):Ending->World->Prop
 | .returned v,u=>R v u
 | .panicked ch,u=>bd0 ch/\fg0 K w0 u
 | .outgrown,_=>False
theorem Rx0 (x0:Int) (x1:Int) (x2:Int):prog.built 47 [(0,.i x0),(1,.i x1),(2,.i x2)]=some #[.i x0,.i x1,.i x2]:=by kernel_rfl
theorem C8 {K:Q8 prog} (hK:KOk K) {l:K.L} {m:Gm} {F:Nat->Prop} {o n ki:Int} {rd df:Value} (w0:World) (hT:K.Told w0 m F (.inl l)) (R2:K.stp l=⟨ki,o,n⟩) (hr:∀w,Below w0.heap.size w0 w->K.cm0 w m F rd l) (_hrc:∃f caps,rd= .nilFunc\/rd= .func (.func f) #[] caps) (hdf:FnV prog df) (Rdo:World->World->Prop) (hdo:∀w,Below w0.heap.size w0 w->∀u F',K.Goes w m F l u F'->Bv0 prog K.C4 df u (Rdo u)) :
  @Calls prog (J0 K) 56 #[.agg #[.i o,.i n],.p K.ptr,.i ki,rd,df] w0 (D3 K w0 fun v u=>v= .tuple #[]/\∃u0 F',K.Goes w0 m F l u0 F'/\Rdo u0 u/\u.tape=u0.tape):=by
 letI:Ctx prog:=J0 K;refine Calls.V5 (n:=20) func56 rfl rfl ?_;refine U3 ?_;intro hb;refine L.box (cs:=#[.i o,.i n]) rfl rfl (fun w b5 F5=>?_);refine U244 ?_;intro lt5 hb;have P2:=F5.blk;refine U50 ?_;refine U41 ?_;refine L.va (K0 rfl underlying107 rfl sz3 (by decide)) ?_;refine L.va (E0 rfl underlying3 rfl (P2.F0 0 (v:=.i o) rfl)) ?_;refine L.va (K0 rfl underlying107 rfl sz3 (by decide)) ?_;refine L.va (E0 rfl underlying3 rfl (P2.F0 1 (v:=.i n) rfl)) ?_;refine L.va (N3 (parts:=[(0,.tmp 11),(1,.tmp 13),(2,.tmp 15)]) rfl (Rx0 ki o n)) ?_;refine L.va ci0 ?_;refine L.va ci0 ?_;have x9:=hb;refine L.W3 rfl (A8 rfl rfl rfl rfl func83 rfl cx1 rfl) (hK.step▸Bw0 (K:=K) (hK.A0 hT hb) (by rw[R2];rfl) (hr _ hb) hdf Rdo (hdo _ hb)) ?_ ?_ (fun _ h=>h)
 ·rintro v u ⟨rfl,u0,F',hg,hR,ht⟩;rename_i wL;refine U75 ?_;exact⟨rfl,u0,F',Goes.down x9 hg,hR,ht⟩
 ·rintro ch u ⟨R6,F',hl,h2⟩;exact⟨R6,(uh0 hl h2).at x9.os x9.output⟩
set_option maxHeartbeats 400000 in
theorem Md0 {K:Q8 prog} (hK:KOk K) {S4:K.L} {m:Gm} {F:Nat->Prop} (cb wb:Nat) (obj num:Int) (x:Nat->Int) (x2:Int) (w0:World) (hT:K.Told w0 m F (.inl S4)) (R2:K.stp S4=⟨8,obj,num⟩) (hrd:∀s,K.rdy S4 s=true) (hW:S0 w0 wb #[.bool false] 105) (hC:S0 w0 cb #[.i obj,.i num,.p wb,.i x2] 115) (hgo:∀u F',K.Goes w0 m F S4 u F'->S0 u cb #[.i obj,.i num,.p wb,.i (x (gh u 0))] 115) :
  @Calls prog (J0 K) 22 #[.p cb,.p K.ptr] w0 (D3 K w0 fun v u=>∃F' tt,Gn K w0 m F S4 u F'/\Cp0 u tt/\v= .i (x tt)):=by
 letI:Ctx prog:=J0 K;refine Calls.V5 (n:=26) func22 rfl rfl ?_;refine U3 ?_;intro hb;refine L.box (cs:=#[.p cb]) rfl rfl (fun w b2 F2=>?_);refine U20 ?_;intro lt2 hb;have hW:=hW.A0 F2.below;refine U65 ?_;intro hC K7;refine U104 ?_;refine L.alloc (cs:=#[.i 0]) zr2 rfl (fun w b5 F5=>?_);refine U87 ?_;intro lt5 hb hW hC;have K7:=K7.A0 F5.below;have P2:=F5.blk;refine U61 ?_;refine L.va (E0 rfl underlying69 rfl (K7.F0 0 (v:=.p cb) rfl)) ?_;refine L.va (c5 rfl rfl underlying69) ?_;refine U185 ?_;refine U448 ?_;refine U523 ?_;rintro _ w1 ⟨rfl,hw⟩;refine U13 ?_;refine U62 ?_;refine U448 ?_;refine U376 ?_;refine L.va (K3 rfl) ?_;refine L.va (S3 (l:=[.tmp 2,.tmp 5]) (vs:=[.p b2,.p b5]) rfl) ?_;have x9:=hb;refine U251 ?_;intro hF5 hF2;have K9:@Calls prog (J0 K) 56 #[.agg #[.i obj,.i num],.p K.ptr,.i 8,.nilFunc,.func (.func 58) #[] #[.p b2,.p b5]] w (D3 K w fun v u=>v= .tuple #[]/\∃u0 F',K.Goes w m F S4 u0 F'/\(S0 u b5 #[.i (x (gh u0 0))] 2/\u0.grownBy u (some b5))/\u.tape=u0.tape):=by
  refine C8 hK w (hK.A0 hT hb) R2 (fun w1 E5=>.inl ⟨rfl,hrd⟩) ⟨0,#[],.inl rfl⟩ (.inr ⟨58,_,af0 func58 rfl Wh0⟩) (fun u u2=>S0 u2 b5 #[.i (x (gh u 0))] 2/\u.grownBy u2 (some b5)) (fun w1 E5 u F' hg=>.inr ⟨58,_,af0 func58 rfl Wh0,?_⟩);exact @C.mono _ (C4 prog K.L3 K.ptr K.num) _ _ _ _ _ (@Rv0 (C4 prog K.L3 K.ptr K.num) b2 b5 cb obj num _ _ _ u (Goes.ag0 hg (K7.A0 E5) (Nat.zero_lt_succ _) hF2).1 (Goes.ag0 hg (P2.A0 E5) (Nat.zero_lt_succ _) hF5).1 (hgo u F' (Goes.down (O0 hb E5) hg))) fun v w' h=>h.2
 refine L.W3 rfl (l7 rfl rfl rfl rfl rfl func56 rfl oa0 rfl) K9 ?_ ?_ (fun _ h=>h)
 ·rintro v u ⟨rfl,u0,F',hg,⟨ly0,J3⟩,ht⟩;refine U225 ?_;intro h5 hgn;obtain⟨tt,htt⟩:∃tt,gh u0 0=tt:=⟨_,rfl⟩
  rw[htt]at ly0;have htt:Cp0 u tt:=⟨(n4 ht 0).trans htt⟩
  have P2:=ly0;clear hb ly0 K7 hC K9;rename_i wL;clear hW;refine U10 ?_;refine L.va (E0 rfl underlying2 rfl (P2.F0 0 (v:=.i (x tt)) rfl)) ?_;exact U269
 ·rintro ch u ⟨R6,hh⟩;exact⟨R6,hh.at x9.os x9.output⟩
set_option maxHeartbeats 400000 in
theorem Me0 {K:Q8 prog} (hK:KOk K) {S4:K.L} {m:Gm} {F:Nat->Prop} (cb wb:Nat) (obj num:Int) (x:Int) (x2:Int) (w0:World) (hT:K.Told w0 m F (.inl S4)) (R2:K.stp S4=⟨9,obj,num⟩) (hrd:∀s,K.rdy S4 s=true) (hW:S0 w0 wb #[.bool false] 105) (hC:S0 w0 cb #[.i obj,.i num,.p wb,.i x2] 115) (hgo:∀u F',K.Goes w0 m F S4 u F'->∃x2,S0 u cb #[.i obj,.i num,.p wb,.i x2] 115) :
  @Calls prog (J0 K) 21 #[.p cb,.p K.ptr,.i x] w0 (D3 K w0 fun v u=>v= .tuple #[]/\∃u0 F',Gn K w0 m F S4 u0 F'/\S0 u cb #[.i obj,.i num,.p wb,.i x] 115/\u0.grownBy u (some cb)):=by
 letI:Ctx prog:=J0 K;refine Calls.V5 (n:=26) func21 rfl rfl ?_;refine U3 ?_;intro hb;refine L.box (cs:=#[.p cb]) rfl rfl (fun w b3 F3=>?_);have lt3:=F3.lq hb.size;have hb:=O0 hb F3.below;have hW:=hW.A0 F3.below;have hC:=hC.A0 F3.below;have hB3:=F3.blk;refine L.box (cs:=#[.i x]) rfl rfl (fun w b5 F5=>?_);refine U87 ?_;intro lt5 hb hW hC;have hB3:=hB3.A0 F5.below;have P2:=F5.blk;refine U26 ?_;refine L.va (E0 rfl underlying69 rfl (hB3.F0 0 (v:=.p cb) rfl)) ?_;refine L.va (c5 rfl rfl underlying69) ?_;refine U5 ?_;refine U449 ?_;refine U523 ?_;rintro _ w1 ⟨rfl,hw⟩;refine U13 ?_;refine U49 ?_;refine U449 ?_;refine U376 ?_;refine L.va (K3 rfl) ?_;refine L.va (S3 (l:=[.tmp 5,.tmp 3]) (vs:=[.p b5,.p b3]) rfl) ?_;have x9:=hb;have hF5:¬F b5:=fun z=>by have:=hK.tlt hT z;omega
 have hF3:¬F b3:=fun z=>by have:=hK.tlt hT z;omega
 have K9:@Calls prog (J0 K) 56 #[.agg #[.i obj,.i num],.p K.ptr,.i 9,.nilFunc,.func (.func 57) #[] #[.p b5,.p b3]] w (D3 K w fun v u=>v= .tuple #[]/\∃u0 F',K.Goes w m F S4 u0 F'/\(S0 u cb #[.i obj,.i num,.p wb,.i x] 115/\u0.grownBy u (some cb))/\u.tape=u0.tape):=by
  refine C8 hK w (hK.A0 hT hb) R2 (fun w1 E5=>.inl ⟨rfl,hrd⟩) ⟨0,#[],.inl rfl⟩ (.inr ⟨57,_,af0 func57 rfl Wg0⟩) (fun u u2=>S0 u2 cb #[.i obj,.i num,.p wb,.i x] 115/\u.grownBy u2 (some cb)) (fun w1 E5 u F' hg=>.inr ⟨57,_,af0 func57 rfl Wg0,?_⟩);obtain⟨y0,hCu⟩:=hgo u F' (Goes.down (O0 hb E5) hg);exact @C.mono _ (C4 prog K.L3 K.ptr K.num) _ _ _ _ _ (@Rw0 (C4 prog K.L3 K.ptr K.num) b5 b3 cb obj num _ x _ u (Goes.ag0 hg (P2.A0 E5) (Nat.zero_lt_succ _) hF5).1 (Goes.ag0 hg (hB3.A0 E5) (Nat.zero_lt_succ _) hF3).1 hCu) fun v w' h=>h.2
 refine L.W3 rfl (l7 rfl rfl rfl rfl rfl func56 rfl oa0 rfl) K9 ?_ ?_ (fun _ h=>h)
 ·rintro v u ⟨rfl,u0,F',hg,⟨hCn,J3⟩,ht⟩;have N8:=Goes.down x9 hg;rename_i wL;refine L.nil ?_;refine B.nrm ?_;refine U124 ?_;exact⟨rfl,u0,F',⟨hK,N8⟩,hCn,J3⟩
 ·rintro ch u ⟨R6,hh⟩;exact⟨R6,hh.at x9.os x9.output⟩
end Go.Vy.Sc
end
section
namespace Go.Vy
open Go Go.Yc Go.RowKit
open Go.Vc
section
variable {P:Program}{ρ:Operand->Value}{w:World}{d:Option Nat}{ty:TypeId}{ps:String}{af:Array Edge}{g:Option (Nat×Bool)}
theorem lz0 {S:Sem Next} {r:Out} (h:∀x,S.run P x=r.res x) (he:∀x,S.events P x #[]=#[]):Does P S w r w :=
 ⟨rfl,rfl,fun τ d ρ x hs=>⟨Z8.refl _,x,#[],by rw[Sem.runT_eq,h,he],hs,fun e he=>by simp at he⟩⟩
theorem G9 {T:TypeId} {r x0:Operand} {v v0:Value} {name:String} {aT:Array TypeId} {F:FuncId} {fn:Func} (hx:ρ r= .iface T v) (h0:ρ x0=v0) (hm:∀recv w,(Go.method (P.types.size+Made.depth) T recv name).run P w= .ok (F,recv) w) (hme:∀recv w,(Go.method (P.types.size+Made.depth) T recv name).events P w #[]=#[]) (hf:P.funcs[F]? =some fn) (hb:fn.body.isSome=true) (hn:(fn.name== "runtime.NumGoroutine")=false) :
  Does P (execOp ρ ⟨d,.call ⟨.invoke r name,#[x0],aT⟩,ty,ps,af,g⟩) w (.enter F #[v,v0]) w:=by
 have P7:fn.body.isNone=false:=by cases h:fn.body <;> simp_all
 have hn':fn.name≠ "runtime.NumGoroutine":=by simpa using hn
 have hb2:fn.body≠none:=by intro h;rw[h]at hb;cases hb
 refine lz0 (fun x=>?_) fun x=>?_
 ·have hm':Sem.run P (Go.method (P.types.size+100) T v name) x= .ok (F,v) x:=hm v x;show _=Result.ok (Next.enter F #[v,v0]) x;simp[execOp,resolve,hx,h0,invoke,callMethod,go_sem,hm',callFunc,hf,hn',hb2]
 ·have hm':Sem.run P (Go.method (P.types.size+100) T v name) x= .ok (F,v) x:=hm v x;have ea1:Sem.events P (Go.method (P.types.size+100) T v name) x #[]=#[]:=hme v x;simp[execOp,resolve,hx,h0,invoke,callMethod,go_sem,hm',ea1,callFunc,hf,hn',hb2]
end
end Go.Vy
end
section
namespace Go.Vy.Sc
open Go Go.Conc Go.Yc Go.RowKit Go.Proofs Go.Proofs.YtnifpkopeheodaaGreat Tryz
open Go.Vc Go.Wg
theorem Ry0 [Ctx prog] (b0 b1 cb:Nat) (obj num:Int) (q:Value) (x x2:Int) (sa:Value) (w0:World) (k6:S0 w0 b0 #[.pointer (some ⟨cb,0,none⟩)] 67) (hB1:S0 w0 b1 #[.int .i64 x2] 2) (hC:S0 w0 cb #[.int .i64 obj,.int .i64 num,q,.int .i64 x,sa] 132) :
  C prog 64 #[.pointer (some ⟨b0,0,none⟩),.pointer (some ⟨b1,0,none⟩)] w0 fun v w=>v= .tuple #[]/\S0 w b1 #[.int .i64 x] 2/\w0.grownBy w (some b1):=by
 refine C.enter (n:=6) func64 rfl rfl ?_;refine U409 ?_;refine U466 ?_;refine U499 ?_;intro w C1 hg B2;have T5:=V7.dj0 hB1 hg;have hB1:=C1;exact U283
set_option maxHeartbeats 400000 in
theorem Mf0 {K:Q8 prog} (hK:KOk K) {S4:K.L} {m:Gm} {F:Nat->Prop} (cb wb:Nat) (obj num:Int) (x:Nat->Int) (x2:Int) (sa:Value) (w0:World) (hT:K.Told w0 m F (.inl S4)) (R2:K.stp S4=⟨5,obj,num⟩) (hrd:∀s,K.rdy S4 s=true) (hW:S0 w0 wb #[.bool false] 105) (hC:S0 w0 cb #[.int .i64 obj,.int .i64 num,.pointer (some ⟨wb,0,none⟩),.int .i64 x2,sa] 132) (hgo:∀u F',K.Goes w0 m F S4 u F'->∃sa,S0 u cb #[.int .i64 obj,.int .i64 num,.pointer (some ⟨wb,0,none⟩),.int .i64 (x (gh u 0)),sa] 132) :
  @Calls prog (J0 K) 29 #[.pointer (some ⟨cb,0,none⟩),.pointer (some ⟨K.ptr,0,none⟩)] w0 (D3 K w0 fun v u=>∃F' tt,Gn K w0 m F S4 u F'/\Cp0 u tt/\v= .int .i64 (x tt)):=by
 letI:Ctx prog:=J0 K;refine Calls.V5 (n:=28) func29 rfl rfl ?_;refine U3 ?_;intro hb;refine L.box (cs:=#[.pointer (some ⟨cb,0,none⟩)]) rfl rfl (fun w b2 F2=>?_);refine U20 ?_;intro lt2 hb;have hW:=hW.A0 F2.below;refine U65 ?_;intro hC K7;refine U104 ?_;refine L.alloc (cs:=#[.int .i64 0]) zr2 rfl (fun w b5 F5=>?_);refine U87 ?_;intro lt5 hb hW hC;have K7:=K7.A0 F5.below;have P2:=F5.blk;refine U61 ?_;refine L.va (E0 rfl underlying67 rfl (K7.F0 0 (v:=.pointer (some ⟨cb,0,none⟩)) rfl)) ?_;refine L.va (c5 rfl rfl underlying67) ?_;refine U185 ?_;refine U395 ?_;refine U521 ?_;rintro _ w1 ⟨rfl,hw⟩;refine U13 ?_;refine U62 ?_;refine U395 ?_;refine L.va (K0 rfl underlying132 rfl ji0 (by decide)) ?_;refine U390 ?_;have x9:=hb;refine U251 ?_;intro hF5 hF2;have K9:@Calls prog (J0 K) 56 #[.agg #[.int .i64 obj,.int .i64 num],.pointer (some ⟨K.ptr,0,none⟩),.int .i64 5,.nilFunc,.func (.func 64) #[] #[.pointer (some ⟨b2,0,none⟩),.pointer (some ⟨b5,0,none⟩)]] w (D3 K w fun v u=>v= .tuple #[]/\∃u0 F',K.Goes w m F S4 u0 F'/\(S0 u b5 #[.int .i64 (x (gh u0 0))] 2/\u0.grownBy u (some b5))/\u.tape=u0.tape):=by
  refine C8 hK w (hK.A0 hT hb) R2 (fun w1 E5=>.inl ⟨rfl,hrd⟩) ⟨0,#[],.inl rfl⟩ (.inr ⟨64,_,af0 func64 rfl Wk0⟩) (fun u u2=>S0 u2 b5 #[.int .i64 (x (gh u 0))] 2/\u.grownBy u2 (some b5)) (fun w1 E5 u F' hg=>.inr ⟨64,_,af0 func64 rfl Wk0,?_⟩);obtain⟨y0,hCu⟩:=hgo u F' (Goes.down (O0 hb E5) hg);exact @C.mono _ (C4 prog K.L3 K.ptr K.num) _ _ _ _ _ (@Ry0 (C4 prog K.L3 K.ptr K.num) b2 b5 cb obj num _ _ _ _ u (Goes.ag0 hg (K7.A0 E5) (Nat.zero_lt_succ _) hF2).1 (Goes.ag0 hg (P2.A0 E5) (Nat.zero_lt_succ _) hF5).1 hCu) fun v w' h=>h.2
 refine L.W3 rfl (l7 rfl rfl rfl rfl rfl func56 rfl oa0 rfl) K9 ?_ ?_ (fun _ h=>h)
 ·rintro v u ⟨rfl,u0,F',hg,⟨ly0,J3⟩,ht⟩;refine U225 ?_;intro h5 hgn;obtain⟨tt,htt⟩:∃tt,gh u0 0=tt:=⟨_,rfl⟩
  rw[htt]at ly0;have htt:Cp0 u tt:=⟨(n4 ht 0).trans htt⟩
  clear hb K7 hC K9 P2;have P2:=ly0;clear ly0;rename_i wL;clear hW;refine U456 ?_;exact U269
 ·rintro ch u ⟨R6,hh⟩;exact⟨R6,hh.at x9.os x9.output⟩
theorem Rz0 [Ctx prog] (b0 b1 cb:Nat) (obj num:Int) (q:Value) (x x2:Int) (sa:Value) (w0:World) (k6:S0 w0 b0 #[.pointer (some ⟨cb,0,none⟩)] 67) (hB1:S0 w0 b1 #[.int .i64 x] 2) (hC:S0 w0 cb #[.int .i64 obj,.int .i64 num,q,.int .i64 x2,sa] 132) :
  C prog 62 #[.pointer (some ⟨b1,0,none⟩),.pointer (some ⟨b0,0,none⟩)] w0 fun v w=>v= .tuple #[]/\S0 w cb #[.int .i64 obj,.int .i64 num,q,.int .i64 x,sa] 132/\w0.grownBy w (some cb):=by
 refine C.enter (n:=6) func62 rfl rfl ?_;refine U409 ?_;refine L.va (E0 rfl underlying2 rfl (hB1.F0 0 (v:=.int .i64 x) rfl)) ?_;refine U466 ?_;refine L.pu 3 [.int .i64 x] #[.int .i64 obj,.int .i64 num,q,.int .i64 x,sa] sz2 hC (fun w C1 hg B2=>?_);have T5:=V7.dj0 hC hg;have hC:=C1;refine U110 ?_;exact⟨rfl,hC,hg⟩
set_option maxHeartbeats 400000 in
theorem Mg0 {K:Q8 prog} (hK:KOk K) {S4:K.L} {m:Gm} {F:Nat->Prop} (cb wb:Nat) (obj num:Int) (x:Int) (x2:Int) (sa:Value) (w0:World) (hT:K.Told w0 m F (.inl S4)) (R2:K.stp S4=⟨6,obj,num⟩) (hrd:∀s,K.rdy S4 s=true) (hW:S0 w0 wb #[.bool false] 105) (hC:S0 w0 cb #[.int .i64 obj,.int .i64 num,.pointer (some ⟨wb,0,none⟩),.int .i64 x2,sa] 132) (hgo:∀u F',K.Goes w0 m F S4 u F'->∃x2 sa,S0 u cb #[.int .i64 obj,.int .i64 num,.pointer (some ⟨wb,0,none⟩),.int .i64 x2,sa] 132) :
  @Calls prog (J0 K) 26 #[.pointer (some ⟨cb,0,none⟩),.pointer (some ⟨K.ptr,0,none⟩),.int .i64 x] w0 (D3 K w0 fun v u=>v= .tuple #[]/\∃u0 F',Gn K w0 m F S4 u0 F'/\(∃sa,S0 u cb #[.int .i64 obj,.int .i64 num,.pointer (some ⟨wb,0,none⟩),.int .i64 x,sa] 132)/\u0.grownBy u (some cb)/\u.tape=u0.tape):=by
 letI:Ctx prog:=J0 K;refine Calls.V5 (n:=26) func26 rfl rfl ?_;refine U3 ?_;intro hb;refine L.box (cs:=#[.pointer (some ⟨cb,0,none⟩)]) rfl rfl (fun w b3 F3=>?_);have lt3:=F3.lq hb.size;have hb:=O0 hb F3.below;have hW:=hW.A0 F3.below;have hC:=hC.A0 F3.below;have hB3:=F3.blk;refine L.box (cs:=#[.int .i64 x]) rfl rfl (fun w b5 F5=>?_);refine U87 ?_;intro lt5 hb hW hC;have hB3:=hB3.A0 F5.below;have P2:=F5.blk;refine U26 ?_;refine L.va (E0 rfl underlying67 rfl (hB3.F0 0 (v:=.pointer (some ⟨cb,0,none⟩)) rfl)) ?_;refine L.va (c5 rfl rfl underlying67) ?_;refine U5 ?_;refine U396 ?_;refine U521 ?_;rintro _ w1 ⟨rfl,hw⟩;refine U13 ?_;refine U49 ?_;refine U396 ?_;refine L.va (K0 rfl underlying132 rfl ji0 (by decide)) ?_;refine U125 ?_;refine L.va (S3 (l:=[.tmp 5,.tmp 3]) (vs:=[.pointer (some ⟨b5,0,none⟩),.pointer (some ⟨b3,0,none⟩)]) rfl) ?_;have x9:=hb;have hF5:¬F b5:=fun z=>by have:=hK.tlt hT z;omega
 have hF3:¬F b3:=fun z=>by have:=hK.tlt hT z;omega
 have K9:@Calls prog (J0 K) 56 #[.agg #[.int .i64 obj,.int .i64 num],.pointer (some ⟨K.ptr,0,none⟩),.int .i64 6,.nilFunc,.func (.func 62) #[] #[.pointer (some ⟨b5,0,none⟩),.pointer (some ⟨b3,0,none⟩)]] w (D3 K w fun v u=>v= .tuple #[]/\∃u0 F',K.Goes w m F S4 u0 F'/\((∃sa,S0 u cb #[.int .i64 obj,.int .i64 num,.pointer (some ⟨wb,0,none⟩),.int .i64 x,sa] 132)/\u0.grownBy u (some cb))/\u.tape=u0.tape):=by
  refine C8 hK w (hK.A0 hT hb) R2 (fun w1 E5=>.inl ⟨rfl,hrd⟩) ⟨0,#[],.inl rfl⟩ (.inr ⟨62,_,af0 func62 rfl Wj0⟩) (fun u u2=>(∃sa,S0 u2 cb #[.int .i64 obj,.int .i64 num,.pointer (some ⟨wb,0,none⟩),.int .i64 x,sa] 132)/\u.grownBy u2 (some cb)) (fun w1 E5 u F' hg=>.inr ⟨62,_,af0 func62 rfl Wj0,?_⟩);obtain⟨y,y0,hCu⟩:=hgo u F' (Goes.down (O0 hb E5) hg);exact @C.mono _ (C4 prog K.L3 K.ptr K.num) _ _ _ _ _ (@Rz0 (C4 prog K.L3 K.ptr K.num) b3 b5 cb obj num _ _ _ _ u (Goes.ag0 hg (hB3.A0 E5) (Nat.zero_lt_succ _) hF3).1 (Goes.ag0 hg (P2.A0 E5) (Nat.zero_lt_succ _) hF5).1 hCu) fun v w' h=>⟨⟨_,h.2.1⟩,h.2.2⟩
 refine L.W3 rfl (l7 rfl rfl rfl rfl rfl func56 rfl oa0 rfl) K9 ?_ ?_ (fun _ h=>h)
 ·rintro v u ⟨rfl,u0,F',hg,⟨hCn,J3⟩,ht⟩;have N8:=Goes.down x9 hg;rename_i wL;refine L.nil ?_;refine B.nrm ?_;refine U124 ?_;exact⟨rfl,u0,F',⟨hK,N8⟩,hCn,J3,ht⟩
 ·rintro ch u ⟨R6,hh⟩;exact⟨R6,hh.at x9.os x9.output⟩
theorem Sa0 [Ctx prog] (b0 b1 cb:Nat) (obj num:Int) (q:Value) (x x2:Int) (sa:Value) (w0:World) (k6:S0 w0 b0 #[.pointer (some ⟨cb,0,none⟩)] 65) (hB1:S0 w0 b1 #[.int .i64 x2] 2) (hC:S0 w0 cb #[.int .i64 obj,.int .i64 num,q,.int .i64 x,sa] 123) :
  C prog 72 #[.pointer (some ⟨b0,0,none⟩),.pointer (some ⟨b1,0,none⟩)] w0 fun v w=>v= .tuple #[]/\S0 w b1 #[.int .i64 x] 2/\w0.grownBy w (some b1):=by
 refine C.enter (n:=6) func72 rfl rfl ?_;refine W.region rfl ?_;refine U530 ?_;refine U499 ?_;intro w C1 hg B2;have T5:=V7.dj0 hB1 hg;have hB1:=C1;exact U283
set_option maxHeartbeats 400000 in
theorem Mh0 {K:Q8 prog} (hK:KOk K) {S4:K.L} {m:Gm} {F:Nat->Prop} (cb wb:Nat) (obj num:Int) (x:Nat->Int) (x2:Int) (sa:Value) (w0:World) (hT:K.Told w0 m F (.inl S4)) (R2:K.stp S4=⟨5,obj,num⟩) (hrd:∀s,K.rdy S4 s=true) (hW:S0 w0 wb #[.bool false] 105) (hC:S0 w0 cb #[.int .i64 obj,.int .i64 num,.pointer (some ⟨wb,0,none⟩),.int .i64 x2,sa] 123) (hgo:∀u F',K.Goes w0 m F S4 u F'->∃sa,S0 u cb #[.int .i64 obj,.int .i64 num,.pointer (some ⟨wb,0,none⟩),.int .i64 (x (gh u 0)),sa] 123) :
  @Calls prog (J0 K) 34 #[.pointer (some ⟨cb,0,none⟩),.pointer (some ⟨K.ptr,0,none⟩)] w0 (D3 K w0 fun v u=>∃F' tt,Gn K w0 m F S4 u F'/\Cp0 u tt/\v= .int .i64 (x tt)):=by
 letI:Ctx prog:=J0 K;refine Calls.V5 (n:=25) func34 rfl rfl ?_;refine U3 ?_;intro hb;refine L.box (cs:=#[.pointer (some ⟨cb,0,none⟩)]) rfl rfl (fun w b2 F2=>?_);refine U20 ?_;intro lt2 hb;have hW:=hW.A0 F2.below;refine U65 ?_;intro hC K7;refine U15 ?_;refine U7 ?_;refine L.va (E0 rfl underlying65 rfl (K7.F0 0 (v:=.pointer (some ⟨cb,0,none⟩)) rfl)) ?_;refine U543 ?_;refine U397 ?_;refine U520 ?_;rintro _ w1 ⟨rfl,hw⟩;refine U13 ?_;refine U62 ?_;refine L.alloc (cs:=#[.int .i64 0]) zr2 rfl (fun w b5 F5=>?_);refine U87 ?_;intro lt5 hb hW hC;have K7:=K7.A0 F5.below;have P2:=F5.blk;refine L.pu 0 [.int .i64 0] #[.int .i64 0] sz2 P2 (fun w C1 hg B2=>?_);have T5:=V7.dj0 P2 hg;have hb:=R3 hb hb.size hg lt5;have hW:=hW.mod T5 rfl;have hC:=hC.mod T5 rfl;have K7:=K7.mod T5 rfl;have P2:=C1;clear T5;refine U10 ?_;refine U397 ?_;refine L.va (K0 rfl underlying123 rfl ji0 (by decide)) ?_;refine U390 ?_;have x9:=hb;refine U251 ?_;intro hF5 hF2;have K9:@Calls prog (J0 K) 56 #[.agg #[.int .i64 obj,.int .i64 num],.pointer (some ⟨K.ptr,0,none⟩),.int .i64 5,.nilFunc,.func (.func 72) #[] #[.pointer (some ⟨b2,0,none⟩),.pointer (some ⟨b5,0,none⟩)]] w (D3 K w fun v u=>v= .tuple #[]/\∃u0 F',K.Goes w m F S4 u0 F'/\(S0 u b5 #[.int .i64 (x (gh u0 0))] 2/\u0.grownBy u (some b5))/\u.tape=u0.tape):=by
  refine C8 hK w (hK.A0 hT hb) R2 (fun w1 E5=>.inl ⟨rfl,hrd⟩) ⟨0,#[],.inl rfl⟩ (.inr ⟨72,_,af0 func72 rfl Wn0⟩) (fun u u2=>S0 u2 b5 #[.int .i64 (x (gh u 0))] 2/\u.grownBy u2 (some b5)) (fun w1 E5 u F' hg=>.inr ⟨72,_,af0 func72 rfl Wn0,?_⟩);obtain⟨y0,hCu⟩:=hgo u F' (Goes.down (O0 hb E5) hg);exact @C.mono _ (C4 prog K.L3 K.ptr K.num) _ _ _ _ _ (@Sa0 (C4 prog K.L3 K.ptr K.num) b2 b5 cb obj num _ _ _ _ u (Goes.ag0 hg (K7.A0 E5) (Nat.zero_lt_succ _) hF2).1 (Goes.ag0 hg (P2.A0 E5) (Nat.zero_lt_succ _) hF5).1 hCu) fun v w' h=>h.2
 refine L.W3 rfl (l7 rfl rfl rfl rfl rfl func56 rfl oa0 rfl) K9 ?_ ?_ (fun _ h=>h)
 ·rintro v u ⟨rfl,u0,F',hg,⟨ly0,J3⟩,ht⟩;refine U225 ?_;intro h5 hgn;obtain⟨tt,htt⟩:∃tt,gh u0 0=tt:=⟨_,rfl⟩
  rw[htt]at ly0;have htt:Cp0 u tt:=⟨(n4 ht 0).trans htt⟩
  clear hb K7 hC K9 P2;have P2:=ly0;clear ly0;rename_i wL;clear hW;refine U456 ?_;exact U269
 ·rintro ch u ⟨R6,hh⟩;exact⟨R6,hh.at x9.os x9.output⟩
end Go.Vy.Sc
end
section
namespace Go.Vc
open Go Go.RowKit
theorem S0.k5 {w w':World} {b k:Nat} {cs:Array Value} {T:TypeId} (h:S0 w k cs T) (hg:w.grownBy w' (some b)) (hk:k≠b):S0 w' k cs T:=S0.other h hg hk
end Go.Vc
namespace Go.Vy
open Go Go.Conc Go.Yc Go.RowKit
open Go.Vc
theorem gt0 {fn:Func} {p u v:Tmp} {ty:TypeId} (h:fn.results=#[.cell p ty,.tmp u,.tmp v]) (tmps:Array Value) (P:Program) (w:World) :
  (results fn tmps).run P w=((do let a <- asAddr (tmps.getD p undef);let x <- loadVar ty a;pure (.tuple #[x,tmps.getD u undef,tmps.getD v undef])):Sem Value).run P w:=by
 simp[results,h]
theorem yk0 {P:Program} {w:World} {b:Nat} {cs:Array Value} {T E:TypeId} {d:TypeDesc} (hT:P.underlying T=some d) (hu:Q9 d=false) (hs:(P.info? T).map (·.size)=some cs.size) (hB:S0 w b cs E):(loadVar T ⟨b,0,Option.none⟩).run P w= .ok (.agg cs) w:=by
 have h2:∀j v,cs.toList[j]? =some v->w.cell? ((⟨b,0,Option.none⟩:Addr).add j)=some v:=fun j v hj=>by
  rw[Addr.add_lit,Nat.zero_add];exact hB.cell (by simpa using hj)
 have:=run_loadCells_list (P:=P) (w:=w) ⟨b,0,Option.none⟩ cs.toList h2;simp only[Array.length_toList]at this;simp[loadVar,Go.Vc.C9 hT,hu,Go.Vc.run_sizeOf hs,this]
theorem ends.Hs0 {P:Program} [Ctx P] {fn:Func} {R:Value->World->Prop} {x:Exit} {e:Env} {w:World} {t u v b:Nat} {cs:Array Value} {T E:TypeId} {d:TypeDesc} (hx:x= .normal\/x= .ret) (hr:fn.results=#[.cell t T,.tmp u,.tmp v])
  (he:e t= .pointer (some ⟨b,0,Option.none⟩)) (hT:P.underlying T=some d) (hu:Q9 d=false) (hs:(P.info? T).map (·.size)=some cs.size) (hB:S0 w b cs E) (h:R (.tuple #[.agg cs,e u,e v]) w):ends P fn R x e w :=
 ⟨hx,_,fun tmps ht=>ge0 gf0 fun τ d'=>by
  have hB:S0 (W2 w τ d') b cs E:=hB;generalize W2 w τ d'=w at hB⊢;have h3:tmps.getD t undef= .pointer (some ⟨b,0,Option.none⟩):=by rw[ht,he]
  rw[gt0 hr,h3];simp[asAddr,yk0 hT hu hs hB,ht],h⟩
theorem Own.Pa0 {w:World} {B s n c b:Nat} {E T:TypeId} {a:Option Addr} {xs:List Value} {cs:Array Value} {f:Nat×Nat} (h:Own w B E s a n c xs) (hb:I1 w b cs T f) (B3:E≠T):a≠none->ab a≠b:=fun ha=>by
 obtain⟨cur,hc,_⟩:=h.row ha;have hc:I1 w (ab a) cur E (0,0):=hc;exact hc.ne hb B3
end Go.Vy
end
section
namespace Go.Vy.Sc
open Go Go.Conc Go.Yc Go.RowKit Go.Proofs Go.Proofs.YtnifpkopeheodaaGreat Tryz
open Go.Vc Go.Wg
theorem Sb0 {P:Program} {ρ:Operand->Value} {w:World} {d:Option Nat} {ty:TypeId} {ps:String} {af:Array Edge} {g:Option (Nat×Bool)} {x y:Operand} {m k:Int} {aT:Array TypeId} (hx:ρ x= .int .i64 m) (hy:ρ y= .int .i64 k):Does P (execOp ρ ⟨d,.call ⟨.builtin .max,#[x,y],aT⟩,ty,ps,af,g⟩) w (.val (.int .i64 (max m k))) w :=
 lz0 (fun x=>Go.Vc.Ux0 hx hy) fun x=>by simp[execOp,resolve,invoke,builtin,hx,hy,Builtin.max_,Builtin.max2]
structure y9 (w w':World) (x y:Nat):Prop where
 os:w'.os=w.os
 output:w'.output=w.output
 tape:w'.tape=w.tape
 size:w.heap.size <=w'.heap.size
 block:∀b,b<w.heap.size->b≠x->b≠y->w'.heap[b]? =w.heap[b]?
theorem y9.refl (w:World) (x y:Nat):y9 w w x y:=⟨rfl,rfl,rfl,Nat.le_refl _,fun _ _ _ _=>rfl⟩
theorem y9.step {w w1 w2:World} {x y b:Nat} (h:y9 w w1 x y) (hb:b=x\/b=y) (hg:w1.grownBy w2 (some b)):y9 w w2 x y :=
 ⟨hg.os.trans h.os,hg.output.trans h.output,hg.tape.trans h.tape,Nat.le_trans h.size hg.size,fun k hk h1 h2=>(hg.block k (Nat.lt_of_lt_of_le hk h.size) fun e=>by cases e;rcases hb with e|e;exact h1 e;exact h2 e).trans (h.block k hk h1 h2)⟩
theorem y9.y5 {w w1 w2:World} {x y:Nat} (h:y9 w w1 x y) (hb:Below w1.heap.size w1 w2):y9 w w2 x y :=
 ⟨hb.os.trans h.os,hb.output.trans h.output,hb.tape.trans h.tape,Nat.le_trans h.size hb.size,fun k hk h1 h2=>(hb.block k (Nat.lt_of_lt_of_le hk h.size)).trans (h.block k hk h1 h2)⟩
theorem Sc0 [Ctx prog] (b0 b1 b2 cb:Nat) (obj num:Int) (q sa:Value) (x d y:Int) (w0:World) (k6:S0 w0 b0 #[.pointer (some ⟨cb,0,none⟩)] 65) (hB1:S0 w0 b1 #[.int .i64 d] 2) (K7:S0 w0 b2 #[.int .i64 y] 2) (B3:b2≠b1) (hC:S0 w0 cb #[.int .i64 obj,.int .i64 num,q,.int .i64 x,sa] 123) :
  C prog 60 #[.pointer (some ⟨b0,0,none⟩),.pointer (some ⟨b1,0,none⟩),.pointer (some ⟨b2,0,none⟩)] w0 fun v w=>v= .tuple #[]/\S0 w b2 #[.int .i64 (IntKind.i64.wrap (x+d))] 2/\S0 w cb #[.int .i64 obj,.int .i64 num,q,.int .i64 (IntKind.i64.wrap (x+d)),sa] 123/\y9 w0 w cb b2:=by
 refine C.enter (n:=15) func60 rfl rfl ?_;have hm2:y9 w0 w0 cb b2:=y9.refl _ _ _;generalize w0=w at *;refine W.seq ?_;refine W.dl0 8 (fun w'=>Below w.heap.size w w') (by kernel_rfl) (by kernel_rfl) (by kernel_rfl) (by kernel_rfl) ((Below.refl w.heap.size w).drew) ?_;refine D.va (fun w' V1=>(E0 rfl underlying65 rfl ((k6.A0 V1).F0 0 (v:=.pointer (some ⟨cb,0,none⟩)) rfl))) ?_;refine U410 ?_;refine D.va (fun w' V1=>(E0 rfl underlying2 rfl ((hC.A0 V1).F0 3 (v:=.int .i64 x) rfl))) ?_;refine D.va (fun w' V1=>(E0 rfl underlying2 rfl ((hB1.A0 V1).F0 0 (v:=.int .i64 d) rfl))) ?_;refine D.va (fun w' V1=>(fx0 (κ:=.i64) rfl rfl)) ?_;refine U410 ?_;refine D.nil (fun w j2=>?_);have hm2:=hm2.y5 j2;have hC:=hC.A0 j2;have k6:=k6.A0 j2;have hB1:=hB1.A0 j2;have K7:=K7.A0 j2;clear j2;refine L.pu 3 [.int .i64 (IntKind.i64.wrap (x+d))] #[.int .i64 obj,.int .i64 num,q,.int .i64 (IntKind.i64.wrap (x+d)),sa] sz2 hC (fun w C1 hg B2=>?_);have hm2:=hm2.step (.inl rfl) hg;have T5:=V7.dj0 hC hg;have k6:=k6.mod T5 rfl;have hB1:=hB1.mod T5 rfl;have K7:=K7.mod T5 rfl;have hC:=C1;clear T5;refine U50 ?_;refine U530 ?_;refine L.va (E0 rfl underlying2 rfl (hC.F0 3 (v:=.int .i64 (IntKind.i64.wrap (x+d))) rfl)) ?_;refine L.pu 0 [.int .i64 (IntKind.i64.wrap (x+d))] #[.int .i64 (IntKind.i64.wrap (x+d))] sz2 K7 (fun w C1 hg B2=>?_);have hm2:=hm2.step (.inr rfl) hg;have T5:=V7.dj0 K7 hg;have hC:=hC.mod T5 rfl;have hB1:=hB1.k5 hg B3.symm;have K7:=C1;refine U110 ?_;exact⟨rfl,K7,hC,hm2⟩
theorem Ym0 [Ctx prog] (b0:Nat) (sb:Nat) (obj num:Int) (h:Bool) (r:Int) (w0:World) (k6:S0 w0 b0 #[.pointer (some ⟨sb,0,none⟩)] 193) (hC:S0 w0 sb #[.int .i64 obj,.int .i64 num,.bool h,.int .i64 r] 195) :
  C prog 167 #[.pointer (some ⟨b0,0,none⟩)] w0 fun v w=>v= .tuple #[]/\S0 w sb #[.int .i64 obj,.int .i64 num,.bool true,.int .i64 r] 195/\w0.grownBy w (some sb):=by
 refine C.enter (n:=4) func167 rfl rfl ?_;have J3:=fz0 w0 (some sb);refine W.region rfl ?_;refine U157 ?_;refine L.pu 2 [.bool true] #[.int .i64 obj,.int .i64 num,.bool true,.int .i64 r] sz4 hC (fun w C1 hg B2=>?_);have T5:=V7.dj0 hC hg;have J3:=ga0 J3 hg;have hC:=C1;exact U179
theorem Mi0 [Ctx prog] (b0:Nat) (sb:Nat) (obj num:Int) (h:Bool) (r:Int) (w0:World) (k6:S0 w0 b0 #[.pointer (some ⟨sb,0,none⟩)] 193) (hC:S0 w0 sb #[.int .i64 obj,.int .i64 num,.bool h,.int .i64 r] 195) :
  C prog 171 #[.pointer (some ⟨b0,0,none⟩)] w0 fun v w=>v= .tuple #[]/\S0 w sb #[.int .i64 obj,.int .i64 num,.bool false,.int .i64 r] 195/\w0.grownBy w (some sb):=by
 refine C.enter (n:=4) func171 rfl rfl ?_;have J3:=fz0 w0 (some sb);refine W.region rfl ?_;refine U157 ?_;refine L.pu 2 [.bool false] #[.int .i64 obj,.int .i64 num,.bool false,.int .i64 r] sz4 hC (fun w C1 hg B2=>?_);have T5:=V7.dj0 hC hg;have J3:=ga0 J3 hg;have hC:=C1;exact U179
theorem Sd0 [Ctx prog] (b0:Nat) (sb:Nat) (obj num:Int) (h:Bool) (r:Int) (w0:World) (k6:S0 w0 b0 #[.pointer (some ⟨sb,0,none⟩)] 193) (hC:S0 w0 sb #[.int .i64 obj,.int .i64 num,.bool h,.int .i64 r] 195) :
  C prog 169 #[.pointer (some ⟨b0,0,none⟩)] w0 fun v w=>v= .tuple #[]/\S0 w sb #[.int .i64 obj,.int .i64 num,.bool h,.int .i64 (IntKind.i64.wrap (r+1))] 195/\w0.grownBy w (some sb):=by
 refine C.enter (n:=8) func169 rfl rfl ?_;have J3:=fz0 w0 (some sb);refine W.region rfl ?_;refine U302 ?_;refine L.va (K0 rfl underlying195 rfl sz3 (by decide)) ?_;refine L.va (E0 rfl underlying3 rfl (hC.F0 3 (v:=.int .i64 r) rfl)) ?_;refine L.va (fx0 (κ:=.i64) rfl rfl) ?_;refine L.va (u1 rfl) ?_;refine L.va (K0 rfl underlying195 rfl sz3 (by decide)) ?_;refine L.pu 3 [.int .i64 (IntKind.i64.wrap (r+1))] #[.int .i64 obj,.int .i64 num,.bool h,.int .i64 (IntKind.i64.wrap (r+1))] sz3 hC (fun w C1 hg B2=>?_);have T5:=V7.dj0 hC hg;have J3:=ga0 J3 hg;have hC:=C1;exact U179
theorem Ht0 [Ctx prog] (b0:Nat) (sb:Nat) (obj num:Int) (h:Bool) (r:Int) (w0:World) (k6:S0 w0 b0 #[.pointer (some ⟨sb,0,none⟩)] 193) (hC:S0 w0 sb #[.int .i64 obj,.int .i64 num,.bool h,.int .i64 r] 195) :
  C prog 170 #[.pointer (some ⟨b0,0,none⟩)] w0 fun v w=>v= .tuple #[]/\S0 w sb #[.int .i64 obj,.int .i64 num,.bool h,.int .i64 (max 0 (IntKind.i64.wrap (r-1)))] 195/\w0.grownBy w (some sb):=by
 refine C.enter (n:=10) func170 rfl rfl ?_;have J3:=fz0 w0 (some sb);generalize w0=w at *;refine W.dl0 9 (fun w'=>Below w.heap.size w w') (by kernel_rfl) (by kernel_rfl) (by kernel_rfl) (by kernel_rfl) ((Below.refl w.heap.size w).drew) ?_;refine D.va (fun w' V1=>(E0 rfl underlying193 rfl ((k6.A0 V1).F0 0 (v:=.pointer (some ⟨sb,0,none⟩)) rfl))) ?_;refine D.va (fun w' V1=>(E0 rfl underlying193 rfl ((k6.A0 V1).F0 0 (v:=.pointer (some ⟨sb,0,none⟩)) rfl))) ?_;refine U411 ?_;refine D.va (fun w' V1=>(E0 rfl underlying3 rfl ((hC.A0 V1).F0 3 (v:=.int .i64 r) rfl))) ?_;refine D.va (fun w' V1=>(zw0 (κ:=.i64) rfl rfl)) ?_;refine D.va (fun w' V1=>(Sb0 rfl rfl)) ?_;refine U411 ?_;refine D.nil (fun w j2=>?_);have J3:=Kp0 J3 j2;have hC:=hC.A0 j2;clear j2;refine L.pu 3 [.int .i64 (max 0 (IntKind.i64.wrap (r-1)))] #[.int .i64 obj,.int .i64 num,.bool h,.int .i64 (max 0 (IntKind.i64.wrap (r-1)))] sz3 hC (fun w C1 hg B2=>?_);have T5:=V7.dj0 hC hg;have J3:=ga0 J3 hg;have hC:=C1;exact U179
theorem Yn0 [Ctx prog] (b0:Nat) (sb:Nat) (obj num:Int) (h:Bool) (r:Int) (w0:World) (k6:S0 w0 b0 #[.pointer (some ⟨sb,0,none⟩)] 193) (hC:S0 w0 sb #[.int .i64 obj,.int .i64 num,.bool h,.int .i64 r] 195) :
  C prog 166 #[.pointer (some ⟨b0,0,none⟩)] w0 fun v w=>v= .bool (!h&&decide (r=0))/\Below w0.heap.size w0 w:=by
 refine C.enter (n:=14) func166 rfl rfl ?_;refine U3 ?_;intro hb;refine U88 ?_;refine U157 ?_;refine U453 ?_;refine L.va (bl0 rfl) ?_;refine L.gg0 6 [7,8,9,10,11,12,13] 13 (.bool (!h&&decide (r=0))) (tj:=7) rfl (fun hb7=>?_) (fun hb7=>?_) (fun f=>?_)
 ·refine L.on rfl ?_;refine L.va (E0 rfl underlying193 rfl (k6.F0 0 (v:=.pointer (some ⟨sb,0,none⟩)) rfl)) ?_;refine U335 ?_;refine L.on rfl ?_;refine L.va (K0 rfl underlying195 rfl sz3 (by decide)) ?_;refine L.on rfl ?_;refine L.va (E0 rfl underlying3 rfl (hC.F0 3 (v:=.int .i64 r) rfl)) ?_;refine U221 ?_;refine U141 ?_;refine⟨rfl,congrArg Value.bool (by first|exact vi0 hb7|rfl|(simp_all;done)|(rw[Bool.eq_iff_iff];simp_all;omega)),?_⟩;exact W0.upd rfl (W0.upd rfl (W0.upd rfl (W0.upd rfl (W0.upd rfl (W0.upd rfl (W0.upd rfl (W0.refl _ _)))))))
 ·refine L.off rfl ?_;refine U177 ?_;refine U43 ?_;refine⟨rfl,congrArg Value.bool (by first|exact vh0 hb7|rfl|(simp_all;done)|(rw[Bool.eq_iff_iff];simp_all;omega)),?_⟩;exact W0.upd rfl (W0.upd rfl (W0.upd rfl (W0.upd rfl (W0.upd rfl (W0.upd rfl (W0.upd rfl (W0.refl _ _)))))))
 exact U180
theorem Se0 [Ctx prog] (b0:Nat) (sb:Nat) (obj num:Int) (h:Bool) (r:Int) (w0:World) (k6:S0 w0 b0 #[.pointer (some ⟨sb,0,none⟩)] 193) (hC:S0 w0 sb #[.int .i64 obj,.int .i64 num,.bool h,.int .i64 r] 195) :
  C prog 168 #[.pointer (some ⟨b0,0,none⟩)] w0 fun v w=>v= .bool (!h)/\Below w0.heap.size w0 w:=by
 refine C.enter (n:=7) func168 rfl rfl ?_;refine U3 ?_;intro hb;refine U88 ?_;refine U157 ?_;refine U453 ?_;exact U180
theorem j5.ag0 {K:Q8 prog} {w0 u:World} {m:Gm} {F F':Nat->Prop} (h:K.j5 w0 m F u F') {b:Nat} {cs:Array Value} {T:TypeId} (hB:S0 w0 b cs T) (h0:0<cs.size) (hF:¬F b):S0 u b cs T/\¬F' b:=by
 have hB':I1 w0 b cs T (0,0):=T3 hB;have:=h.A0 b hB'.lt (cw0 hB' h0) hF;exact⟨this.1.trans hB',this.2⟩
theorem Aw0:∀(recv:Value) (w:World),(Go.method (prog.types.size+Made.depth) 193 recv "docket/prim.lock").run prog w= .ok (162,recv) w:=by intro recv w;kernel_rfl
theorem wm0:∀(recv:Value) (w:World),(Go.method (prog.types.size+Made.depth) 193 recv "docket/prim.lock").events prog w #[]=#[]:=by intro recv w;kernel_rfl
theorem rw0:∀(recv:Value) (w:World),(Go.method (prog.types.size+Made.depth) 193 recv "docket/prim.unlock").run prog w= .ok (165,recv) w:=by intro recv w;kernel_rfl
theorem ma0:∀(recv:Value) (w:World),(Go.method (prog.types.size+Made.depth) 193 recv "docket/prim.unlock").events prog w #[]=#[]:=by intro recv w;kernel_rfl
theorem Hu0:∀(recv:Value) (w:World),(Go.method (prog.types.size+Made.depth) 193 recv "docket/prim.rlock").run prog w= .ok (163,recv) w:=by intro recv w;kernel_rfl
theorem Cq0:∀(recv:Value) (w:World),(Go.method (prog.types.size+Made.depth) 193 recv "docket/prim.rlock").events prog w #[]=#[]:=by intro recv w;kernel_rfl
theorem yl0:∀(recv:Value) (w:World),(Go.method (prog.types.size+Made.depth) 193 recv "docket/prim.runlock").run prog w= .ok (164,recv) w:=by intro recv w;kernel_rfl
theorem wn0:∀(recv:Value) (w:World),(Go.method (prog.types.size+Made.depth) 193 recv "docket/prim.runlock").events prog w #[]=#[]:=by intro recv w;kernel_rfl
set_option maxHeartbeats 400000 in
theorem Mj0 {K:Q8 prog} (hK:KOk K) {S4:K.L} {m:Gm} {F:Nat->Prop} (cb wb:Nat) (obj num:Int) (x:Nat->Int) (x2 d:Int) (sa:Value) (w0:World) (hT:K.Told w0 m F (.inl S4)) (R2:K.stp S4=⟨7,obj,num⟩) (hrd:∀s,K.rdy S4 s=true) (hW:S0 w0 wb #[.bool false] 105) (hC:S0 w0 cb #[.int .i64 obj,.int .i64 num,.pointer (some ⟨wb,0,none⟩),.int .i64 x2,sa] 123) (hgo:∀u F',K.Goes w0 m F S4 u F'->∃sa,S0 u cb #[.int .i64 obj,.int .i64 num,.pointer (some ⟨wb,0,none⟩),.int .i64 (x (gh u 0)),sa] 123) :
  @Calls prog (J0 K) 24 #[.pointer (some ⟨cb,0,none⟩),.pointer (some ⟨K.ptr,0,none⟩),.int .i64 d] w0 (D3 K w0 fun v u=>∃u0 F' tt sa,Gn K w0 m F S4 u0 F'/\gh u0 0=tt/\v= .int .i64 (IntKind.i64.wrap (x tt+d))/\S0 u cb #[.int .i64 obj,.int .i64 num,.pointer (some ⟨wb,0,none⟩),.int .i64 (IntKind.i64.wrap (x tt+d)),sa] 123/\∃y,w0.heap.size <=y/\¬F' y/\y9 u0 u cb y/\u.tape=u0.tape):=by
 letI:Ctx prog:=J0 K;refine Calls.V5 (n:=28) func24 rfl rfl ?_;refine U3 ?_;intro hb;refine L.box (cs:=#[.pointer (some ⟨cb,0,none⟩)]) rfl rfl (fun w b3 F3=>?_);have lt3:=F3.lq hb.size;have hb:=O0 hb F3.below;have hW:=hW.A0 F3.below;have hC:=hC.A0 F3.below;have hB3:=F3.blk;refine L.box (cs:=#[.int .i64 d]) rfl rfl (fun w b5 F5=>?_);refine U87 ?_;intro lt5 hb hW hC;have hB3:=hB3.A0 F5.below;have P2:=F5.blk;refine U15 ?_;refine U7 ?_;refine L.va (E0 rfl underlying65 rfl (hB3.F0 0 (v:=.pointer (some ⟨cb,0,none⟩)) rfl)) ?_;refine U543 ?_;refine U398 ?_;refine U520 ?_;rintro _ w1 ⟨rfl,hw⟩;refine U13 ?_;refine U62 ?_;refine L.alloc (cs:=#[.int .i64 0]) zr2 rfl (fun w b7 F7=>?_);have lt7:=F7.lq hb.size;have Sf0:=F7.ne P2;have Yo0:b7≠b5:=by have h9:=F7.here;have h8:=P2.lt;omega
 have hb:=O0 hb F7.below;have hW:=hW.A0 F7.below;have hC:=hC.A0 F7.below;have hB3:=hB3.A0 F7.below;have P2:=P2.A0 F7.below;have hB7:=F7.blk;refine L.pu 0 [.int .i64 0] #[.int .i64 0] sz2 hB7 (fun w C1 hg B2=>?_);have T5:=V7.dj0 hB7 hg;have hb:=R3 hb hb.size hg lt7;have hW:=hW.mod T5 rfl;have hC:=hC.mod T5 rfl;have hB3:=hB3.mod T5 rfl;have P2:=P2.other hg Sf0;have hB7:=C1;clear T5;refine U10 ?_;refine U398 ?_;refine L.va (K0 rfl underlying123 rfl ji0 (by decide)) ?_;refine U125 ?_;refine L.va (S3 (l:=[.tmp 3,.tmp 5,.tmp 7]) (vs:=[.pointer (some ⟨b3,0,none⟩),.pointer (some ⟨b5,0,none⟩),.pointer (some ⟨b7,0,none⟩)]) rfl) ?_;have x9:=hb;have hF3:¬F b3:=fun z=>by have:=hK.tlt hT z;omega
 have hF5:¬F b5:=fun z=>by have:=hK.tlt hT z;omega
 have hF7:¬F b7:=fun z=>by have:=hK.tlt hT z;omega
 have K9:@Calls prog (J0 K) 56 #[.agg #[.int .i64 obj,.int .i64 num],.pointer (some ⟨K.ptr,0,none⟩),.int .i64 7,.nilFunc,.func (.func 60) #[] #[.pointer (some ⟨b3,0,none⟩),.pointer (some ⟨b5,0,none⟩),.pointer (some ⟨b7,0,none⟩)]] w (D3 K w fun v u=>v= .tuple #[]/\∃u0 F',K.Goes w m F S4 u0 F'/\(∃sa,S0 u b7 #[.int .i64 (IntKind.i64.wrap (x (gh u0 0)+d))] 2/\S0 u cb #[.int .i64 obj,.int .i64 num,.pointer (some ⟨wb,0,none⟩),.int .i64 (IntKind.i64.wrap (x (gh u0 0)+d)),sa] 123/\y9 u0 u cb b7)/\u.tape=u0.tape):=by
  refine C8 hK w (hK.A0 hT hb) R2 (fun w1 E5=>.inl ⟨rfl,hrd⟩) ⟨0,#[],.inl rfl⟩ (.inr ⟨60,_,af0 func60 rfl Wi0⟩) (fun u u2=>∃sa,S0 u2 b7 #[.int .i64 (IntKind.i64.wrap (x (gh u 0)+d))] 2/\S0 u2 cb #[.int .i64 obj,.int .i64 num,.pointer (some ⟨wb,0,none⟩),.int .i64 (IntKind.i64.wrap (x (gh u 0)+d)),sa] 123/\y9 u u2 cb b7) (fun w1 E5 u F' hg=>.inr ⟨60,_,af0 func60 rfl Wi0,?_⟩);obtain⟨y0,hCu⟩:=hgo u F' (Goes.down (O0 hb E5) hg);exact @C.mono _ (C4 prog K.L3 K.ptr K.num) _ _ _ _ _ (@Sc0 (C4 prog K.L3 K.ptr K.num) b3 b5 b7 cb obj num _ _ _ d _ u (Goes.ag0 hg (hB3.A0 E5) (Nat.zero_lt_succ _) hF3).1 (Goes.ag0 hg (P2.A0 E5) (Nat.zero_lt_succ _) hF5).1 (Goes.ag0 hg (hB7.A0 E5) (Nat.zero_lt_succ _) hF7).1 Yo0 hCu) fun v w' h=>⟨_,h.2⟩
 refine L.W3 rfl (l7 rfl rfl rfl rfl rfl func56 rfl oa0 rfl) K9 ?_ ?_ (fun _ h=>h)
 ·rintro v u ⟨rfl,u0,F',hg,⟨sa',Sg0,hCn,hm2⟩,ht⟩;have h7:=(Goes.ag0 hg hB7 (Nat.zero_lt_succ _) hF7).2;have N8:=Goes.down x9 hg;obtain⟨tt,htt⟩:∃tt,gh u0 0=tt:=⟨_,rfl⟩
  rw[htt]at Sg0 hCn;clear hb hB3 P2 hC K9 hB7;have hB7:=Sg0;clear Sg0;rename_i wL;clear hW;refine U10 ?_;refine L.va (E0 rfl underlying2 rfl (hB7.F0 0 (v:=.int .i64 (IntKind.i64.wrap (x tt+d))) rfl)) ?_;refine U33 ?_;exact⟨u0,F',tt,_,⟨hK,N8⟩,htt,rfl,hCn,b7,lt7,h7,hm2,ht⟩
 ·rintro ch u ⟨R6,hh⟩;exact⟨R6,hh.at x9.os x9.output⟩
theorem Ax0 {K:Q8 prog} (hK:KOk K) {S4:K.L} {m:Gm} {F:Nat->Prop} (sb:Nat) (obj num:Int) (h:Bool) (r:Int) (w0:World) (hT:K.Told w0 m F (.inl S4)) (R2:K.stp S4=⟨1,obj,num⟩) (hC:S0 w0 sb #[.int .i64 obj,.int .i64 num,.bool h,.int .i64 r] 195) (hla:∀u F',K.j5 w0 m F u F'->∃h r,S0 u sb #[.int .i64 obj,.int .i64 num,.bool h,.int .i64 r] 195/\K.rdy S4 (K.sOf (gh u 0))=(!h&&decide (r=0))) :
  @Calls prog (J0 K) 162 #[.pointer (some ⟨sb,0,none⟩),.pointer (some ⟨K.ptr,0,none⟩)] w0 (D3 K w0 fun v u=>v= .tuple #[]/\∃u0 F' h r,Gn K w0 m F S4 u0 F'/\S0 u0 sb #[.int .i64 obj,.int .i64 num,.bool h,.int .i64 r] 195/\S0 u sb #[.int .i64 obj,.int .i64 num,.bool true,.int .i64 r] 195/\u0.grownBy u (some sb)/\u.tape=u0.tape):=by
 letI:Ctx prog:=J0 K;refine Calls.V5 (n:=12) func162 rfl rfl ?_;refine U159 ?_;intro hb w b2 F2;refine U20 ?_;intro lt2 hb;refine U65 ?_;intro hC K7;refine U50 ?_;refine U156 ?_;refine U455 ?_;refine U176 ?_;intro x9 hF2;have K9:@Calls prog (J0 K) 56 #[.agg #[.int .i64 obj,.int .i64 num],.pointer (some ⟨K.ptr,0,none⟩),.int .i64 1,.func (.func 166) #[] #[.pointer (some ⟨b2,0,none⟩)],.func (.func 167) #[] #[.pointer (some ⟨b2,0,none⟩)]] w (D3 K w fun v u=>v= .tuple #[]/\∃u0 F',K.Goes w m F S4 u0 F'/\(∃h r,S0 u0 sb #[.int .i64 obj,.int .i64 num,.bool h,.int .i64 r] 195/\S0 u sb #[.int .i64 obj,.int .i64 num,.bool true,.int .i64 r] 195/\u0.grownBy u (some sb))/\u.tape=u0.tape):=by
  refine C8 hK w (hK.A0 hT hb) R2 (fun w1 E5=>.inr ⟨166,_,af0 func166 rfl Xb0,fun u F' hl=>?_⟩) ⟨166,_,.inr rfl⟩ (.inr ⟨167,_,af0 func167 rfl Oh0⟩) (fun u u2=>∃h r,S0 u sb #[.int .i64 obj,.int .i64 num,.bool h,.int .i64 r] 195/\S0 u2 sb #[.int .i64 obj,.int .i64 num,.bool true,.int .i64 r] 195/\u.grownBy u2 (some sb)) (fun w1 E5 u F' hg=>.inr ⟨167,_,af0 func167 rfl Oh0,?_⟩)
  ·obtain⟨h,r,hCu,hrr⟩:=hla u F' (j5.down (O0 hb E5) hl);refine @C.mono _ (M1 prog true) _ _ _ _ _ (@Yn0 (M1 prog true) b2 sb obj num h r u (j5.ag0 hl (K7.A0 E5) (Nat.zero_lt_succ _) hF2).1 hCu) fun v w' h=>?_;rw[hrr];exact h
  ·obtain⟨h,r,hCu,_⟩:=hla u F' (Goes.down (O0 hb E5) hg).X6;exact @C.mono _ (C4 prog K.L3 K.ptr K.num) _ _ _ _ _ (@Ym0 (C4 prog K.L3 K.ptr K.num) b2 sb obj num h r u (Goes.ag0 hg (K7.A0 E5) (Nat.zero_lt_succ _) hF2).1 hCu) fun v w' hh=>⟨h,r,hCu,hh.2⟩
 refine L.W3 rfl (l7 rfl rfl rfl rfl rfl func56 rfl oa0 rfl) K9 ?_ ?_ (fun _ h=>h)
 ·rintro v u ⟨rfl,u0,F',hg,⟨h',r',hC0,hCn,J3⟩,ht⟩;have N8:=Goes.down x9 hg;rename_i wL;exact U160
 ·rintro ch u ⟨R6,hh⟩;exact⟨R6,hh.at x9.os x9.output⟩
theorem Hv0 {K:Q8 prog} (hK:KOk K) {S4:K.L} {m:Gm} {F:Nat->Prop} (sb:Nat) (obj num:Int) (h:Bool) (r:Int) (mb:Nat) (w0:World) (hT:K.Told w0 m F (.inl S4)) (R2:K.stp S4=⟨1,obj,num⟩) (hM:S0 w0 mb #[.iface 193 (.pointer (some ⟨sb,0,none⟩))] 113) (hC:S0 w0 sb #[.int .i64 obj,.int .i64 num,.bool h,.int .i64 r] 195) (hla:∀u F',K.j5 w0 m F u F'->∃h r,S0 u sb #[.int .i64 obj,.int .i64 num,.bool h,.int .i64 r] 195/\K.rdy S4 (K.sOf (gh u 0))=(!h&&decide (r=0))) :
  @Calls prog (J0 K) 20 #[.pointer (some ⟨mb,0,none⟩),.pointer (some ⟨K.ptr,0,none⟩)] w0 (D3 K w0 fun v u=>v= .tuple #[]/\∃u0 F' h r,Gn K w0 m F S4 u0 F'/\S0 u0 sb #[.int .i64 obj,.int .i64 num,.bool h,.int .i64 r] 195/\S0 u sb #[.int .i64 obj,.int .i64 num,.bool true,.int .i64 r] 195/\u0.grownBy u (some sb)/\u.tape=u0.tape):=by
 letI:Ctx prog:=J0 K;refine Calls.V5 (n:=12) func20 rfl rfl ?_;refine U3 ?_;intro hb;refine U518 ?_;refine U51 ?_;refine U519 ?_;refine U71 ?_;have x9:=hb;refine L.W3 rfl (G9 rfl rfl Aw0 wm0 func162 rfl Of0) (Ax0 hK sb obj num h r w0 hT R2 hC hla) ?_ ?_ (fun _ h=>h)
 ·rintro v u ay0;obtain⟨rfl,ay0⟩:=ay0;exact U80
 ·rintro ch u ⟨R6,hh⟩;exact⟨R6,hh⟩
theorem Hw0 {K:Q8 prog} (hK:KOk K) {S4:K.L} {m:Gm} {F:Nat->Prop} (sb:Nat) (obj num:Int) (h:Bool) (r:Int) (mb:Nat) (w0:World) (hT:K.Told w0 m F (.inl S4)) (R2:K.stp S4=⟨1,obj,num⟩) (hM:S0 w0 mb #[.iface 193 (.pointer (some ⟨sb,0,none⟩))] 125) (hC:S0 w0 sb #[.int .i64 obj,.int .i64 num,.bool h,.int .i64 r] 195) (hla:∀u F',K.j5 w0 m F u F'->∃h r,S0 u sb #[.int .i64 obj,.int .i64 num,.bool h,.int .i64 r] 195/\K.rdy S4 (K.sOf (gh u 0))=(!h&&decide (r=0))) :
  @Calls prog (J0 K) 25 #[.pointer (some ⟨mb,0,none⟩),.pointer (some ⟨K.ptr,0,none⟩)] w0 (D3 K w0 fun v u=>v= .tuple #[]/\∃u0 F' h r,Gn K w0 m F S4 u0 F'/\S0 u0 sb #[.int .i64 obj,.int .i64 num,.bool h,.int .i64 r] 195/\S0 u sb #[.int .i64 obj,.int .i64 num,.bool true,.int .i64 r] 195/\u0.grownBy u (some sb)/\u.tape=u0.tape):=by
 letI:Ctx prog:=J0 K;refine Calls.V5 (n:=12) func25 rfl rfl ?_;refine U3 ?_;intro hb;refine U153 ?_;refine U51 ?_;refine U155 ?_;refine U71 ?_;have x9:=hb;refine L.W3 rfl (G9 rfl rfl Aw0 wm0 func162 rfl Of0) (Ax0 hK sb obj num h r w0 hT R2 hC hla) ?_ ?_ (fun _ h=>h)
 ·rintro v u ay0;obtain⟨rfl,ay0⟩:=ay0;exact U80
 ·rintro ch u ⟨R6,hh⟩;exact⟨R6,hh⟩
theorem rx0 {K:Q8 prog} (hK:KOk K) {S4:K.L} {m:Gm} {F:Nat->Prop} (sb:Nat) (obj num:Int) (h:Bool) (r:Int) (w0:World) (hT:K.Told w0 m F (.inl S4)) (R2:K.stp S4=⟨2,obj,num⟩) (hrd:∀s,K.rdy S4 s=true) (hC:S0 w0 sb #[.int .i64 obj,.int .i64 num,.bool h,.int .i64 r] 195) (hla:∀u F',K.j5 w0 m F u F'->∃h r,S0 u sb #[.int .i64 obj,.int .i64 num,.bool h,.int .i64 r] 195) :
  @Calls prog (J0 K) 165 #[.pointer (some ⟨sb,0,none⟩),.pointer (some ⟨K.ptr,0,none⟩)] w0 (D3 K w0 fun v u=>v= .tuple #[]/\∃u0 F' h r,Gn K w0 m F S4 u0 F'/\S0 u0 sb #[.int .i64 obj,.int .i64 num,.bool h,.int .i64 r] 195/\S0 u sb #[.int .i64 obj,.int .i64 num,.bool false,.int .i64 r] 195/\u0.grownBy u (some sb)/\u.tape=u0.tape):=by
 letI:Ctx prog:=J0 K;refine Calls.V5 (n:=11) func165 rfl rfl ?_;refine U159 ?_;intro hb w b2 F2;refine U20 ?_;intro lt2 hb;refine U65 ?_;intro hC K7;refine U50 ?_;refine U156 ?_;refine U219 ?_;refine U176 ?_;intro x9 hF2;have K9:@Calls prog (J0 K) 56 #[.agg #[.int .i64 obj,.int .i64 num],.pointer (some ⟨K.ptr,0,none⟩),.int .i64 2,.nilFunc,.func (.func 171) #[] #[.pointer (some ⟨b2,0,none⟩)]] w (D3 K w fun v u=>v= .tuple #[]/\∃u0 F',K.Goes w m F S4 u0 F'/\(∃h r,S0 u0 sb #[.int .i64 obj,.int .i64 num,.bool h,.int .i64 r] 195/\S0 u sb #[.int .i64 obj,.int .i64 num,.bool false,.int .i64 r] 195/\u0.grownBy u (some sb))/\u.tape=u0.tape):=by
  refine C8 hK w (hK.A0 hT hb) R2 (fun w1 E5=>.inl ⟨rfl,hrd⟩) ⟨0,#[],.inl rfl⟩ (.inr ⟨171,_,af0 func171 rfl Ol0⟩) (fun u u2=>∃h r,S0 u sb #[.int .i64 obj,.int .i64 num,.bool h,.int .i64 r] 195/\S0 u2 sb #[.int .i64 obj,.int .i64 num,.bool false,.int .i64 r] 195/\u.grownBy u2 (some sb)) (fun w1 E5 u F' hg=>.inr ⟨171,_,af0 func171 rfl Ol0,?_⟩)
  ·obtain⟨h,r,hCu⟩:=hla u F' (Goes.down (O0 hb E5) hg).X6;exact @C.mono _ (C4 prog K.L3 K.ptr K.num) _ _ _ _ _ (@Mi0 (C4 prog K.L3 K.ptr K.num) b2 sb obj num h r u (Goes.ag0 hg (K7.A0 E5) (Nat.zero_lt_succ _) hF2).1 hCu) fun v w' hh=>⟨h,r,hCu,hh.2⟩
 refine L.W3 rfl (l7 rfl rfl rfl rfl rfl func56 rfl oa0 rfl) K9 ?_ ?_ (fun _ h=>h)
 ·rintro v u ⟨rfl,u0,F',hg,⟨h',r',hC0,hCn,J3⟩,ht⟩;have N8:=Goes.down x9 hg;rename_i wL;exact U160
 ·rintro ch u ⟨R6,hh⟩;exact⟨R6,hh.at x9.os x9.output⟩
theorem ym0 {K:Q8 prog} (hK:KOk K) {S4:K.L} {m:Gm} {F:Nat->Prop} (sb:Nat) (obj num:Int) (h:Bool) (r:Int) (mb:Nat) (w0:World) (hT:K.Told w0 m F (.inl S4)) (R2:K.stp S4=⟨2,obj,num⟩) (hrd:∀s,K.rdy S4 s=true) (hM:S0 w0 mb #[.iface 193 (.pointer (some ⟨sb,0,none⟩))] 113) (hC:S0 w0 sb #[.int .i64 obj,.int .i64 num,.bool h,.int .i64 r] 195) (hla:∀u F',K.j5 w0 m F u F'->∃h r,S0 u sb #[.int .i64 obj,.int .i64 num,.bool h,.int .i64 r] 195) :
  @Calls prog (J0 K) 23 #[.pointer (some ⟨mb,0,none⟩),.pointer (some ⟨K.ptr,0,none⟩)] w0 (D3 K w0 fun v u=>v= .tuple #[]/\∃u0 F' h r,Gn K w0 m F S4 u0 F'/\S0 u0 sb #[.int .i64 obj,.int .i64 num,.bool h,.int .i64 r] 195/\S0 u sb #[.int .i64 obj,.int .i64 num,.bool false,.int .i64 r] 195/\u0.grownBy u (some sb)/\u.tape=u0.tape):=by
 letI:Ctx prog:=J0 K;refine Calls.V5 (n:=12) func23 rfl rfl ?_;refine U3 ?_;intro hb;refine U518 ?_;refine U51 ?_;refine U519 ?_;refine U71 ?_;have x9:=hb;refine L.W3 rfl (G9 rfl rfl rw0 ma0 func165 rfl Og0) (rx0 hK sb obj num h r w0 hT R2 hrd hC hla) ?_ ?_ (fun _ h=>h)
 ·rintro v u ay0;obtain⟨rfl,ay0⟩:=ay0;exact U80
 ·rintro ch u ⟨R6,hh⟩;exact⟨R6,hh⟩
theorem yn0 {K:Q8 prog} (hK:KOk K) {S4:K.L} {m:Gm} {F:Nat->Prop} (sb:Nat) (obj num:Int) (h:Bool) (r:Int) (mb:Nat) (w0:World) (hT:K.Told w0 m F (.inl S4)) (R2:K.stp S4=⟨2,obj,num⟩) (hrd:∀s,K.rdy S4 s=true) (hM:S0 w0 mb #[.iface 193 (.pointer (some ⟨sb,0,none⟩))] 125) (hC:S0 w0 sb #[.int .i64 obj,.int .i64 num,.bool h,.int .i64 r] 195) (hla:∀u F',K.j5 w0 m F u F'->∃h r,S0 u sb #[.int .i64 obj,.int .i64 num,.bool h,.int .i64 r] 195) :
  @Calls prog (J0 K) 27 #[.pointer (some ⟨mb,0,none⟩),.pointer (some ⟨K.ptr,0,none⟩)] w0 (D3 K w0 fun v u=>v= .tuple #[]/\∃u0 F' h r,Gn K w0 m F S4 u0 F'/\S0 u0 sb #[.int .i64 obj,.int .i64 num,.bool h,.int .i64 r] 195/\S0 u sb #[.int .i64 obj,.int .i64 num,.bool false,.int .i64 r] 195/\u0.grownBy u (some sb)/\u.tape=u0.tape):=by
 letI:Ctx prog:=J0 K;refine Calls.V5 (n:=12) func27 rfl rfl ?_;refine U3 ?_;intro hb;refine U153 ?_;refine U51 ?_;refine U155 ?_;refine U71 ?_;have x9:=hb;refine L.W3 rfl (G9 rfl rfl rw0 ma0 func165 rfl Og0) (rx0 hK sb obj num h r w0 hT R2 hrd hC hla) ?_ ?_ (fun _ h=>h)
 ·rintro v u ay0;obtain⟨rfl,ay0⟩:=ay0;exact U80
 ·rintro ch u ⟨R6,hh⟩;exact⟨R6,hh⟩
theorem Hx0 {K:Q8 prog} (hK:KOk K) {S4:K.L} {m:Gm} {F:Nat->Prop} (sb:Nat) (obj num:Int) (h:Bool) (r:Int) (w0:World) (hT:K.Told w0 m F (.inl S4)) (R2:K.stp S4=⟨3,obj,num⟩) (hC:S0 w0 sb #[.int .i64 obj,.int .i64 num,.bool h,.int .i64 r] 195) (hla:∀u F',K.j5 w0 m F u F'->∃h r,S0 u sb #[.int .i64 obj,.int .i64 num,.bool h,.int .i64 r] 195/\K.rdy S4 (K.sOf (gh u 0))=(!h)) :
  @Calls prog (J0 K) 163 #[.pointer (some ⟨sb,0,none⟩),.pointer (some ⟨K.ptr,0,none⟩)] w0 (D3 K w0 fun v u=>v= .tuple #[]/\∃u0 F' h r,Gn K w0 m F S4 u0 F'/\S0 u0 sb #[.int .i64 obj,.int .i64 num,.bool h,.int .i64 r] 195/\S0 u sb #[.int .i64 obj,.int .i64 num,.bool h,.int .i64 (IntKind.i64.wrap (r+1))] 195/\u0.grownBy u (some sb)/\u.tape=u0.tape):=by
 letI:Ctx prog:=J0 K;refine Calls.V5 (n:=12) func163 rfl rfl ?_;refine U159 ?_;intro hb w b2 F2;refine U20 ?_;intro lt2 hb;refine U65 ?_;intro hC K7;refine U50 ?_;refine U156 ?_;refine U455 ?_;refine U176 ?_;intro x9 hF2;have K9:@Calls prog (J0 K) 56 #[.agg #[.int .i64 obj,.int .i64 num],.pointer (some ⟨K.ptr,0,none⟩),.int .i64 3,.func (.func 168) #[] #[.pointer (some ⟨b2,0,none⟩)],.func (.func 169) #[] #[.pointer (some ⟨b2,0,none⟩)]] w (D3 K w fun v u=>v= .tuple #[]/\∃u0 F',K.Goes w m F S4 u0 F'/\(∃h r,S0 u0 sb #[.int .i64 obj,.int .i64 num,.bool h,.int .i64 r] 195/\S0 u sb #[.int .i64 obj,.int .i64 num,.bool h,.int .i64 (IntKind.i64.wrap (r+1))] 195/\u0.grownBy u (some sb))/\u.tape=u0.tape):=by
  refine C8 hK w (hK.A0 hT hb) R2 (fun w1 E5=>.inr ⟨168,_,af0 func168 rfl Xc0,fun u F' hl=>?_⟩) ⟨168,_,.inr rfl⟩ (.inr ⟨169,_,af0 func169 rfl Oi0⟩) (fun u u2=>∃h r,S0 u sb #[.int .i64 obj,.int .i64 num,.bool h,.int .i64 r] 195/\S0 u2 sb #[.int .i64 obj,.int .i64 num,.bool h,.int .i64 (IntKind.i64.wrap (r+1))] 195/\u.grownBy u2 (some sb)) (fun w1 E5 u F' hg=>.inr ⟨169,_,af0 func169 rfl Oi0,?_⟩)
  ·obtain⟨h,r,hCu,hrr⟩:=hla u F' (j5.down (O0 hb E5) hl);refine @C.mono _ (M1 prog true) _ _ _ _ _ (@Se0 (M1 prog true) b2 sb obj num h r u (j5.ag0 hl (K7.A0 E5) (Nat.zero_lt_succ _) hF2).1 hCu) fun v w' h=>?_;rw[hrr];exact h
  ·obtain⟨h,r,hCu,_⟩:=hla u F' (Goes.down (O0 hb E5) hg).X6;exact @C.mono _ (C4 prog K.L3 K.ptr K.num) _ _ _ _ _ (@Sd0 (C4 prog K.L3 K.ptr K.num) b2 sb obj num h r u (Goes.ag0 hg (K7.A0 E5) (Nat.zero_lt_succ _) hF2).1 hCu) fun v w' hh=>⟨h,r,hCu,hh.2⟩
 refine L.W3 rfl (l7 rfl rfl rfl rfl rfl func56 rfl oa0 rfl) K9 ?_ ?_ (fun _ h=>h)
 ·rintro v u ⟨rfl,u0,F',hg,⟨h',r',hC0,hCn,J3⟩,ht⟩;have N8:=Goes.down x9 hg;rename_i wL;exact U160
 ·rintro ch u ⟨R6,hh⟩;exact⟨R6,hh.at x9.os x9.output⟩
theorem Cr0 {K:Q8 prog} (hK:KOk K) {S4:K.L} {m:Gm} {F:Nat->Prop} (sb:Nat) (obj num:Int) (h:Bool) (r:Int) (mb:Nat) (w0:World) (hT:K.Told w0 m F (.inl S4)) (R2:K.stp S4=⟨3,obj,num⟩) (hM:S0 w0 mb #[.iface 193 (.pointer (some ⟨sb,0,none⟩))] 125) (hC:S0 w0 sb #[.int .i64 obj,.int .i64 num,.bool h,.int .i64 r] 195) (hla:∀u F',K.j5 w0 m F u F'->∃h r,S0 u sb #[.int .i64 obj,.int .i64 num,.bool h,.int .i64 r] 195/\K.rdy S4 (K.sOf (gh u 0))=(!h)) :
  @Calls prog (J0 K) 28 #[.pointer (some ⟨mb,0,none⟩),.pointer (some ⟨K.ptr,0,none⟩)] w0 (D3 K w0 fun v u=>v= .tuple #[]/\∃u0 F' h r,Gn K w0 m F S4 u0 F'/\S0 u0 sb #[.int .i64 obj,.int .i64 num,.bool h,.int .i64 r] 195/\S0 u sb #[.int .i64 obj,.int .i64 num,.bool h,.int .i64 (IntKind.i64.wrap (r+1))] 195/\u0.grownBy u (some sb)/\u.tape=u0.tape):=by
 letI:Ctx prog:=J0 K;refine Calls.V5 (n:=12) func28 rfl rfl ?_;refine U3 ?_;intro hb;refine U153 ?_;refine U51 ?_;refine U155 ?_;refine U71 ?_;have x9:=hb;refine L.W3 rfl (G9 rfl rfl Hu0 Cq0 func163 rfl Wz0) (Hx0 hK sb obj num h r w0 hT R2 hC hla) ?_ ?_ (fun _ h=>h)
 ·rintro v u ay0;obtain⟨rfl,ay0⟩:=ay0;exact U80
 ·rintro ch u ⟨R6,hh⟩;exact⟨R6,hh⟩
theorem yo0 {K:Q8 prog} (hK:KOk K) {S4:K.L} {m:Gm} {F:Nat->Prop} (sb:Nat) (obj num:Int) (h:Bool) (r:Int) (w0:World) (hT:K.Told w0 m F (.inl S4)) (R2:K.stp S4=⟨4,obj,num⟩) (hrd:∀s,K.rdy S4 s=true) (hC:S0 w0 sb #[.int .i64 obj,.int .i64 num,.bool h,.int .i64 r] 195) (hla:∀u F',K.j5 w0 m F u F'->∃h r,S0 u sb #[.int .i64 obj,.int .i64 num,.bool h,.int .i64 r] 195) :
  @Calls prog (J0 K) 164 #[.pointer (some ⟨sb,0,none⟩),.pointer (some ⟨K.ptr,0,none⟩)] w0 (D3 K w0 fun v u=>v= .tuple #[]/\∃u0 F' h r,Gn K w0 m F S4 u0 F'/\S0 u0 sb #[.int .i64 obj,.int .i64 num,.bool h,.int .i64 r] 195/\S0 u sb #[.int .i64 obj,.int .i64 num,.bool h,.int .i64 (max 0 (IntKind.i64.wrap (r-1)))] 195/\u0.grownBy u (some sb)/\u.tape=u0.tape):=by
 letI:Ctx prog:=J0 K;refine Calls.V5 (n:=11) func164 rfl rfl ?_;refine U159 ?_;intro hb w b2 F2;refine U20 ?_;intro lt2 hb;refine U65 ?_;intro hC K7;refine U50 ?_;refine U156 ?_;refine U219 ?_;refine U176 ?_;intro x9 hF2;have K9:@Calls prog (J0 K) 56 #[.agg #[.int .i64 obj,.int .i64 num],.pointer (some ⟨K.ptr,0,none⟩),.int .i64 4,.nilFunc,.func (.func 170) #[] #[.pointer (some ⟨b2,0,none⟩)]] w (D3 K w fun v u=>v= .tuple #[]/\∃u0 F',K.Goes w m F S4 u0 F'/\(∃h r,S0 u0 sb #[.int .i64 obj,.int .i64 num,.bool h,.int .i64 r] 195/\S0 u sb #[.int .i64 obj,.int .i64 num,.bool h,.int .i64 (max 0 (IntKind.i64.wrap (r-1)))] 195/\u0.grownBy u (some sb))/\u.tape=u0.tape):=by
  refine C8 hK w (hK.A0 hT hb) R2 (fun w1 E5=>.inl ⟨rfl,hrd⟩) ⟨0,#[],.inl rfl⟩ (.inr ⟨170,_,af0 func170 rfl Oj0⟩) (fun u u2=>∃h r,S0 u sb #[.int .i64 obj,.int .i64 num,.bool h,.int .i64 r] 195/\S0 u2 sb #[.int .i64 obj,.int .i64 num,.bool h,.int .i64 (max 0 (IntKind.i64.wrap (r-1)))] 195/\u.grownBy u2 (some sb)) (fun w1 E5 u F' hg=>.inr ⟨170,_,af0 func170 rfl Oj0,?_⟩)
  ·obtain⟨h,r,hCu⟩:=hla u F' (Goes.down (O0 hb E5) hg).X6;exact @C.mono _ (C4 prog K.L3 K.ptr K.num) _ _ _ _ _ (@Ht0 (C4 prog K.L3 K.ptr K.num) b2 sb obj num h r u (Goes.ag0 hg (K7.A0 E5) (Nat.zero_lt_succ _) hF2).1 hCu) fun v w' hh=>⟨h,r,hCu,hh.2⟩
 refine L.W3 rfl (l7 rfl rfl rfl rfl rfl func56 rfl oa0 rfl) K9 ?_ ?_ (fun _ h=>h)
 ·rintro v u ⟨rfl,u0,F',hg,⟨h',r',hC0,hCn,J3⟩,ht⟩;have N8:=Goes.down x9 hg;rename_i wL;exact U160
 ·rintro ch u ⟨R6,hh⟩;exact⟨R6,hh.at x9.os x9.output⟩
theorem wo0 {K:Q8 prog} (hK:KOk K) {S4:K.L} {m:Gm} {F:Nat->Prop} (sb:Nat) (obj num:Int) (h:Bool) (r:Int) (mb:Nat) (w0:World) (hT:K.Told w0 m F (.inl S4)) (R2:K.stp S4=⟨4,obj,num⟩) (hrd:∀s,K.rdy S4 s=true) (hM:S0 w0 mb #[.iface 193 (.pointer (some ⟨sb,0,none⟩))] 125) (hC:S0 w0 sb #[.int .i64 obj,.int .i64 num,.bool h,.int .i64 r] 195) (hla:∀u F',K.j5 w0 m F u F'->∃h r,S0 u sb #[.int .i64 obj,.int .i64 num,.bool h,.int .i64 r] 195) :
  @Calls prog (J0 K) 30 #[.pointer (some ⟨mb,0,none⟩),.pointer (some ⟨K.ptr,0,none⟩)] w0 (D3 K w0 fun v u=>v= .tuple #[]/\∃u0 F' h r,Gn K w0 m F S4 u0 F'/\S0 u0 sb #[.int .i64 obj,.int .i64 num,.bool h,.int .i64 r] 195/\S0 u sb #[.int .i64 obj,.int .i64 num,.bool h,.int .i64 (max 0 (IntKind.i64.wrap (r-1)))] 195/\u0.grownBy u (some sb)/\u.tape=u0.tape):=by
 letI:Ctx prog:=J0 K;refine Calls.V5 (n:=12) func30 rfl rfl ?_;refine U3 ?_;intro hb;refine U153 ?_;refine U51 ?_;refine U155 ?_;refine U71 ?_;have x9:=hb;refine L.W3 rfl (G9 rfl rfl yl0 wn0 func164 rfl Xa0) (yo0 hK sb obj num h r w0 hT R2 hrd hC hla) ?_ ?_ (fun _ h=>h)
 ·rintro v u ay0;obtain⟨rfl,ay0⟩:=ay0;exact U80
 ·rintro ch u ⟨R6,hh⟩;exact⟨R6,hh⟩
theorem gu0 {w:World} {b:Nat} {cs:Array Value} {T:TypeId} (h:S0 w b cs T) (hT:T≠0):b<w.heap.size/\w.heap[b]? ≠some nothing:=by
 refine⟨(T3 h).lt,fun e=>?_⟩;have h':w.heap[b]? =some (.cells cs T (0,0)):=h;rw[h']at e;have e1:=Option.some.inj e;unfold nothing at e1;injection e1 with _ e2
 exact hT e2
def Canon (a:Option Addr):Prop:=∀x,a=some x->x=⟨x.block,0,none⟩
theorem rz0 {w:World} {B:Nat} {E:TypeId} {s n c:Nat} {a:Option Addr} {xs:List Value} (h:Own w B E s a n c xs):Canon a:=fun x hx=>by
 rcases h.2 with⟨hv,_⟩|⟨g,cap,cur,hv,_⟩
 ·cases hv;cases hx
 ·cases hv;cases hx;rfl
theorem Ay0 {w:World} {B s n c b:Nat} {E T:TypeId} {a:Option Addr} {xs:List Value} {cs:Array Value} (h:Own w B E s a n c xs) (hB:S0 w b cs T) (hT:T≠E) (ha:a≠none):b≠ab a:=by
 obtain⟨cur,hc,_⟩:=h.row ha;exact S0.ne hB hc hT
theorem wp0 {w:World} {B s n c:Nat} {E:TypeId} {xs:List Value} (h:Own w B E s none n c xs):n=0:=by
 rcases h.2 with⟨hv,h0⟩|⟨g,cap,cur,hv,_⟩
 ·cases hv;first|exact h0|omega
 ·cases hv
theorem Sh0 {a:Option Addr} {n c:Nat} (hc:Canon a):Value.ownBlock (.slice a n c)=if a=none then none else some (ab a):=by
 cases a with
 |none=>rfl
 |some x=>rw[hc x rfl];rfl
theorem S0.app {w w':World} {B:Nat} {b:Nat} {cs:Array Value} {T E:TypeId} {a:Option Addr} {n c s:Nat} {xs:List Value} (hB:S0 w b cs T) (hO:Own w B E s a n c xs) (hg:w.grownBy w' (Value.ownBlock (.slice a n c))) (hT:T≠E):S0 w' b cs T:=by
 refine hB.grown hg ?_;cases a with
 |none=>simp[Value.ownBlock]
 |some x=>
  obtain⟨cur,hc,_⟩:=hO.row (by simp);intro e;exact S0.ne hB hc hT (Option.some.inj e)
theorem dr0 {N i:Nat} {f:Nat->Value} {v:Value}:setRow (arr N f) i [v]=arr N (fun x=>if x=i then v else f x):=by
 show(arr N f).setIfInBounds i v=_;exact Ko0
structure V2 where
 A5:Int
 jn0:Int
 call:Int
 val:Int
def yp0 (o:V2):List Value:=[.int .i64 o.A5,.int .i64 o.jn0,.int .i64 o.call,.int .i64 o.val]
def Z0 (o:V2):Nat:=(o.jn0%2).toNat
theorem N0 (o:V2):Z0 o<2:=by unfold Z0;omega
def POk (o:V2):Prop:=(o.A5=1/\(o.call=1\/o.call=2))\/(o.A5=2/\(o.call=1\/o.call=2\/o.call=3\/o.call=4))\/(o.A5=3/\(o.call=5\/o.call=7))\/(o.A5=4/\(o.call=5\/o.call=6))\/(o.A5=5/\(o.call=8\/o.call=9))
def up2 {α:Type} (f:Nat->Nat->α) (t n:Nat) (v:α):Nat->Nat->α:=fun a b=>if a=t/\b=n then v else f a b
theorem fh0 {α:Type} {f:Nat->Nat->α} {t n:Nat} {v:α}:up2 f t n v t n=v:=if_pos ⟨rfl,rfl⟩
theorem yq0 {α:Type} {f:Nat->Nat->α} {t n a b:Nat} {v:α} (h:¬(a=t/\b=n)):up2 f t n v a b=f a b:=if_neg h
structure PS where
 held:Nat->Nat->Bool
 dt0:Nat->Int
 val:Nat->Nat->Int
 S2:Nat->List Int
def ps0:PS:=⟨fun _ _=>false,fun _=>0,fun _ _=>0,fun _=>[]⟩
def prd (s:PS) (t n:Nat):Int:=if t=2 then s.dt0 n else 0
def pT (o:V2):Nat:=o.A5.toNat
def mb0 (o:V2) (s:PS):Bool:=if o.call=1 then !s.held (pT o) (Z0 o)&&decide (prd s (pT o) (Z0 o)=0) else if o.call=3 then !s.held 2 (Z0 o) else true
def X9 (o:V2) (s:PS):PS×Int :=
 if o.call=1 then({s with held:=up2 s.held (pT o) (Z0 o) true},0)
 else if o.call=2 then({s with held:=up2 s.held (pT o) (Z0 o) false},0)
 else if o.call=3 then({s with dt0:=upN s.dt0 (Z0 o) (IntKind.i64.wrap (s.dt0 (Z0 o)+1))},0)
 else if o.call=4 then({s with dt0:=upN s.dt0 (Z0 o) (max 0 (IntKind.i64.wrap (s.dt0 (Z0 o)-1)))},0)
 else if o.call=6\/o.call=9 then({s with val:=up2 s.val (pT o) (Z0 o) o.val},0)
 else if o.call=7 then({s with val:=up2 s.val (pT o) (Z0 o) (IntKind.i64.wrap (s.val (pT o) (Z0 o)+o.val))},IntKind.i64.wrap (s.val (pT o) (Z0 o)+o.val))
 else(s,s.val (pT o) (Z0 o))
theorem ca0 (o:V2) (s:PS):(X9 o s).1.S2=s.S2:=by
 unfold X9
 repeat' split
 all_goals rfl
def Y9 (i:Nat) (x:PS×Int):PS:={x.1 with S2:=upN x.1.S2 i (x.1.S2 i ++ [x.2])}
def gv0 (ops:List V2) (k:Nat):Nat ⊕ Nat:=if k<ops.length then .inl k else .inr 1
def o4 (ops:List V2) (k:Nat) (s:PS):gl0 PS Nat:=⟨s,[],gv0 ops k⟩
def goP (ops:List V2) (i k:Nat) (s:PS):gl0 PS Nat:=match ops[k]? with
 |some o=>o4 ops (k+1) (Y9 i (X9 o s))
 |none=>⟨s,[],.inr 1⟩
theorem yr0 {ops:List V2} {i k:Nat} {s:PS} {o:V2} (h:ops[k]? =some o):goP ops i k s=o4 ops (k+1) (Y9 i (X9 o s)):=by unfold goP;rw[h]
theorem Az0 (ops:List V2) (i k:Nat) (s:PS):(goP ops i k s).N2=[]:=by unfold goP;split <;> rfl
theorem p5 {ops:List V2} {k:Nat} {s:PS} {o:V2} (h:ops[k]? =some o):o4 ops k s=⟨s,[],.inl k⟩:=by
 unfold o4 gv0;rw[if_pos (List.getElem?_eq_some_iff.1 h).1]
theorem ys0 {ops:List V2} {k:Nat} {s:PS} (h:¬k<ops.length):o4 ops k s=⟨s,[],.inr 1⟩:=by
 unfold o4 gv0;rw[if_neg h]
def c7 (wb:Nat) (s:PS) (t n:Nat) (sa:Value):Array Value :=
 if t <=2 then #[.int .i64 (t:Nat),.int .i64 (n:Nat),.bool (s.held t n),.int .i64 (prd s t n)]
 else if t <=4 then #[.int .i64 (t:Nat),.int .i64 (n:Nat),.pointer (some ⟨wb,0,none⟩),.int .i64 (s.val t n),sa]
 else #[.int .i64 (t:Nat),.int .i64 (n:Nat),.pointer (some ⟨wb,0,none⟩),.int .i64 (s.val t n)]
def tty (t:Nat):TypeId:=if t <=2 then 195 else if t=3 then 123 else if t=4 then 132 else 115
theorem mc0 (t:Nat):tty t≠0/\tty t≠45/\tty t≠2:=by
 unfold tty;split
 ·exact⟨by decide,by decide,by decide⟩
 split
 ·exact⟨by decide,by decide,by decide⟩
 split <;> exact⟨by decide,by decide,by decide⟩
structure B5 where
 la:Nat->Option Addr
 lc:Nat->Nat
structure r4 where
 m:Nat
 bo:Nat->List V2
 tb:Nat
 wb:Nat
 sb:Nat->Nat->Nat
 mb:Nat->Nat->Nat
 lgb:Nat
 RO:Nat->Prop
 wI:World
 B:Nat
 lb:Nat
 pl:Nat->x6
def pob (p:r4) (t n:Nat):Nat:=if t <=2 then p.mb t n else p.sb t n
def Mk0 (p:r4):Array Value:=arr 10 fun j=>.pointer (some ⟨pob p (j/2+1) (j%2),0,none⟩)
def mty (t:Nat):TypeId:=if t=1 then 113 else 125
structure da0 (p:r4) (w:World) (s:PS) (r:B5):Prop where
 hS:∀t n,1 <=t->t <=5->n<2->∃sa,S0 w (p.sb t n) (c7 p.wb s t n sa) (tty t)
 hG:S0 w p.lgb (arr p.m fun i=>.slice (r.la i) (s.S2 i).length (r.lc i)) 45
 hL:∀i,i<p.m->Own w p.B 2 1 (r.la i) (s.S2 i).length (r.lc i) ((s.S2 i).map (.int .i64 ·))
 inj:∀i j,i<p.m->j<p.m->i≠j->r.la i≠none->r.la j≠none->ab (r.la i)≠ab (r.la j)
 ro:∀b,p.RO b->w.heap[b]? =p.wI.heap[b]?
 lG:p.B <=p.lgb
def PF (p:r4) (r:B5) (b:Nat):Prop:=(∃t n,1 <=t/\t <=5/\n<2/\b=p.sb t n)\/b=p.lgb\/(∃i,i<p.m/\r.la i≠none/\b=ab (r.la i))\/p.RO b
def Si0 (p:r4) (s:PS) (_:Gm) (w:World) (F:Nat->Prop):Prop:=∃r,F=PF p r/\da0 p w s r
@[reducible] def I3 (p:r4):Sys where
 S:=PS
 L:=Nat
 m:=p.m
 s0:=ps0
 nil:=fun _=>false
 stp:=fun i k=>match(p.bo i)[k]? with
  |some o=>⟨o.call,o.A5,(Z0 o:Nat)⟩
  |none=>⟨0,0,0⟩
 rdy:=fun i k s=>match(p.bo i)[k]? with
  |some o=>mb0 o s
  |none=>true
 beg:=fun i s=>o4 (p.bo i) 0 s
 go:=fun i k s=>goP (p.bo i) i k s
 le:=fun _ _ _=>True
 Inv:=Si0 p
 lb:=p.lb
 pl:=p.pl
structure e5 (p:r4):Prop where
 ro:∀b,p.RO b->b<p.wI.heap.size/\p.wI.heap[b]? ≠some nothing
 roD:∀b,p.RO b->b<p.B\/∃cs T,S0 p.wI b cs T/\(∀t,T≠tty t)/\T≠45/\T≠2
 sB:∀t n,1 <=t->t <=5->n<2->p.B <=p.sb t n
 eb1:∀t n t' n',1 <=t->t <=5->n<2->1 <=t'->t' <=5->n'<2->p.sb t n=p.sb t' n'->t=t'/\n=n'
 hT:p.RO p.tb/\S0 p.wI p.tb (Mk0 p) 72
 hW:p.RO p.wb/\S0 p.wI p.wb #[.bool false] 105
 hM:∀t n,1 <=t->t <=2->n<2->p.RO (p.mb t n)/\S0 p.wI (p.mb t n) #[.iface 193 (.pointer (some ⟨p.sb t n,0,none⟩))] (mty t)
 ops:∀i o,o∈p.bo i->POk o
section
variable {p:r4}{w w' wI:World}{s:PS}{r:B5}
theorem da0.congr (h:da0 p w s r) (he:∀b,PF p r b->w'.heap[b]? =w.heap[b]?):da0 p w' s r :=
 ⟨fun t n h1 h2 h3=>let⟨sa,hB⟩:=h.hS t n h1 h2 h3;⟨sa,(he _ (.inl ⟨t,n,h1,h2,h3,rfl⟩)).trans hB⟩,(he _ (.inr (.inl rfl))).trans h.hG,fun i hi=>Own.congr (h.hL i hi) fun ha=>he _ (.inr (.inr (.inl ⟨i,hi,ha,rfl⟩))),h.inj,fun b hb=>(he _ (.inr (.inr (.inr hb)))).trans (h.ro b hb),h.lG⟩
theorem da0.vis (h:da0 p w s r) (hp:e5 p) {b:Nat} (hb:PF p r b):b<w.heap.size/\w.heap[b]? ≠some nothing:=by
 rcases hb with⟨t,n,h1,h2,h3,rfl⟩|rfl|⟨i,hi,ha,rfl⟩|hb
 ·obtain⟨sa,hB⟩:=h.hS t n h1 h2 h3;exact gu0 hB (mc0 t).1
 ·exact gu0 h.hG (by decide)
 ·obtain⟨cur,hc,_⟩:=(h.hL i hi).row ha;exact gu0 hc (by decide)
 ·have h1:=h.ro b hb;have h2:=hp.ro b hb;refine⟨?_,by rw[h1];exact h2.2⟩;rcases Nat.lt_or_ge b w.heap.size with z|z
  ·exact z
  ·rw[Array.getElem?_eq_none z,Array.getElem?_eq_getElem h2.1]at h1;cases h1
theorem da0.Yp0 (h:da0 p w s r) (hp:e5 p) {b:Nat} (hb:p.RO b):(∀t n,1 <=t->t <=5->n<2->b≠p.sb t n)/\b≠p.lgb/\∀i,i<p.m->r.la i≠none->b≠ab (r.la i):=by
 rcases hp.roD b hb with H2|⟨cs,T,hB,t1,t2,t3⟩
 ·refine⟨fun t n h1 h2 h3 e=>?_,fun e=>?_,fun i hi ha e=>?_⟩
  ·have:=hp.sB t n h1 h2 h3;omega
  ·have:=h.lG;omega
  ·obtain⟨_,_,h2,_⟩:=(h.hL i hi).row ha;omega
 ·have hB':S0 w b cs T:=(h.ro b hb).trans hB;exact⟨fun t n h1 h2 h3=>let⟨_,hS⟩:=h.hS t n h1 h2 h3;S0.ne hB' hS (t1 t),S0.ne hB' h.hG t2,fun i hi ha=>Ay0 (h.hL i hi) hB' t3 ha⟩
theorem da0.rob (h:da0 p w s r) {b:Nat} {cs:Array Value} {T:TypeId} (hb:p.RO b/\S0 p.wI b cs T):S0 w b cs T:=(h.ro b hb.1).trans hb.2
theorem gw0 (hp:e5 p):lt0 (I3 p):=by
 refine⟨⟨fun _ _=>trivial,fun _ _ _ _ _ _=>trivial⟩,fun s m w w' F h he=>?_,fun s m w F h b hb=>?_⟩
 ·obtain⟨r,rfl,hM⟩:=h;exact⟨r,rfl,hM.congr he⟩
 ·obtain⟨r,rfl,hM⟩:=h;exact hM.vis hp hb
theorem da0.set (h:da0 p w s r) (hp:e5 p) {s':PS} {t n y:Nat} {sa:Value} (h1:1 <=t) (h2:t <=5) (h3:n<2) (hg:y9 w w' (p.sb t n) y) (hy:y=p.sb t n\/¬PF p r y) (hB:S0 w' (p.sb t n) (c7 p.wb s' t n sa) (tty t)) (ht:s'.S2=s.S2) (hs:∀t' n' sa,1 <=t'->t' <=5->n'<2->¬(t'=t/\n'=n)->c7 p.wb s' t' n' sa=c7 p.wb s t' n' sa):da0 p w' s' r:=by
 have stay:∀b,PF p r b->b≠p.sb t n->w'.heap[b]? =w.heap[b]?:=fun b hb B3=>hg.block b (h.vis hp hb).1 B3 fun e=>by
  subst e;rcases hy with z|z
  ·exact B3 z
  ·exact z hb
 obtain⟨_,hS⟩:=h.hS t n h1 h2 h3;refine⟨fun t' n' g1 g2 g3=>?_,?_,fun i hi=>?_,h.inj,fun b hb=>?_,h.lG⟩
 ·by_cases e:t'=t/\n'=n
  ·obtain⟨rfl,rfl⟩:=e;exact⟨sa,hB⟩
  ·obtain⟨sa',hS'⟩:=h.hS t' n' g1 g2 g3;exact⟨sa',by rw[hs t' n' sa' g1 g2 g3 e];exact(stay _ (.inl ⟨t',n',g1,g2,g3,rfl⟩) fun z=>e (hp.eb1 _ _ _ _ g1 g2 g3 h1 h2 h3 z)).trans hS'⟩
 ·rw[ht];exact(stay _ (.inr (.inl rfl)) (S0.ne h.hG hS (mc0 t).2.1.symm)).trans h.hG
 ·rw[ht];exact Own.congr (h.hL i hi) fun ha=>stay _ (.inr (.inr (.inl ⟨i,hi,ha,rfl⟩))) fun e=>Ay0 (h.hL i hi) hS (mc0 t).2.2 ha e.symm
 ·exact(stay b (.inr (.inr (.inr hb))) ((h.Yp0 hp hb).1 t n h1 h2 h3)).trans (h.ro b hb)
theorem y9.of {b:Nat} (hg:w.grownBy w' (some b)):y9 w w' b b:=(y9.refl w b b).step (.inl rfl) hg
end
structure Yq0 (p:r4) (q:PR (I3 p)):Prop where
 new:∀i,q.ft.length <=i->q.s.S2 i=[]
 S4:∀i k,q.ft[i]? =some (.inl k)->(q.s.S2 i).length=k/\k<(p.bo i).length
 all:∀i,(q.s.S2 i).length <=(p.bo i).length
theorem sa0 {ops:List V2} {k l:Nat} (h:gv0 ops k= .inl l):l=k/\k<ops.length:=by
 unfold gv0 at h;split at h
 ·cases h;exact⟨rfl,by assumption⟩
 ·cases h
theorem ui0 {p:r4}:∀q,(I3 p).Reach q->Yq0 p q:=by
 refine Sys.ind (Y:=I3 p) (fun q=>Yq0 p q) ⟨fun _ _=>rfl,(fun i l h=>by cases h),fun _=>Nat.zero_le _⟩ (fun q hq _=>?_) (fun q i k hq _ hf _=>?_)
 ·have hb:(I3 p).bgn q={q with s:=q.s,ft:=q.ft ++ [gv0 (p.bo q.ft.length) 0],N2:=q.N2++tell q.ft.length q.evs.length [],outs:=q.outs ++ [o4 (p.bo q.ft.length) 0 q.s],who:=q.who ++ [none]}:=rfl;rw[hb];refine⟨fun j hj=>?_,fun j l h=>?_,hq.all⟩
  ·have hj:(q.ft ++ [gv0 (p.bo q.ft.length) 0]).length <=j:=hj;rw[List.length_append,List.length_singleton]at hj;exact hq.new j (by omega)
  ·have h:(q.ft ++ [gv0 (p.bo q.ft.length) 0])[j]? =some (.inl l):=h;rcases bz0 h with h'|⟨hj,h'⟩
   ·exact hq.S4 j l h'
   ·obtain⟨rfl,h2⟩:=sa0 h';rw[hj];exact⟨by show(q.s.S2 q.ft.length).length=0;rw[hq.new _ (Nat.le_refl _)];rfl,h2⟩
 ·have hl:=(List.getElem?_eq_some_iff.1 hf).1;obtain⟨h1,h2⟩:=hq.S4 i k hf;obtain⟨o,ho⟩:∃o,(p.bo i)[k]? =some o:=⟨_,List.getElem?_eq_getElem h2⟩
  have ht:(I3 p).y5 q i={q with s:=(goP (p.bo i) i k q.s).s,ft:=q.ft.set i (goP (p.bo i) i k q.s).g8,evs:=q.evs ++ [(i,(I3 p).stp i k)],N2:=q.N2++tell i (q.evs.length+1) (goP (p.bo i) i k q.s).N2,outs:=q.outs ++ [goP (p.bo i) i k q.s],who:=q.who ++ [some i],used:=q.used+1}:=by
   unfold Sys.y5;rw[hf]
  rw[ht,yr0 ho];have e1:(Y9 i (X9 o q.s)).S2 i=q.s.S2 i ++ [(X9 o q.s).2]:=by show upN _ i _ i=_;rw[R4,ca0]
  have e2:∀j,j≠i->(Y9 i (X9 o q.s)).S2 j=q.s.S2 j:=fun j hj=>by show upN _ i _ j=_;rw[l5 hj,ca0]
  refine⟨fun j hj=>?_,fun j l h=>?_,fun j=>?_⟩
  ·have hj:(q.ft.set i _).length <=j:=hj;rw[List.length_set]at hj;exact(e2 j (by omega)).trans (hq.new j hj)
  ·have h:(q.ft.set i (gv0 (p.bo i) (k+1)))[j]? =some (.inl l):=h;by_cases j3:j=i
   ·subst j3;rw[List.getElem?_set_self hl]at h;obtain⟨rfl,h3⟩:=sa0 (Option.some.inj h);exact⟨by show((Y9 j (X9 o q.s)).S2 j).length=_;rw[e1,List.length_append,h1];rfl,h3⟩
   ·rw[List.getElem?_set_ne (Ne.symm j3)]at h;exact⟨by show((Y9 i (X9 o q.s)).S2 j).length=_;rw[e2 j j3];exact(hq.S4 j l h).1,(hq.S4 j l h).2⟩
  ·show((Y9 i (X9 o q.s)).S2 j).length <=_;by_cases j3:j=i
   ·subst j3;rw[e1,List.length_append,h1];exact h2
   ·rw[e2 j j3];exact hq.all j
noncomputable abbrev r2 (p:r4) (fb:Nat->FuncId) (q:PR (I3 p)) (w00:World) (i cb:Nat) (top:List Frame):Q8 prog:=(I3 p).cfg fb q w00 i cb top
structure V8 (p:r4) (w:World) (s:PS) (r:B5):Prop where
 ok:e5 p
 mem:da0 p w s r
section
variable {p:r4}{w w' u:World}{fb:Nat->FuncId}{q:PR (I3 p)}{w00:World}{i cb:Nat}{top:List Frame}{s:PS}{r:B5}{k:Nat}{o:V2}
theorem V8.A0 (h:V8 p w s r) (hb:Below w.heap.size w w'):V8 p w' s r:=⟨h.ok,h.mem.congr fun b hF=>hb.block b (h.mem.vis h.ok hF).1⟩
theorem V8.fresh (h:V8 p w s r) {b:Nat} (hb:w.heap.size <=b):¬PF p r b:=fun z=>by have:=(h.mem.vis h.ok z).1;omega
theorem V8.S2 (h:V8 p w s r) (hc:w9 (r2 p fb q w00 i cb top) w ⟨s,[],.inl k⟩):(r2 p fb q w00 i cb top).Told w (gm w) (PF p r) (.inl k):=hc.S2 rfl (fun _ _=>trivial) ⟨r,rfl,h.mem⟩
theorem V8.done {v:Value} (h:V8 p w s r) (hc:w9 (r2 p fb q w00 i cb top) w ⟨s,[],.inr 1⟩):∃F,(r2 p fb q w00 i cb top).xt0 w F (.returned v):=⟨_,hc.done (m:=gm w) rfl (fun _ _=>trivial) ⟨r,rfl,h.mem⟩⟩
theorem V8.start {F:Nat->Prop} (hs:ye0 (r2 p fb q w00 i cb top) (fun s=>o4 (p.bo i) 0 s) u F) (hp:e5 p):∃s r,V8 p u s r/\w9 (r2 p fb q w00 i cb top) u (o4 (p.bo i) 0 s)/\(s.S2 i).length <=0:=by
 obtain⟨ht,p',hR,_,h1,h2⟩:=hs.at_
 have hl:=ui0 p' hR;have C1:=hl.new i (Nat.le_of_eq h2);rw[h1]at C1;obtain⟨r,hF,hM⟩:Si0 p ((I3 p).sAt q (gh u 0)) (gm u) u F:=hs.inv;exact⟨_,r,⟨hp,hM⟩,⟨hs.on,hs.N2,hs.out,rfl,hs.os,hs.output⟩,by rw[C1];exact Nat.le_refl _⟩
theorem x8 {F F':Nat->Prop} {m:Gm} (hg:(r2 p fb q w00 i cb top).j5 w m F u F'):∃r1,F'=PF p r1/\da0 p u ((I3 p).sAt q (gh u 0)) r1:=hg.inv
theorem H4 (hp:e5 p) {F F':Nat->Prop} {m:Gm} (hc:w9 (r2 p fb q w00 i cb top) w ⟨s,[],.inl k⟩) (ho:(p.bo i)[k]? =some o) (hg:(r2 p fb q w00 i cb top).Goes w m F k u F'):∃r1,F'=PF p r1/\V8 p u ((I3 p).sAt q (gh u 0)) r1/\w9 (r2 p fb q w00 i cb top) u (o4 (p.bo i) (k+1) (Y9 i (X9 o ((I3 p).sAt q (gh u 0)))))/\(((I3 p).sAt q (gh u 0)).S2 i).length=k:=by
 obtain⟨r1,hF,hM⟩:=x8 hg.X6;obtain⟨ht,p',hR,_,h1,h2⟩:=hg.at_
 have hl:=(ui0 p' hR).S4 i k h2;rw[h1]at hl;have l8:=hc.goes hg (fun s=>Az0 (p.bo i) i k s);have e1:(r2 p fb q w00 i cb top).go k ((r2 p fb q w00 i cb top).sOf (gh u 0))=o4 (p.bo i) (k+1) (Y9 i (X9 o ((I3 p).sAt q (gh u 0)))):=yr0 ho;rw[e1]at l8;exact⟨r1,hF,⟨hp,hM⟩,l8,hl.1⟩
theorem W8 (ho:(p.bo i)[k]? =some o) {a b:Int} (ha:o.call=a) (hb:o.A5=b):(r2 p fb q w00 i cb top).stp k=⟨a,b,(Z0 o:Nat)⟩:=by
 show(match(p.bo i)[k]? with|some o=>(⟨o.call,o.A5,(Z0 o:Nat)⟩:Stp)|none=>⟨0,0,0⟩)=_;rw[ho,<- ha,<- hb]
theorem uj0 (ho:(p.bo i)[k]? =some o) (s:PS):(r2 p fb q w00 i cb top).rdy k s=mb0 o s:=by
 show(match(p.bo i)[k]? with|some o=>mb0 o s|none=>true)=_;rw[ho]
theorem z9 (ho:(p.bo i)[k]? =some o) (h1:o.call≠1) (h3:o.call≠3) (s:PS):(r2 p fb q w00 i cb top).rdy k s=true:=by
 rw[uj0 ho];unfold mb0;rw[if_neg h1,if_neg h3]
theorem A9 (h:o.call=5\/o.call=8) {t:Nat} (hT:pT o=t) (s:PS):X9 o s=(s,s.val t (Z0 o)):=by
 unfold X9;rw[hT];rw[if_neg (by omega),if_neg (by omega),if_neg (by omega),if_neg (by omega),if_neg (by omega),if_neg (by omega)]
theorem ej0 (h:o.call=6\/o.call=9) {t:Nat} (hT:pT o=t) (s:PS):X9 o s=({s with val:=up2 s.val t (Z0 o) o.val},0):=by
 unfold X9;rw[hT];rw[if_neg (by omega),if_neg (by omega),if_neg (by omega),if_neg (by omega),if_pos (by omega)]
theorem uk0 (h:o.call=7) {t:Nat} (hT:pT o=t) (s:PS):X9 o s=({s with val:=up2 s.val t (Z0 o) (IntKind.i64.wrap (s.val t (Z0 o)+o.val))},IntKind.i64.wrap (s.val t (Z0 o)+o.val)):=by
 unfold X9;rw[hT];rw[if_neg (by omega),if_neg (by omega),if_neg (by omega),if_neg (by omega),if_neg (by omega),if_pos (by omega)]
theorem Hy0 (h:o.call=1) {t:Nat} (hT:pT o=t) (s:PS):X9 o s=({s with held:=up2 s.held t (Z0 o) true},0):=by
 unfold X9;rw[hT,if_pos h]
theorem Hz0 (h:o.call=2) {t:Nat} (hT:pT o=t) (s:PS):X9 o s=({s with held:=up2 s.held t (Z0 o) false},0):=by
 unfold X9;rw[hT,if_neg (by omega),if_pos h]
theorem Pb0 (h:o.call=3) {t:Nat} (_:pT o=t) (s:PS):X9 o s=({s with dt0:=upN s.dt0 (Z0 o) (IntKind.i64.wrap (s.dt0 (Z0 o)+1))},0):=by
 unfold X9;rw[if_neg (by omega),if_neg (by omega),if_pos h]
theorem Pc0 (h:o.call=4) {t:Nat} (_:pT o=t) (s:PS):X9 o s=({s with dt0:=upN s.dt0 (Z0 o) (max 0 (IntKind.i64.wrap (s.dt0 (Z0 o)-1)))},0):=by
 unfold X9;rw[if_neg (by omega),if_neg (by omega),if_neg (by omega),if_pos h]
theorem yt0 {wb t n t' n':Nat} {v:Int} {sa:Value} (h:¬(t'=t/\n'=n)):c7 wb {s with val:=up2 s.val t n v} t' n' sa=c7 wb s t' n' sa:=by
 unfold c7;simp only[yq0 h];rfl
theorem Ba0 {wb t n t' n':Nat} {v:Bool} {sa:Value} (h:¬(t'=t/\n'=n)):c7 wb {s with held:=up2 s.held t n v} t' n' sa=c7 wb s t' n' sa:=by
 unfold c7;simp only[yq0 h];rfl
theorem Bb0 {wb n t' n':Nat} {v:Int} {sa:Value} (h:¬(t'=2/\n'=n)):c7 wb {s with dt0:=upN s.dt0 n v} t' n' sa=c7 wb s t' n' sa:=by
 have e:prd {s with dt0:=upN s.dt0 n v} t' n'=prd s t' n':=by
  unfold prd;split
  ·exact l5 fun e=>h ⟨by assumption,e⟩
  ·rfl
 unfold c7;rw[e]
theorem iq0 {b:Nat} {a1 a2:Value} {h h':Bool} {x x':Int} {T T':TypeId} (h1:S0 w b #[a1,a2,.bool h,.int .i64 x] T) (h2:S0 w b #[a1,a2,.bool h',.int .i64 x'] T'):h=h'/\x=x':=by
 have e:(some (Obj.cells #[a1,a2,.bool h,.int .i64 x] T (0,0)))=some (Obj.cells #[a1,a2,.bool h',.int .i64 x'] T' (0,0)):=h1.symm.trans h2;injection e with e
 injection e with e
 have e3:=congrArg (fun a:Array Value=>a.toList) e;simp at e3;exact e3
def l6 (p:r4) (fb:Nat->FuncId) (q:PR (I3 p)) (w00:World) (i cb:Nat) (top:List Frame) (k:Nat) (o:V2) (w:World) (A:Value->Int->Prop):Ending->World->Prop :=
 D3 (r2 p fb q w00 i cb top) w fun v u=>∃s1 r1,V8 p u (X9 o s1).1 r1/\w9 (r2 p fb q w00 i cb top) u (o4 (p.bo i) (k+1) (Y9 i (X9 o s1)))/\(s1.S2 i).length=k/\A v (X9 o s1).2
end
theorem Ml0 {p:r4} {fb:Nat->FuncId} {q:PR (I3 p)} {w00:World} {i cb:Nat} {top:List Frame} {s:PS} {r:B5} {k:Nat} {o:V2} (hp:e5 p) (w0:World) (hE:V8 p w0 s r) (hc:w9 (r2 p fb q w00 i cb top) w0 ⟨s,[],.inl k⟩) (ho:(p.bo i)[k]? =some o) (h5:o.A5=5) (h8:o.call=8) :
  @Calls prog (J0 (r2 p fb q w00 i cb top)) 22 #[.pointer (some ⟨p.sb 5 (Z0 o),0,none⟩),.pointer (some ⟨cb,0,none⟩)] w0 (l6 p fb q w00 i cb top k o w0 fun v x=>v= .int .i64 x):=by
 have hT:=hE.S2 hc;have hP:pT o=5:=by unfold pT;rw[h5];rfl
 obtain⟨sa,hC⟩:=hE.mem.hS 5 (Z0 o) (by decide) (by decide) (N0 o);refine @Calls.mono _ (J0 (r2 p fb q w00 i cb top)) _ _ _ _ _ (Md0 (Sys.kok (gw0 hp)) (p.sb 5 (Z0 o)) p.wb 5 (Z0 o:Nat) (fun tt=>((I3 p).sAt q tt).val 5 (Z0 o)) _ w0 hT (W8 ho h8 h5) (z9 ho (by omega) (by omega)) (hE.mem.rob hp.hW) hC (fun u F' hg=>?_)) fun e u he=>?_
 ·obtain⟨r1,rfl,p7,_,_⟩:=H4 hp hc ho hg;obtain⟨_,hh⟩:=p7.mem.hS 5 (Z0 o) (by decide) (by decide) (N0 o);exact hh
 ·cases e with
  |outgrown=>exact he
  |panicked ch=>exact he
  |returned v=>
   obtain⟨F',tt,hg,htt,rfl⟩:=he;obtain⟨r1,rfl,p7,l8,hl⟩:=H4 hp hc ho hg.goes;have e1:=htt.eq;refine⟨_,r1,?_,l8,hl,?_⟩
   ·rw[A9 (by omega) hP];exact p7
   ·rw[A9 (by omega) hP,e1]
theorem Mm0 {p:r4} {fb:Nat->FuncId} {q:PR (I3 p)} {w00:World} {i cb:Nat} {top:List Frame} {s:PS} {r:B5} {k:Nat} {o:V2} (hp:e5 p) (w0:World) (hE:V8 p w0 s r) (hc:w9 (r2 p fb q w00 i cb top) w0 ⟨s,[],.inl k⟩) (ho:(p.bo i)[k]? =some o) (h5:o.A5=4) (h8:o.call=5) :
  @Calls prog (J0 (r2 p fb q w00 i cb top)) 29 #[.pointer (some ⟨p.sb 4 (Z0 o),0,none⟩),.pointer (some ⟨cb,0,none⟩)] w0 (l6 p fb q w00 i cb top k o w0 fun v x=>v= .int .i64 x):=by
 have hT:=hE.S2 hc;have hP:pT o=4:=by unfold pT;rw[h5];rfl
 obtain⟨sa,hC⟩:=hE.mem.hS 4 (Z0 o) (by decide) (by decide) (N0 o);refine @Calls.mono _ (J0 (r2 p fb q w00 i cb top)) _ _ _ _ _ (Mf0 (Sys.kok (gw0 hp)) (p.sb 4 (Z0 o)) p.wb 4 (Z0 o:Nat) (fun tt=>((I3 p).sAt q tt).val 4 (Z0 o)) _ sa w0 hT (W8 ho h8 h5) (z9 ho (by omega) (by omega)) (hE.mem.rob hp.hW) hC (fun u F' hg=>?_)) fun e u he=>?_
 ·obtain⟨r1,rfl,p7,_,_⟩:=H4 hp hc ho hg;obtain⟨_,hh⟩:=p7.mem.hS 4 (Z0 o) (by decide) (by decide) (N0 o);exact⟨_,hh⟩
 ·cases e with
  |outgrown=>exact he
  |panicked ch=>exact he
  |returned v=>
   obtain⟨F',tt,hg,htt,rfl⟩:=he;obtain⟨r1,rfl,p7,l8,hl⟩:=H4 hp hc ho hg.goes;have e1:=htt.eq;refine⟨_,r1,?_,l8,hl,?_⟩
   ·rw[A9 (by omega) hP];exact p7
   ·rw[A9 (by omega) hP,e1]
theorem Mn0 {p:r4} {fb:Nat->FuncId} {q:PR (I3 p)} {w00:World} {i cb:Nat} {top:List Frame} {s:PS} {r:B5} {k:Nat} {o:V2} (hp:e5 p) (w0:World) (hE:V8 p w0 s r) (hc:w9 (r2 p fb q w00 i cb top) w0 ⟨s,[],.inl k⟩) (ho:(p.bo i)[k]? =some o) (h5:o.A5=3) (h8:o.call=5) :
  @Calls prog (J0 (r2 p fb q w00 i cb top)) 34 #[.pointer (some ⟨p.sb 3 (Z0 o),0,none⟩),.pointer (some ⟨cb,0,none⟩)] w0 (l6 p fb q w00 i cb top k o w0 fun v x=>v= .int .i64 x):=by
 have hT:=hE.S2 hc;have hP:pT o=3:=by unfold pT;rw[h5];rfl
 obtain⟨sa,hC⟩:=hE.mem.hS 3 (Z0 o) (by decide) (by decide) (N0 o);refine @Calls.mono _ (J0 (r2 p fb q w00 i cb top)) _ _ _ _ _ (Mh0 (Sys.kok (gw0 hp)) (p.sb 3 (Z0 o)) p.wb 3 (Z0 o:Nat) (fun tt=>((I3 p).sAt q tt).val 3 (Z0 o)) _ sa w0 hT (W8 ho h8 h5) (z9 ho (by omega) (by omega)) (hE.mem.rob hp.hW) hC (fun u F' hg=>?_)) fun e u he=>?_
 ·obtain⟨r1,rfl,p7,_,_⟩:=H4 hp hc ho hg;obtain⟨_,hh⟩:=p7.mem.hS 3 (Z0 o) (by decide) (by decide) (N0 o);exact⟨_,hh⟩
 ·cases e with
  |outgrown=>exact he
  |panicked ch=>exact he
  |returned v=>
   obtain⟨F',tt,hg,htt,rfl⟩:=he;obtain⟨r1,rfl,p7,l8,hl⟩:=H4 hp hc ho hg.goes;have e1:=htt.eq;refine⟨_,r1,?_,l8,hl,?_⟩
   ·rw[A9 (by omega) hP];exact p7
   ·rw[A9 (by omega) hP,e1]
theorem Mo0 {p:r4} {fb:Nat->FuncId} {q:PR (I3 p)} {w00:World} {i cb:Nat} {top:List Frame} {s:PS} {r:B5} {k:Nat} {o:V2} (hp:e5 p) (w0:World) (hE:V8 p w0 s r) (hc:w9 (r2 p fb q w00 i cb top) w0 ⟨s,[],.inl k⟩) (ho:(p.bo i)[k]? =some o) (h5:o.A5=5) (h8:o.call=9) :
  @Calls prog (J0 (r2 p fb q w00 i cb top)) 21 #[.pointer (some ⟨p.sb 5 (Z0 o),0,none⟩),.pointer (some ⟨cb,0,none⟩),.int .i64 o.val] w0 (l6 p fb q w00 i cb top k o w0 fun v x=>v= .tuple #[]/\x=0):=by
 have hT:=hE.S2 hc;have hP:pT o=5:=by unfold pT;rw[h5];rfl
 obtain⟨sa,hC⟩:=hE.mem.hS 5 (Z0 o) (by decide) (by decide) (N0 o);refine @Calls.mono _ (J0 (r2 p fb q w00 i cb top)) _ _ _ _ _ (Me0 (Sys.kok (gw0 hp)) (p.sb 5 (Z0 o)) p.wb 5 (Z0 o:Nat) o.val _ w0 hT (W8 ho h8 h5) (z9 ho (by omega) (by omega)) (hE.mem.rob hp.hW) hC (fun u F' hg=>?_)) fun e u he=>?_
 ·obtain⟨r1,rfl,p7,_,_⟩:=H4 hp hc ho hg;obtain⟨_,hh⟩:=p7.mem.hS 5 (Z0 o) (by decide) (by decide) (N0 o);exact⟨_,hh⟩
 ·cases e with
  |outgrown=>exact he
  |panicked ch=>exact he
  |returned v=>
   obtain⟨rfl,u0,F',hg,hB,J3⟩:=he;obtain⟨r1,rfl,p7,l8,hl⟩:=H4 hp hc ho hg.goes
   skip
   refine⟨_,r1,?_,l8.k5 J3 trivial,hl,rfl,by rw[ej0 (by omega) hP]⟩;rw[ej0 (by omega) hP];exact⟨hp,p7.mem.set hp (sa:=sa) (by decide) (by decide) (N0 o) (y9.of J3) (.inl rfl) (by unfold c7;simp only[fh0];exact hB) rfl fun _ _ _ _ _ _ h=>yt0 h⟩
theorem Mp0 {p:r4} {fb:Nat->FuncId} {q:PR (I3 p)} {w00:World} {i cb:Nat} {top:List Frame} {s:PS} {r:B5} {k:Nat} {o:V2} (hp:e5 p) (w0:World) (hE:V8 p w0 s r) (hc:w9 (r2 p fb q w00 i cb top) w0 ⟨s,[],.inl k⟩) (ho:(p.bo i)[k]? =some o) (h5:o.A5=4) (h8:o.call=6) :
  @Calls prog (J0 (r2 p fb q w00 i cb top)) 26 #[.pointer (some ⟨p.sb 4 (Z0 o),0,none⟩),.pointer (some ⟨cb,0,none⟩),.int .i64 o.val] w0 (l6 p fb q w00 i cb top k o w0 fun v x=>v= .tuple #[]/\x=0):=by
 have hT:=hE.S2 hc;have hP:pT o=4:=by unfold pT;rw[h5];rfl
 obtain⟨sa,hC⟩:=hE.mem.hS 4 (Z0 o) (by decide) (by decide) (N0 o);refine @Calls.mono _ (J0 (r2 p fb q w00 i cb top)) _ _ _ _ _ (Mg0 (Sys.kok (gw0 hp)) (p.sb 4 (Z0 o)) p.wb 4 (Z0 o:Nat) o.val _ sa w0 hT (W8 ho h8 h5) (z9 ho (by omega) (by omega)) (hE.mem.rob hp.hW) hC (fun u F' hg=>?_)) fun e u he=>?_
 ·obtain⟨r1,rfl,p7,_,_⟩:=H4 hp hc ho hg;obtain⟨_,hh⟩:=p7.mem.hS 4 (Z0 o) (by decide) (by decide) (N0 o);exact⟨_,_,hh⟩
 ·cases e with
  |outgrown=>exact he
  |panicked ch=>exact he
  |returned v=>
   obtain⟨rfl,u0,F',hg,hB,J3,_⟩:=he;obtain⟨r1,rfl,p7,l8,hl⟩:=H4 hp hc ho hg.goes;obtain⟨sa2,hB⟩:=hB;refine⟨_,r1,?_,l8.k5 J3 trivial,hl,rfl,by rw[ej0 (by omega) hP]⟩;rw[ej0 (by omega) hP];exact⟨hp,p7.mem.set hp (sa:=sa2) (by decide) (by decide) (N0 o) (y9.of J3) (.inl rfl) (by unfold c7;simp only[fh0];exact hB) rfl fun _ _ _ _ _ _ h=>yt0 h⟩
theorem Mq0 {p:r4} {fb:Nat->FuncId} {q:PR (I3 p)} {w00:World} {i cb:Nat} {top:List Frame} {s:PS} {r:B5} {k:Nat} {o:V2} (hp:e5 p) (w0:World) (hE:V8 p w0 s r) (hc:w9 (r2 p fb q w00 i cb top) w0 ⟨s,[],.inl k⟩) (ho:(p.bo i)[k]? =some o) (h5:o.A5=3) (h8:o.call=7) :
  @Calls prog (J0 (r2 p fb q w00 i cb top)) 24 #[.pointer (some ⟨p.sb 3 (Z0 o),0,none⟩),.pointer (some ⟨cb,0,none⟩),.int .i64 o.val] w0 (l6 p fb q w00 i cb top k o w0 fun v x=>v= .int .i64 x):=by
 have hT:=hE.S2 hc;have hP:pT o=3:=by unfold pT;rw[h5];rfl
 obtain⟨sa,hC⟩:=hE.mem.hS 3 (Z0 o) (by decide) (by decide) (N0 o);refine @Calls.mono _ (J0 (r2 p fb q w00 i cb top)) _ _ _ _ _ (Mj0 (Sys.kok (gw0 hp)) (p.sb 3 (Z0 o)) p.wb 3 (Z0 o:Nat) (fun tt=>((I3 p).sAt q tt).val 3 (Z0 o)) _ o.val sa w0 hT (W8 ho h8 h5) (z9 ho (by omega) (by omega)) (hE.mem.rob hp.hW) hC (fun u F' hg=>?_)) fun e u he=>?_
 ·obtain⟨r1,rfl,p7,_,_⟩:=H4 hp hc ho hg;obtain⟨_,hh⟩:=p7.mem.hS 3 (Z0 o) (by decide) (by decide) (N0 o);exact⟨_,hh⟩
 ·cases e with
  |outgrown=>exact he
  |panicked ch=>exact he
  |returned v=>
   obtain⟨u0,F',tt,sa2,hg,htt,rfl,hB,y,hy1,hy2,hm2,_⟩:=he;obtain⟨r1,rfl,p7,l8,hl⟩:=H4 hp hc ho hg.goes;subst htt;refine⟨_,r1,?_,l8.to hm2.tape hm2.os hm2.output,hl,by rw[uk0 h8 hP]⟩;rw[uk0 h8 hP];exact⟨hp,p7.mem.set hp (sa:=sa2) (by decide) (by decide) (N0 o) hm2 (.inr hy2) (by unfold c7;simp only[fh0];exact hB) rfl fun _ _ _ _ _ _ h=>yt0 h⟩
theorem Ia0 {p:r4} {fb:Nat->FuncId} {q:PR (I3 p)} {w00:World} {i cb:Nat} {top:List Frame} {s:PS} {r:B5} {k:Nat} {o:V2} (hp:e5 p) (w0:World) (hE:V8 p w0 s r) (hc:w9 (r2 p fb q w00 i cb top) w0 ⟨s,[],.inl k⟩) (ho:(p.bo i)[k]? =some o) (h5:o.A5=1) (h8:o.call=1) :
  @Calls prog (J0 (r2 p fb q w00 i cb top)) 20 #[.pointer (some ⟨p.mb 1 (Z0 o),0,none⟩),.pointer (some ⟨cb,0,none⟩)] w0 (l6 p fb q w00 i cb top k o w0 fun v x=>v= .tuple #[]/\x=0):=by
 have hT:=hE.S2 hc;have hP:pT o=1:=by unfold pT;rw[h5];rfl
 obtain⟨sa,hC⟩:=hE.mem.hS 1 (Z0 o) (by decide) (by decide) (N0 o);refine @Calls.mono _ (J0 (r2 p fb q w00 i cb top)) _ _ _ _ _ (Hv0 (Sys.kok (gw0 hp)) (p.sb 1 (Z0 o)) 1 (Z0 o:Nat) _ _ (p.mb 1 (Z0 o)) w0 hT (W8 ho h8 h5) (hE.mem.rob (hp.hM 1 (Z0 o) (by decide) (by decide) (N0 o))) hC (fun u F' hl=>?_)) fun e u he=>?_
 ·obtain⟨r1,rfl,hM⟩:=x8 hl;obtain⟨_,hh⟩:=hM.hS 1 (Z0 o) (by decide) (by decide) (N0 o);exact⟨_,_,hh,by refine(uj0 (fb:=fb) (w00:=w00) (cb:=cb) (top:=top) ho _).trans ?_;unfold mb0;rw[if_pos h8,hP];rfl⟩
 ·cases e with
  |outgrown=>exact he
  |panicked ch=>exact he
  |returned v=>
   obtain⟨rfl,u0,F',h',r',hg,k6,hB,J3,_⟩:=he;obtain⟨r1,rfl,p7,l8,hl⟩:=H4 hp hc ho hg.goes;obtain⟨_,hS1⟩:=p7.mem.hS 1 (Z0 o) (by decide) (by decide) (N0 o);obtain⟨rfl,rfl⟩:=iq0 k6 hS1;refine⟨_,r1,?_,l8.k5 J3 trivial,hl,rfl,by rw[Hy0 h8 hP]⟩;exact U347
theorem yu0 {p:r4} {fb:Nat->FuncId} {q:PR (I3 p)} {w00:World} {i cb:Nat} {top:List Frame} {s:PS} {r:B5} {k:Nat} {o:V2} (hp:e5 p) (w0:World) (hE:V8 p w0 s r) (hc:w9 (r2 p fb q w00 i cb top) w0 ⟨s,[],.inl k⟩) (ho:(p.bo i)[k]? =some o) (h5:o.A5=1) (h8:o.call=2) :
  @Calls prog (J0 (r2 p fb q w00 i cb top)) 23 #[.pointer (some ⟨p.mb 1 (Z0 o),0,none⟩),.pointer (some ⟨cb,0,none⟩)] w0 (l6 p fb q w00 i cb top k o w0 fun v x=>v= .tuple #[]/\x=0):=by
 have hT:=hE.S2 hc;have hP:pT o=1:=by unfold pT;rw[h5];rfl
 obtain⟨sa,hC⟩:=hE.mem.hS 1 (Z0 o) (by decide) (by decide) (N0 o);refine @Calls.mono _ (J0 (r2 p fb q w00 i cb top)) _ _ _ _ _ (ym0 (Sys.kok (gw0 hp)) (p.sb 1 (Z0 o)) 1 (Z0 o:Nat) _ _ (p.mb 1 (Z0 o)) w0 hT (W8 ho h8 h5) (z9 ho (by omega) (by omega)) (hE.mem.rob (hp.hM 1 (Z0 o) (by decide) (by decide) (N0 o))) hC (fun u F' hl=>?_)) fun e u he=>?_
 ·obtain⟨r1,rfl,hM⟩:=x8 hl;obtain⟨_,hh⟩:=hM.hS 1 (Z0 o) (by decide) (by decide) (N0 o);exact⟨_,_,hh⟩
 ·cases e with
  |outgrown=>exact he
  |panicked ch=>exact he
  |returned v=>
   obtain⟨rfl,u0,F',h',r',hg,k6,hB,J3,_⟩:=he;obtain⟨r1,rfl,p7,l8,hl⟩:=H4 hp hc ho hg.goes;obtain⟨_,hS1⟩:=p7.mem.hS 1 (Z0 o) (by decide) (by decide) (N0 o);obtain⟨rfl,rfl⟩:=iq0 k6 hS1;refine⟨_,r1,?_,l8.k5 J3 trivial,hl,rfl,by rw[Hz0 h8 hP]⟩;exact U348
theorem Ib0 {p:r4} {fb:Nat->FuncId} {q:PR (I3 p)} {w00:World} {i cb:Nat} {top:List Frame} {s:PS} {r:B5} {k:Nat} {o:V2} (hp:e5 p) (w0:World) (hE:V8 p w0 s r) (hc:w9 (r2 p fb q w00 i cb top) w0 ⟨s,[],.inl k⟩) (ho:(p.bo i)[k]? =some o) (h5:o.A5=2) (h8:o.call=1) :
  @Calls prog (J0 (r2 p fb q w00 i cb top)) 25 #[.pointer (some ⟨p.mb 2 (Z0 o),0,none⟩),.pointer (some ⟨cb,0,none⟩)] w0 (l6 p fb q w00 i cb top k o w0 fun v x=>v= .tuple #[]/\x=0):=by
 have hT:=hE.S2 hc;have hP:pT o=2:=by unfold pT;rw[h5];rfl
 obtain⟨sa,hC⟩:=hE.mem.hS 2 (Z0 o) (by decide) (by decide) (N0 o);refine @Calls.mono _ (J0 (r2 p fb q w00 i cb top)) _ _ _ _ _ (Hw0 (Sys.kok (gw0 hp)) (p.sb 2 (Z0 o)) 2 (Z0 o:Nat) _ _ (p.mb 2 (Z0 o)) w0 hT (W8 ho h8 h5) (hE.mem.rob (hp.hM 2 (Z0 o) (by decide) (by decide) (N0 o))) hC (fun u F' hl=>?_)) fun e u he=>?_
 ·obtain⟨r1,rfl,hM⟩:=x8 hl;obtain⟨_,hh⟩:=hM.hS 2 (Z0 o) (by decide) (by decide) (N0 o);exact⟨_,_,hh,by refine(uj0 (fb:=fb) (w00:=w00) (cb:=cb) (top:=top) ho _).trans ?_;unfold mb0;rw[if_pos h8,hP];rfl⟩
 ·cases e with
  |outgrown=>exact he
  |panicked ch=>exact he
  |returned v=>
   obtain⟨rfl,u0,F',h',r',hg,k6,hB,J3,_⟩:=he;obtain⟨r1,rfl,p7,l8,hl⟩:=H4 hp hc ho hg.goes;obtain⟨_,hS1⟩:=p7.mem.hS 2 (Z0 o) (by decide) (by decide) (N0 o);obtain⟨rfl,rfl⟩:=iq0 k6 hS1;refine⟨_,r1,?_,l8.k5 J3 trivial,hl,rfl,by rw[Hy0 h8 hP]⟩;exact U347
theorem yv0 {p:r4} {fb:Nat->FuncId} {q:PR (I3 p)} {w00:World} {i cb:Nat} {top:List Frame} {s:PS} {r:B5} {k:Nat} {o:V2} (hp:e5 p) (w0:World) (hE:V8 p w0 s r) (hc:w9 (r2 p fb q w00 i cb top) w0 ⟨s,[],.inl k⟩) (ho:(p.bo i)[k]? =some o) (h5:o.A5=2) (h8:o.call=2) :
  @Calls prog (J0 (r2 p fb q w00 i cb top)) 27 #[.pointer (some ⟨p.mb 2 (Z0 o),0,none⟩),.pointer (some ⟨cb,0,none⟩)] w0 (l6 p fb q w00 i cb top k o w0 fun v x=>v= .tuple #[]/\x=0):=by
 have hT:=hE.S2 hc;have hP:pT o=2:=by unfold pT;rw[h5];rfl
 obtain⟨sa,hC⟩:=hE.mem.hS 2 (Z0 o) (by decide) (by decide) (N0 o);refine @Calls.mono _ (J0 (r2 p fb q w00 i cb top)) _ _ _ _ _ (yn0 (Sys.kok (gw0 hp)) (p.sb 2 (Z0 o)) 2 (Z0 o:Nat) _ _ (p.mb 2 (Z0 o)) w0 hT (W8 ho h8 h5) (z9 ho (by omega) (by omega)) (hE.mem.rob (hp.hM 2 (Z0 o) (by decide) (by decide) (N0 o))) hC (fun u F' hl=>?_)) fun e u he=>?_
 ·obtain⟨r1,rfl,hM⟩:=x8 hl;obtain⟨_,hh⟩:=hM.hS 2 (Z0 o) (by decide) (by decide) (N0 o);exact⟨_,_,hh⟩
 ·cases e with
  |outgrown=>exact he
  |panicked ch=>exact he
  |returned v=>
   obtain⟨rfl,u0,F',h',r',hg,k6,hB,J3,_⟩:=he;obtain⟨r1,rfl,p7,l8,hl⟩:=H4 hp hc ho hg.goes;obtain⟨_,hS1⟩:=p7.mem.hS 2 (Z0 o) (by decide) (by decide) (N0 o);obtain⟨rfl,rfl⟩:=iq0 k6 hS1;refine⟨_,r1,?_,l8.k5 J3 trivial,hl,rfl,by rw[Hz0 h8 hP]⟩;exact U348
theorem Cs0 {p:r4} {fb:Nat->FuncId} {q:PR (I3 p)} {w00:World} {i cb:Nat} {top:List Frame} {s:PS} {r:B5} {k:Nat} {o:V2} (hp:e5 p) (w0:World) (hE:V8 p w0 s r) (hc:w9 (r2 p fb q w00 i cb top) w0 ⟨s,[],.inl k⟩) (ho:(p.bo i)[k]? =some o) (h5:o.A5=2) (h8:o.call=3) :
  @Calls prog (J0 (r2 p fb q w00 i cb top)) 28 #[.pointer (some ⟨p.mb 2 (Z0 o),0,none⟩),.pointer (some ⟨cb,0,none⟩)] w0 (l6 p fb q w00 i cb top k o w0 fun v x=>v= .tuple #[]/\x=0):=by
 have hT:=hE.S2 hc;have hP:pT o=2:=by unfold pT;rw[h5];rfl
 obtain⟨sa,hC⟩:=hE.mem.hS 2 (Z0 o) (by decide) (by decide) (N0 o);refine @Calls.mono _ (J0 (r2 p fb q w00 i cb top)) _ _ _ _ _ (Cr0 (Sys.kok (gw0 hp)) (p.sb 2 (Z0 o)) 2 (Z0 o:Nat) _ _ (p.mb 2 (Z0 o)) w0 hT (W8 ho h8 h5) (hE.mem.rob (hp.hM 2 (Z0 o) (by decide) (by decide) (N0 o))) hC (fun u F' hl=>?_)) fun e u he=>?_
 ·obtain⟨r1,rfl,hM⟩:=x8 hl;obtain⟨_,hh⟩:=hM.hS 2 (Z0 o) (by decide) (by decide) (N0 o);exact⟨_,_,hh,by refine(uj0 (fb:=fb) (w00:=w00) (cb:=cb) (top:=top) ho _).trans ?_;unfold mb0;rw[if_neg (by omega),if_pos h8];rfl⟩
 ·cases e with
  |outgrown=>exact he
  |panicked ch=>exact he
  |returned v=>
   obtain⟨rfl,u0,F',h',r',hg,k6,hB,J3,_⟩:=he;obtain⟨r1,rfl,p7,l8,hl⟩:=H4 hp hc ho hg.goes;obtain⟨_,hS1⟩:=p7.mem.hS 2 (Z0 o) (by decide) (by decide) (N0 o);obtain⟨rfl,rfl⟩:=iq0 k6 hS1;refine⟨_,r1,?_,l8.k5 J3 trivial,hl,rfl,by rw[Pb0 h8 hP]⟩;rw[Pb0 h8 hP];exact⟨hp,p7.mem.set hp (sa:=sa) (by decide) (by decide) (N0 o) (y9.of J3) (.inl rfl) (by unfold c7 prd;simp only[R4];exact hB) rfl fun _ _ _ _ _ _ h=>Bb0 h⟩
theorem wq0 {p:r4} {fb:Nat->FuncId} {q:PR (I3 p)} {w00:World} {i cb:Nat} {top:List Frame} {s:PS} {r:B5} {k:Nat} {o:V2} (hp:e5 p) (w0:World) (hE:V8 p w0 s r) (hc:w9 (r2 p fb q w00 i cb top) w0 ⟨s,[],.inl k⟩) (ho:(p.bo i)[k]? =some o) (h5:o.A5=2) (h8:o.call=4) :
  @Calls prog (J0 (r2 p fb q w00 i cb top)) 30 #[.pointer (some ⟨p.mb 2 (Z0 o),0,none⟩),.pointer (some ⟨cb,0,none⟩)] w0 (l6 p fb q w00 i cb top k o w0 fun v x=>v= .tuple #[]/\x=0):=by
 have hT:=hE.S2 hc;have hP:pT o=2:=by unfold pT;rw[h5];rfl
 obtain⟨sa,hC⟩:=hE.mem.hS 2 (Z0 o) (by decide) (by decide) (N0 o);refine @Calls.mono _ (J0 (r2 p fb q w00 i cb top)) _ _ _ _ _ (wo0 (Sys.kok (gw0 hp)) (p.sb 2 (Z0 o)) 2 (Z0 o:Nat) _ _ (p.mb 2 (Z0 o)) w0 hT (W8 ho h8 h5) (z9 ho (by omega) (by omega)) (hE.mem.rob (hp.hM 2 (Z0 o) (by decide) (by decide) (N0 o))) hC (fun u F' hl=>?_)) fun e u he=>?_
 ·obtain⟨r1,rfl,hM⟩:=x8 hl;obtain⟨_,hh⟩:=hM.hS 2 (Z0 o) (by decide) (by decide) (N0 o);exact⟨_,_,hh⟩
 ·cases e with
  |outgrown=>exact he
  |panicked ch=>exact he
  |returned v=>
   obtain⟨rfl,u0,F',h',r',hg,k6,hB,J3,_⟩:=he;obtain⟨r1,rfl,p7,l8,hl⟩:=H4 hp hc ho hg.goes;obtain⟨_,hS1⟩:=p7.mem.hS 2 (Z0 o) (by decide) (by decide) (N0 o);obtain⟨rfl,rfl⟩:=iq0 k6 hS1;refine⟨_,r1,?_,l8.k5 J3 trivial,hl,rfl,by rw[Pc0 h8 hP]⟩;rw[Pc0 h8 hP];exact⟨hp,p7.mem.set hp (sa:=sa) (by decide) (by decide) (N0 o) (y9.of J3) (.inl rfl) (by unfold c7 prd;simp only[R4];exact hB) rfl fun _ _ _ _ _ _ h=>Bb0 h⟩
theorem r5 {p:r4} {w:World} {s:PS} {r:B5} (h:V8 p w s r) {t n:Nat} (h1:1 <=t) (h5:t <=5) (hn:n<2):w.cell? ⟨p.tb,2*(t-1)+n*1,none⟩=some (.pointer (some ⟨pob p t n,0,none⟩)):=by
 have hB:=h.mem.rob h.ok.hT;have e1:(2*(t-1)+n*1)/2+1=t:=by omega
 have e2:(2*(t-1)+n*1)%2=n:=by omega
 refine S0.F0 hB _ ((am0 (by omega)).trans ?_);rw[e1,e2]
theorem Mr0 (x:Int):Int.tmod (IntKind.i64.wrap (Int.tmod x 2+2)) 2=((x%2).toNat:Nat):=by
 have h1:=Int.tmod_lt_of_pos x (b:=2) (by decide);have h2:=Int.lt_tmod_of_pos x (b:=2) (by decide);have e1:IntKind.i64.wrap (Int.tmod x 2+2)=Int.tmod x 2+2:=by simp[IntKind.wrap,IntKind.signed,IntKind.bits];omega
 rw[e1];have e2:Int.tmod (Int.tmod x 2+2) 2=x%2:=by
  rw[Int.tmod_eq_emod_of_nonneg (by omega)];rw[Int.tmod_eq_emod];split <;> omega
 rw[e2];omega
section
variable [Ctx prog]
theorem W5 (o:V2) (w0:World):C prog 15 #[.agg #[.int .i64 o.A5,.int .i64 o.jn0,.int .i64 o.call,.int .i64 o.val]] w0 fun v w=>v= .int .i64 (Z0 o:Nat)/\Below w0.heap.size w0 w:=by
 refine C.enter (n:=8) func15 rfl rfl ?_;refine U511 ?_;intro hb w b1 F1;have lt1:=F1.lq hb.size;have hb:=O0 hb F1.below;have hB1:=F1.blk;refine U253 ?_;refine L.va (E0 rfl underlying3 rfl (hB1.F0 1 (v:=.int .i64 o.jn0) rfl)) ?_;refine L.va (pz0 (κ:=.i64) rfl rfl (by decide)) ?_;refine L.va (fx0 (κ:=.i64) rfl rfl) ?_;refine L.va (pz0 (κ:=.i64) rfl rfl (by decide)) ?_;refine U33 ?_;exact⟨by show(Value.int .i64 (Int.tmod (IntKind.i64.wrap (Int.tmod o.jn0 2+2)) 2))=_;rw[Mr0];rfl,hb⟩
end
set_option maxHeartbeats 1000000 in
theorem Ic0 {p:r4} {fb:Nat->FuncId} {q:PR (I3 p)} {w00:World} {i cb:Nat} {top:List Frame} {s:PS} {r:B5} {k:Nat} (wh vv:Int) (w0:World) (hE:V8 p w0 s r) (hc:w9 (r2 p fb q w00 i cb top) w0 (o4 (p.bo i) k s)) (ho:(p.bo i)[k]? =some (⟨1,wh,1,vv⟩:V2)) :
  @Calls prog (J0 (r2 p fb q w00 i cb top)) 39 #[.pointer (some ⟨p.tb,0,none⟩),.pointer (some ⟨cb,0,none⟩),.agg #[.int .i64 1,.int .i64 wh,.int .i64 1,.int .i64 vv]] w0 (l6 p fb q w00 i cb top k (⟨1,wh,1,vv⟩:V2) w0 fun v x=>v= .int .i64 x):=by
 letI:Ctx prog:=J0 (r2 p fb q w00 i cb top);refine U12 ?_;intro X8 m6;refine L.box (cs:=#[.int .i64 1,.int .i64 wh,.int .i64 1,.int .i64 vv]) rfl rfl (fun w b5 F5=>?_);refine U14 ?_;intro lt5 hE hc P2;refine L.va (E1 (cs:=[.int .i64 1,.int .i64 wh,.int .i64 1,.int .i64 vv]) rfl underlying52 rfl R5 rfl (P2.N5 rfl)) ?_;refine L.call (D2 rfl func15 rfl cp0 rfl) (W5 (⟨1,wh,1,vv⟩:V2) w) ?_;rintro _ w ⟨rfl,j2⟩;refine U11 ?_;intro hE hc P2;refine U479 ?_;refine U26 ?_;refine U239 ?_;refine U483 ?_;refine L.va (W1 (r:=true) (by decide) (n3 (m:=1) (k:=1) rfl rfl)) ?_;refine U51 ?_;refine U529 ?_;refine L.va (P1 (i:=Z0 (⟨1,wh,1,vv⟩:V2)) (n:=2) rfl rfl underlying62 Cb0 (N0 _)) ?_;refine L.va (E0 (v:=.pointer (some ⟨p.mb 1 (Z0 (⟨1,wh,1,vv⟩:V2)),0,none⟩)) rfl underlying61 rfl (r5 hE (t:=1) (n:=Z0 (⟨1,wh,1,vv⟩:V2)) (by decide) (by decide) (N0 _))) ?_;refine L.va (K3 rfl) ?_;rw[p5 ho]at hc;have X4:=Ia0 hE.ok w hE hc ho rfl rfl;refine L.W3 rfl (E4 rfl rfl func20 rfl bp1 rfl) X4 ?_ ?_ (fun _ h=>h)
 rotate_left
 ·rintro ch u ⟨R6,hh⟩;exact⟨R6,hh.at (hc.os.trans X8.symm) (hc.output.trans m6.symm)⟩
 rintro _ w ⟨s1,r1,p7,l8,hl1,rfl,hx⟩;refine U106 ?_;refine U40 ?_;exact⟨s1,r1,p7,l8,hl1,by show(Value.int .i64 0)= .int .i64 (X9 (⟨1,wh,1,vv⟩:V2) s1).2;rw[hx]⟩
set_option maxHeartbeats 1000000 in
theorem Id0 {p:r4} {fb:Nat->FuncId} {q:PR (I3 p)} {w00:World} {i cb:Nat} {top:List Frame} {s:PS} {r:B5} {k:Nat} (wh vv:Int) (w0:World) (hE:V8 p w0 s r) (hc:w9 (r2 p fb q w00 i cb top) w0 (o4 (p.bo i) k s)) (ho:(p.bo i)[k]? =some (⟨1,wh,2,vv⟩:V2)) :
  @Calls prog (J0 (r2 p fb q w00 i cb top)) 39 #[.pointer (some ⟨p.tb,0,none⟩),.pointer (some ⟨cb,0,none⟩),.agg #[.int .i64 1,.int .i64 wh,.int .i64 2,.int .i64 vv]] w0 (l6 p fb q w00 i cb top k (⟨1,wh,2,vv⟩:V2) w0 fun v x=>v= .int .i64 x):=by
 letI:Ctx prog:=J0 (r2 p fb q w00 i cb top);refine U12 ?_;intro X8 m6;refine L.box (cs:=#[.int .i64 1,.int .i64 wh,.int .i64 2,.int .i64 vv]) rfl rfl (fun w b5 F5=>?_);refine U14 ?_;intro lt5 hE hc P2;refine L.va (E1 (cs:=[.int .i64 1,.int .i64 wh,.int .i64 2,.int .i64 vv]) rfl underlying52 rfl R5 rfl (P2.N5 rfl)) ?_;refine L.call (D2 rfl func15 rfl cp0 rfl) (W5 (⟨1,wh,2,vv⟩:V2) w) ?_;rintro _ w ⟨rfl,j2⟩;refine U11 ?_;intro hE hc P2;refine U479 ?_;refine U26 ?_;refine U239 ?_;refine U481 ?_;refine L.va (W1 (r:=false) (by decide) (n3 (m:=2) (k:=1) rfl rfl)) ?_;refine U250 ?_;refine W.region rfl ?_;refine U529 ?_;refine L.va (P1 (i:=Z0 (⟨1,wh,2,vv⟩:V2)) (n:=2) rfl rfl underlying62 Cb0 (N0 _)) ?_;refine L.va (E0 (v:=.pointer (some ⟨p.mb 1 (Z0 (⟨1,wh,2,vv⟩:V2)),0,none⟩)) rfl underlying61 rfl (r5 hE (t:=1) (n:=Z0 (⟨1,wh,2,vv⟩:V2)) (by decide) (by decide) (N0 _))) ?_;refine L.va (K3 rfl) ?_;rw[p5 ho]at hc;have X4:=yu0 hE.ok w hE hc ho rfl rfl;refine L.W3 rfl (E4 rfl rfl func23 rfl bs1 rfl) X4 ?_ ?_ (fun _ h=>h)
 rotate_left
 ·rintro ch u ⟨R6,hh⟩;exact⟨R6,hh.at (hc.os.trans X8.symm) (hc.output.trans m6.symm)⟩
 rintro _ w ⟨s1,r1,p7,l8,hl1,rfl,hx⟩;refine U106 ?_;refine U40 ?_;exact⟨s1,r1,p7,l8,hl1,by show(Value.int .i64 0)= .int .i64 (X9 (⟨1,wh,2,vv⟩:V2) s1).2;rw[hx]⟩
set_option maxHeartbeats 1000000 in
theorem Ie0 {p:r4} {fb:Nat->FuncId} {q:PR (I3 p)} {w00:World} {i cb:Nat} {top:List Frame} {s:PS} {r:B5} {k:Nat} (wh vv:Int) (w0:World) (hE:V8 p w0 s r) (hc:w9 (r2 p fb q w00 i cb top) w0 (o4 (p.bo i) k s)) (ho:(p.bo i)[k]? =some (⟨2,wh,1,vv⟩:V2)) :
  @Calls prog (J0 (r2 p fb q w00 i cb top)) 39 #[.pointer (some ⟨p.tb,0,none⟩),.pointer (some ⟨cb,0,none⟩),.agg #[.int .i64 2,.int .i64 wh,.int .i64 1,.int .i64 vv]] w0 (l6 p fb q w00 i cb top k (⟨2,wh,1,vv⟩:V2) w0 fun v x=>v= .int .i64 x):=by
 letI:Ctx prog:=J0 (r2 p fb q w00 i cb top);refine U12 ?_;intro X8 m6;refine L.box (cs:=#[.int .i64 2,.int .i64 wh,.int .i64 1,.int .i64 vv]) rfl rfl (fun w b5 F5=>?_);refine U14 ?_;intro lt5 hE hc P2;refine L.va (E1 (cs:=[.int .i64 2,.int .i64 wh,.int .i64 1,.int .i64 vv]) rfl underlying52 rfl R5 rfl (P2.N5 rfl)) ?_;refine L.call (D2 rfl func15 rfl cp0 rfl) (W5 (⟨2,wh,1,vv⟩:V2) w) ?_;rintro _ w ⟨rfl,j2⟩;refine U11 ?_;intro hE hc P2;refine U149 ?_;refine U119 ?_;refine U483 ?_;refine U26 ?_;refine U239 ?_;refine U178 ?_;refine L.va (P1 (i:=Z0 (⟨2,wh,1,vv⟩:V2)) (n:=2) rfl rfl underlying64 vu0 (N0 _)) ?_;refine L.va (E0 (v:=.pointer (some ⟨p.mb 2 (Z0 (⟨2,wh,1,vv⟩:V2)),0,none⟩)) rfl underlying63 rfl (r5 hE (t:=2) (n:=Z0 (⟨2,wh,1,vv⟩:V2)) (by decide) (by decide) (N0 _))) ?_;refine L.va (K3 rfl) ?_;rw[p5 ho]at hc;have X4:=Ib0 hE.ok w hE hc ho rfl rfl;refine L.W3 rfl (E4 rfl rfl func25 rfl bu1 rfl) X4 ?_ ?_ (fun _ h=>h)
 rotate_left
 ·rintro ch u ⟨R6,hh⟩;exact⟨R6,hh.at (hc.os.trans X8.symm) (hc.output.trans m6.symm)⟩
 rintro _ w ⟨s1,r1,p7,l8,hl1,rfl,hx⟩;refine U187 ?_;refine U40 ?_;exact⟨s1,r1,p7,l8,hl1,by show(Value.int .i64 0)= .int .i64 (X9 (⟨2,wh,1,vv⟩:V2) s1).2;rw[hx]⟩
set_option maxHeartbeats 1000000 in
theorem If0 {p:r4} {fb:Nat->FuncId} {q:PR (I3 p)} {w00:World} {i cb:Nat} {top:List Frame} {s:PS} {r:B5} {k:Nat} (wh vv:Int) (w0:World) (hE:V8 p w0 s r) (hc:w9 (r2 p fb q w00 i cb top) w0 (o4 (p.bo i) k s)) (ho:(p.bo i)[k]? =some (⟨2,wh,2,vv⟩:V2)) :
  @Calls prog (J0 (r2 p fb q w00 i cb top)) 39 #[.pointer (some ⟨p.tb,0,none⟩),.pointer (some ⟨cb,0,none⟩),.agg #[.int .i64 2,.int .i64 wh,.int .i64 2,.int .i64 vv]] w0 (l6 p fb q w00 i cb top k (⟨2,wh,2,vv⟩:V2) w0 fun v x=>v= .int .i64 x):=by
 letI:Ctx prog:=J0 (r2 p fb q w00 i cb top);refine U12 ?_;intro X8 m6;refine L.box (cs:=#[.int .i64 2,.int .i64 wh,.int .i64 2,.int .i64 vv]) rfl rfl (fun w b5 F5=>?_);refine U14 ?_;intro lt5 hE hc P2;refine L.va (E1 (cs:=[.int .i64 2,.int .i64 wh,.int .i64 2,.int .i64 vv]) rfl underlying52 rfl R5 rfl (P2.N5 rfl)) ?_;refine L.call (D2 rfl func15 rfl cp0 rfl) (W5 (⟨2,wh,2,vv⟩:V2) w) ?_;rintro _ w ⟨rfl,j2⟩;refine U11 ?_;intro hE hc P2;refine U149 ?_;refine U119 ?_;refine U481 ?_;refine U119 ?_;refine U178 ?_;refine L.va (P1 (i:=Z0 (⟨2,wh,2,vv⟩:V2)) (n:=2) rfl rfl underlying64 vu0 (N0 _)) ?_;refine L.va (E0 (v:=.pointer (some ⟨p.mb 2 (Z0 (⟨2,wh,2,vv⟩:V2)),0,none⟩)) rfl underlying63 rfl (r5 hE (t:=2) (n:=Z0 (⟨2,wh,2,vv⟩:V2)) (by decide) (by decide) (N0 _))) ?_;refine L.va (K3 rfl) ?_;rw[p5 ho]at hc;have X4:=yv0 hE.ok w hE hc ho rfl rfl;refine L.W3 rfl (E4 rfl rfl func27 rfl bw1 rfl) X4 ?_ ?_ (fun _ h=>h)
 rotate_left
 ·rintro ch u ⟨R6,hh⟩;exact⟨R6,hh.at (hc.os.trans X8.symm) (hc.output.trans m6.symm)⟩
 rintro _ w ⟨s1,r1,p7,l8,hl1,rfl,hx⟩;refine U187 ?_;refine U40 ?_;exact⟨s1,r1,p7,l8,hl1,by show(Value.int .i64 0)= .int .i64 (X9 (⟨2,wh,2,vv⟩:V2) s1).2;rw[hx]⟩
set_option maxHeartbeats 1000000 in
theorem Ig0 {p:r4} {fb:Nat->FuncId} {q:PR (I3 p)} {w00:World} {i cb:Nat} {top:List Frame} {s:PS} {r:B5} {k:Nat} (wh vv:Int) (w0:World) (hE:V8 p w0 s r) (hc:w9 (r2 p fb q w00 i cb top) w0 (o4 (p.bo i) k s)) (ho:(p.bo i)[k]? =some (⟨2,wh,3,vv⟩:V2)) :
  @Calls prog (J0 (r2 p fb q w00 i cb top)) 39 #[.pointer (some ⟨p.tb,0,none⟩),.pointer (some ⟨cb,0,none⟩),.agg #[.int .i64 2,.int .i64 wh,.int .i64 3,.int .i64 vv]] w0 (l6 p fb q w00 i cb top k (⟨2,wh,3,vv⟩:V2) w0 fun v x=>v= .int .i64 x):=by
 letI:Ctx prog:=J0 (r2 p fb q w00 i cb top);refine U12 ?_;intro X8 m6;refine L.box (cs:=#[.int .i64 2,.int .i64 wh,.int .i64 3,.int .i64 vv]) rfl rfl (fun w b5 F5=>?_);refine U14 ?_;intro lt5 hE hc P2;refine L.va (E1 (cs:=[.int .i64 2,.int .i64 wh,.int .i64 3,.int .i64 vv]) rfl underlying52 rfl R5 rfl (P2.N5 rfl)) ?_;refine L.call (D2 rfl func15 rfl cp0 rfl) (W5 (⟨2,wh,3,vv⟩:V2) w) ?_;rintro _ w ⟨rfl,j2⟩;refine U11 ?_;intro hE hc P2;refine U149 ?_;refine U119 ?_;refine U16 ?_;refine L.va (E0 rfl underlying3 rfl (P2.F0 2 (v:=.int .i64 3) rfl)) ?_;refine U237 ?_;refine U233 ?_;refine U5 ?_;refine U241 ?_;refine U178 ?_;refine L.va (P1 (i:=Z0 (⟨2,wh,3,vv⟩:V2)) (n:=2) rfl rfl underlying64 vu0 (N0 _)) ?_;refine L.va (E0 (v:=.pointer (some ⟨p.mb 2 (Z0 (⟨2,wh,3,vv⟩:V2)),0,none⟩)) rfl underlying63 rfl (r5 hE (t:=2) (n:=Z0 (⟨2,wh,3,vv⟩:V2)) (by decide) (by decide) (N0 _))) ?_;refine L.va (K3 rfl) ?_;rw[p5 ho]at hc;have X4:=Cs0 hE.ok w hE hc ho rfl rfl;refine L.W3 rfl (E4 rfl rfl func28 rfl bx1 rfl) X4 ?_ ?_ (fun _ h=>h)
 rotate_left
 ·rintro ch u ⟨R6,hh⟩;exact⟨R6,hh.at (hc.os.trans X8.symm) (hc.output.trans m6.symm)⟩
 rintro _ w ⟨s1,r1,p7,l8,hl1,rfl,hx⟩;refine U187 ?_;refine U40 ?_;exact⟨s1,r1,p7,l8,hl1,by show(Value.int .i64 0)= .int .i64 (X9 (⟨2,wh,3,vv⟩:V2) s1).2;rw[hx]⟩
set_option maxHeartbeats 1000000 in
theorem Ih0 {p:r4} {fb:Nat->FuncId} {q:PR (I3 p)} {w00:World} {i cb:Nat} {top:List Frame} {s:PS} {r:B5} {k:Nat} (wh vv:Int) (w0:World) (hE:V8 p w0 s r) (hc:w9 (r2 p fb q w00 i cb top) w0 (o4 (p.bo i) k s)) (ho:(p.bo i)[k]? =some (⟨2,wh,4,vv⟩:V2)) :
  @Calls prog (J0 (r2 p fb q w00 i cb top)) 39 #[.pointer (some ⟨p.tb,0,none⟩),.pointer (some ⟨cb,0,none⟩),.agg #[.int .i64 2,.int .i64 wh,.int .i64 4,.int .i64 vv]] w0 (l6 p fb q w00 i cb top k (⟨2,wh,4,vv⟩:V2) w0 fun v x=>v= .int .i64 x):=by
 letI:Ctx prog:=J0 (r2 p fb q w00 i cb top);refine U12 ?_;intro X8 m6;refine L.box (cs:=#[.int .i64 2,.int .i64 wh,.int .i64 4,.int .i64 vv]) rfl rfl (fun w b5 F5=>?_);refine U14 ?_;intro lt5 hE hc P2;refine L.va (E1 (cs:=[.int .i64 2,.int .i64 wh,.int .i64 4,.int .i64 vv]) rfl underlying52 rfl R5 rfl (P2.N5 rfl)) ?_;refine L.call (D2 rfl func15 rfl cp0 rfl) (W5 (⟨2,wh,4,vv⟩:V2) w) ?_;rintro _ w ⟨rfl,j2⟩;refine U11 ?_;intro hE hc P2;refine U149 ?_;refine U119 ?_;refine U16 ?_;refine L.va (E0 rfl underlying3 rfl (P2.F0 2 (v:=.int .i64 4) rfl)) ?_;refine U236 ?_;refine U234 ?_;refine U235 ?_;refine U5 ?_;refine U240 ?_;refine U178 ?_;refine L.va (P1 (i:=Z0 (⟨2,wh,4,vv⟩:V2)) (n:=2) rfl rfl underlying64 vu0 (N0 _)) ?_;refine L.va (E0 (v:=.pointer (some ⟨p.mb 2 (Z0 (⟨2,wh,4,vv⟩:V2)),0,none⟩)) rfl underlying63 rfl (r5 hE (t:=2) (n:=Z0 (⟨2,wh,4,vv⟩:V2)) (by decide) (by decide) (N0 _))) ?_;refine L.va (K3 rfl) ?_;rw[p5 ho]at hc;have X4:=wq0 hE.ok w hE hc ho rfl rfl;refine L.W3 rfl (E4 rfl rfl func30 rfl bz1 rfl) X4 ?_ ?_ (fun _ h=>h)
 rotate_left
 ·rintro ch u ⟨R6,hh⟩;exact⟨R6,hh.at (hc.os.trans X8.symm) (hc.output.trans m6.symm)⟩
 rintro _ w ⟨s1,r1,p7,l8,hl1,rfl,hx⟩;refine U187 ?_;refine U40 ?_;exact⟨s1,r1,p7,l8,hl1,by show(Value.int .i64 0)= .int .i64 (X9 (⟨2,wh,4,vv⟩:V2) s1).2;rw[hx]⟩
set_option maxHeartbeats 1000000 in
theorem Ii0 {p:r4} {fb:Nat->FuncId} {q:PR (I3 p)} {w00:World} {i cb:Nat} {top:List Frame} {s:PS} {r:B5} {k:Nat} (wh vv:Int) (w0:World) (hE:V8 p w0 s r) (hc:w9 (r2 p fb q w00 i cb top) w0 (o4 (p.bo i) k s)) (ho:(p.bo i)[k]? =some (⟨3,wh,7,vv⟩:V2)) :
  @Calls prog (J0 (r2 p fb q w00 i cb top)) 39 #[.pointer (some ⟨p.tb,0,none⟩),.pointer (some ⟨cb,0,none⟩),.agg #[.int .i64 3,.int .i64 wh,.int .i64 7,.int .i64 vv]] w0 (l6 p fb q w00 i cb top k (⟨3,wh,7,vv⟩:V2) w0 fun v x=>v= .int .i64 x):=by
 letI:Ctx prog:=J0 (r2 p fb q w00 i cb top);refine U12 ?_;intro X8 m6;refine L.box (cs:=#[.int .i64 3,.int .i64 wh,.int .i64 7,.int .i64 vv]) rfl rfl (fun w b5 F5=>?_);refine U14 ?_;intro lt5 hE hc P2;refine L.va (E1 (cs:=[.int .i64 3,.int .i64 wh,.int .i64 7,.int .i64 vv]) rfl underlying52 rfl R5 rfl (P2.N5 rfl)) ?_;refine L.call (D2 rfl func15 rfl cp0 rfl) (W5 (⟨3,wh,7,vv⟩:V2) w) ?_;rintro _ w ⟨rfl,j2⟩;refine U11 ?_;intro hE hc P2;refine U484 ?_;refine U237 ?_;refine U233 ?_;refine U5 ?_;refine U241 ?_;refine U81 ?_;refine L.va (E0 rfl underlying3 rfl (P2.F0 2 (v:=.int .i64 7) rfl)) ?_;refine L.va (W1 (r:=true) (by decide) (n3 (m:=7) (k:=7) rfl rfl)) ?_;refine U45 ?_;refine W.seq ?_;refine U210 ?_;refine U243 ?_;refine D.va (fun w' V1=>(K0 rfl underlying72 rfl Qp0 (by decide))) ?_;refine D.va (fun w' V1=>(P1 (i:=Z0 (⟨3,wh,7,vv⟩:V2)) (n:=2) rfl rfl underlying66 Cc0 (N0 _))) ?_;refine D.va (fun w' V1=>(E0 (v:=.pointer (some ⟨p.sb 3 (Z0 (⟨3,wh,7,vv⟩:V2)),0,none⟩)) rfl underlying65 rfl (r5 (hE.A0 V1) (t:=3) (n:=Z0 (⟨3,wh,7,vv⟩:V2)) (by decide) (by decide) (N0 _)))) ?_;refine U259 ?_;refine D.nil (fun w j2=>?_);refine U103 ?_;intro hE hc;clear j2;rw[p5 ho]at hc;have X4:=Mq0 hE.ok w hE hc ho rfl rfl;refine L.W3 rfl (S7 rfl rfl rfl func24 rfl bt1 rfl) X4 ?_ ?_ (fun _ h=>h)
 rotate_left
 ·rintro ch u ⟨R6,hh⟩;exact⟨R6,hh.at (hc.os.trans X8.symm) (hc.output.trans m6.symm)⟩
 rintro _ w ⟨s1,r1,p7,l8,hl1,rfl⟩;exact U182
set_option maxHeartbeats 1000000 in
theorem Ij0 {p:r4} {fb:Nat->FuncId} {q:PR (I3 p)} {w00:World} {i cb:Nat} {top:List Frame} {s:PS} {r:B5} {k:Nat} (wh vv:Int) (w0:World) (hE:V8 p w0 s r) (hc:w9 (r2 p fb q w00 i cb top) w0 (o4 (p.bo i) k s)) (ho:(p.bo i)[k]? =some (⟨3,wh,5,vv⟩:V2)) :
  @Calls prog (J0 (r2 p fb q w00 i cb top)) 39 #[.pointer (some ⟨p.tb,0,none⟩),.pointer (some ⟨cb,0,none⟩),.agg #[.int .i64 3,.int .i64 wh,.int .i64 5,.int .i64 vv]] w0 (l6 p fb q w00 i cb top k (⟨3,wh,5,vv⟩:V2) w0 fun v x=>v= .int .i64 x):=by
 letI:Ctx prog:=J0 (r2 p fb q w00 i cb top);refine U12 ?_;intro X8 m6;refine L.box (cs:=#[.int .i64 3,.int .i64 wh,.int .i64 5,.int .i64 vv]) rfl rfl (fun w b5 F5=>?_);refine U14 ?_;intro lt5 hE hc P2;refine L.va (E1 (cs:=[.int .i64 3,.int .i64 wh,.int .i64 5,.int .i64 vv]) rfl underlying52 rfl R5 rfl (P2.N5 rfl)) ?_;refine L.call (D2 rfl func15 rfl cp0 rfl) (W5 (⟨3,wh,5,vv⟩:V2) w) ?_;rintro _ w ⟨rfl,j2⟩;refine U11 ?_;intro hE hc P2;refine U484 ?_;refine U237 ?_;refine U233 ?_;refine U5 ?_;refine U241 ?_;refine U485 ?_;refine L.va (W1 (r:=false) (by decide) (n3 (m:=5) (k:=7) rfl rfl)) ?_;refine U62 ?_;refine U101 ?_;refine L.va (K0 rfl underlying72 rfl Qp0 (by decide)) ?_;refine L.va (P1 (i:=Z0 (⟨3,wh,5,vv⟩:V2)) (n:=2) rfl rfl underlying66 Cc0 (N0 _)) ?_;refine L.va (E0 (v:=.pointer (some ⟨p.sb 3 (Z0 (⟨3,wh,5,vv⟩:V2)),0,none⟩)) rfl underlying65 rfl (r5 hE (t:=3) (n:=Z0 (⟨3,wh,5,vv⟩:V2)) (by decide) (by decide) (N0 _))) ?_;refine L.va (K3 rfl) ?_;rw[p5 ho]at hc;have X4:=Mn0 hE.ok w hE hc ho rfl rfl;refine L.W3 rfl (E4 rfl rfl func34 rfl cb1 rfl) X4 ?_ ?_ (fun _ h=>h)
 rotate_left
 ·rintro ch u ⟨R6,hh⟩;exact⟨R6,hh.at (hc.os.trans X8.symm) (hc.output.trans m6.symm)⟩
 rintro _ w ⟨s1,r1,p7,l8,hl1,rfl⟩;exact U182
set_option maxHeartbeats 1000000 in
theorem Ik0 {p:r4} {fb:Nat->FuncId} {q:PR (I3 p)} {w00:World} {i cb:Nat} {top:List Frame} {s:PS} {r:B5} {k:Nat} (wh vv:Int) (w0:World) (hE:V8 p w0 s r) (hc:w9 (r2 p fb q w00 i cb top) w0 (o4 (p.bo i) k s)) (ho:(p.bo i)[k]? =some (⟨4,wh,5,vv⟩:V2)) :
  @Calls prog (J0 (r2 p fb q w00 i cb top)) 39 #[.pointer (some ⟨p.tb,0,none⟩),.pointer (some ⟨cb,0,none⟩),.agg #[.int .i64 4,.int .i64 wh,.int .i64 5,.int .i64 vv]] w0 (l6 p fb q w00 i cb top k (⟨4,wh,5,vv⟩:V2) w0 fun v x=>v= .int .i64 x):=by
 letI:Ctx prog:=J0 (r2 p fb q w00 i cb top);refine U12 ?_;intro X8 m6;refine L.box (cs:=#[.int .i64 4,.int .i64 wh,.int .i64 5,.int .i64 vv]) rfl rfl (fun w b5 F5=>?_);refine U14 ?_;intro lt5 hE hc P2;refine L.va (E1 (cs:=[.int .i64 4,.int .i64 wh,.int .i64 5,.int .i64 vv]) rfl underlying52 rfl R5 rfl (P2.N5 rfl)) ?_;refine L.call (D2 rfl func15 rfl cp0 rfl) (W5 (⟨4,wh,5,vv⟩:V2) w) ?_;rintro _ w ⟨rfl,j2⟩;refine U11 ?_;intro hE hc P2;refine U482 ?_;refine U236 ?_;refine U234 ?_;refine U235 ?_;refine U5 ?_;refine U240 ?_;refine U485 ?_;refine L.va (W1 (r:=true) (by decide) (n3 (m:=5) (k:=5) rfl rfl)) ?_;refine U45 ?_;refine U2 ?_;refine U101 ?_;refine L.va (K0 rfl underlying72 rfl Qq0 (by decide)) ?_;refine L.va (P1 (i:=Z0 (⟨4,wh,5,vv⟩:V2)) (n:=2) rfl rfl underlying68 Cd0 (N0 _)) ?_;refine L.va (E0 (v:=.pointer (some ⟨p.sb 4 (Z0 (⟨4,wh,5,vv⟩:V2)),0,none⟩)) rfl underlying67 rfl (r5 hE (t:=4) (n:=Z0 (⟨4,wh,5,vv⟩:V2)) (by decide) (by decide) (N0 _))) ?_;refine L.va (K3 rfl) ?_;rw[p5 ho]at hc;have X4:=Mm0 hE.ok w hE hc ho rfl rfl;refine L.W3 rfl (E4 rfl rfl func29 rfl by1 rfl) X4 ?_ ?_ (fun _ h=>h)
 rotate_left
 ·rintro ch u ⟨R6,hh⟩;exact⟨R6,hh.at (hc.os.trans X8.symm) (hc.output.trans m6.symm)⟩
 rintro _ w ⟨s1,r1,p7,l8,hl1,rfl⟩;exact U182
set_option maxHeartbeats 1000000 in
theorem Il0 {p:r4} {fb:Nat->FuncId} {q:PR (I3 p)} {w00:World} {i cb:Nat} {top:List Frame} {s:PS} {r:B5} {k:Nat} (wh vv:Int) (w0:World) (hE:V8 p w0 s r) (hc:w9 (r2 p fb q w00 i cb top) w0 (o4 (p.bo i) k s)) (ho:(p.bo i)[k]? =some (⟨4,wh,6,vv⟩:V2)) :
  @Calls prog (J0 (r2 p fb q w00 i cb top)) 39 #[.pointer (some ⟨p.tb,0,none⟩),.pointer (some ⟨cb,0,none⟩),.agg #[.int .i64 4,.int .i64 wh,.int .i64 6,.int .i64 vv]] w0 (l6 p fb q w00 i cb top k (⟨4,wh,6,vv⟩:V2) w0 fun v x=>v= .int .i64 x):=by
 letI:Ctx prog:=J0 (r2 p fb q w00 i cb top);refine U12 ?_;intro X8 m6;refine L.box (cs:=#[.int .i64 4,.int .i64 wh,.int .i64 6,.int .i64 vv]) rfl rfl (fun w b5 F5=>?_);refine U14 ?_;intro lt5 hE hc P2;refine L.va (E1 (cs:=[.int .i64 4,.int .i64 wh,.int .i64 6,.int .i64 vv]) rfl underlying52 rfl R5 rfl (P2.N5 rfl)) ?_;refine L.call (D2 rfl func15 rfl cp0 rfl) (W5 (⟨4,wh,6,vv⟩:V2) w) ?_;rintro _ w ⟨rfl,j2⟩;refine U11 ?_;intro hE hc P2;refine U482 ?_;refine U236 ?_;refine U234 ?_;refine U235 ?_;refine U5 ?_;refine U240 ?_;refine U81 ?_;refine L.va (E0 rfl underlying3 rfl (P2.F0 2 (v:=.int .i64 6) rfl)) ?_;refine L.va (W1 (r:=false) (by decide) (n3 (m:=6) (k:=5) rfl rfl)) ?_;refine U105 ?_;refine U210 ?_;refine U243 ?_;refine D.va (fun w' V1=>(K0 rfl underlying72 rfl Qq0 (by decide))) ?_;refine D.va (fun w' V1=>(P1 (i:=Z0 (⟨4,wh,6,vv⟩:V2)) (n:=2) rfl rfl underlying68 Cd0 (N0 _))) ?_;refine D.va (fun w' V1=>(E0 (v:=.pointer (some ⟨p.sb 4 (Z0 (⟨4,wh,6,vv⟩:V2)),0,none⟩)) rfl underlying67 rfl (r5 (hE.A0 V1) (t:=4) (n:=Z0 (⟨4,wh,6,vv⟩:V2)) (by decide) (by decide) (N0 _)))) ?_;refine U259 ?_;refine D.nil (fun w j2=>?_);refine U103 ?_;intro hE hc;clear j2;rw[p5 ho]at hc;have X4:=Mp0 hE.ok w hE hc ho rfl rfl;refine L.W3 rfl (S7 rfl rfl rfl func26 rfl bv1 rfl) X4 ?_ ?_ (fun _ h=>h)
 rotate_left
 ·rintro ch u ⟨R6,hh⟩;exact⟨R6,hh.at (hc.os.trans X8.symm) (hc.output.trans m6.symm)⟩
 rintro _ w ⟨s1,r1,p7,l8,hl1,rfl,hx⟩;refine U106 ?_;refine U40 ?_;exact⟨s1,r1,p7,l8,hl1,by show(Value.int .i64 0)= .int .i64 (X9 (⟨4,wh,6,vv⟩:V2) s1).2;rw[hx]⟩
set_option maxHeartbeats 1000000 in
theorem Im0 {p:r4} {fb:Nat->FuncId} {q:PR (I3 p)} {w00:World} {i cb:Nat} {top:List Frame} {s:PS} {r:B5} {k:Nat} (wh vv:Int) (w0:World) (hE:V8 p w0 s r) (hc:w9 (r2 p fb q w00 i cb top) w0 (o4 (p.bo i) k s)) (ho:(p.bo i)[k]? =some (⟨5,wh,8,vv⟩:V2)) :
  @Calls prog (J0 (r2 p fb q w00 i cb top)) 39 #[.pointer (some ⟨p.tb,0,none⟩),.pointer (some ⟨cb,0,none⟩),.agg #[.int .i64 5,.int .i64 wh,.int .i64 8,.int .i64 vv]] w0 (l6 p fb q w00 i cb top k (⟨5,wh,8,vv⟩:V2) w0 fun v x=>v= .int .i64 x):=by
 letI:Ctx prog:=J0 (r2 p fb q w00 i cb top);refine U12 ?_;intro X8 m6;refine L.box (cs:=#[.int .i64 5,.int .i64 wh,.int .i64 8,.int .i64 vv]) rfl rfl (fun w b5 F5=>?_);refine U14 ?_;intro lt5 hE hc P2;refine L.va (E1 (cs:=[.int .i64 5,.int .i64 wh,.int .i64 8,.int .i64 vv]) rfl underlying52 rfl R5 rfl (P2.N5 rfl)) ?_;refine L.call (D2 rfl func15 rfl cp0 rfl) (W5 (⟨5,wh,8,vv⟩:V2) w) ?_;rintro _ w ⟨rfl,j2⟩;refine U11 ?_;intro hE hc P2;refine U480 ?_;refine U491 ?_;refine U490 ?_;refine U488 ?_;refine U489 ?_;refine U5 ?_;refine U150 ?_;refine U81 ?_;refine L.va (E0 rfl underlying3 rfl (P2.F0 2 (v:=.int .i64 8) rfl)) ?_;refine L.va (W1 (r:=true) (by decide) (n3 (m:=8) (k:=8) rfl rfl)) ?_;refine U45 ?_;refine U2 ?_;refine U101 ?_;refine L.va (K0 rfl underlying72 rfl Qr0 (by decide)) ?_;refine L.va (P1 (i:=Z0 (⟨5,wh,8,vv⟩:V2)) (n:=2) rfl rfl underlying70 Ce0 (N0 _)) ?_;refine L.va (E0 (v:=.pointer (some ⟨p.sb 5 (Z0 (⟨5,wh,8,vv⟩:V2)),0,none⟩)) rfl underlying69 rfl (r5 hE (t:=5) (n:=Z0 (⟨5,wh,8,vv⟩:V2)) (by decide) (by decide) (N0 _))) ?_;refine L.va (K3 rfl) ?_;rw[p5 ho]at hc;have X4:=Ml0 hE.ok w hE hc ho rfl rfl;refine L.W3 rfl (E4 rfl rfl func22 rfl br1 rfl) X4 ?_ ?_ (fun _ h=>h)
 rotate_left
 ·rintro ch u ⟨R6,hh⟩;exact⟨R6,hh.at (hc.os.trans X8.symm) (hc.output.trans m6.symm)⟩
 rintro _ w ⟨s1,r1,p7,l8,hl1,rfl⟩;exact U182
set_option maxHeartbeats 1000000 in
theorem In0 {p:r4} {fb:Nat->FuncId} {q:PR (I3 p)} {w00:World} {i cb:Nat} {top:List Frame} {s:PS} {r:B5} {k:Nat} (wh vv:Int) (w0:World) (hE:V8 p w0 s r) (hc:w9 (r2 p fb q w00 i cb top) w0 (o4 (p.bo i) k s)) (ho:(p.bo i)[k]? =some (⟨5,wh,9,vv⟩:V2)) :
  @Calls prog (J0 (r2 p fb q w00 i cb top)) 39 #[.pointer (some ⟨p.tb,0,none⟩),.pointer (some ⟨cb,0,none⟩),.agg #[.int .i64 5,.int .i64 wh,.int .i64 9,.int .i64 vv]] w0 (l6 p fb q w00 i cb top k (⟨5,wh,9,vv⟩:V2) w0 fun v x=>v= .int .i64 x):=by
 letI:Ctx prog:=J0 (r2 p fb q w00 i cb top);refine U12 ?_;intro X8 m6;refine L.box (cs:=#[.int .i64 5,.int .i64 wh,.int .i64 9,.int .i64 vv]) rfl rfl (fun w b5 F5=>?_);refine U14 ?_;intro lt5 hE hc P2;refine L.va (E1 (cs:=[.int .i64 5,.int .i64 wh,.int .i64 9,.int .i64 vv]) rfl underlying52 rfl R5 rfl (P2.N5 rfl)) ?_;refine L.call (D2 rfl func15 rfl cp0 rfl) (W5 (⟨5,wh,9,vv⟩:V2) w) ?_;rintro _ w ⟨rfl,j2⟩;refine U11 ?_;intro hE hc P2;refine U480 ?_;refine U491 ?_;refine U490 ?_;refine U488 ?_;refine U489 ?_;refine U5 ?_;refine U150 ?_;refine U81 ?_;refine L.va (E0 rfl underlying3 rfl (P2.F0 2 (v:=.int .i64 9) rfl)) ?_;refine L.va (W1 (r:=false) (by decide) (n3 (m:=9) (k:=8) rfl rfl)) ?_;refine U105 ?_;refine U210 ?_;refine U243 ?_;refine D.va (fun w' V1=>(K0 rfl underlying72 rfl Qr0 (by decide))) ?_;refine D.va (fun w' V1=>(P1 (i:=Z0 (⟨5,wh,9,vv⟩:V2)) (n:=2) rfl rfl underlying70 Ce0 (N0 _))) ?_;refine D.va (fun w' V1=>(E0 (v:=.pointer (some ⟨p.sb 5 (Z0 (⟨5,wh,9,vv⟩:V2)),0,none⟩)) rfl underlying69 rfl (r5 (hE.A0 V1) (t:=5) (n:=Z0 (⟨5,wh,9,vv⟩:V2)) (by decide) (by decide) (N0 _)))) ?_;refine U259 ?_;refine D.nil (fun w j2=>?_);refine U103 ?_;intro hE hc;clear j2;rw[p5 ho]at hc;have X4:=Mo0 hE.ok w hE hc ho rfl rfl;refine L.W3 rfl (S7 rfl rfl rfl func21 rfl bq1 rfl) X4 ?_ ?_ (fun _ h=>h)
 rotate_left
 ·rintro ch u ⟨R6,hh⟩;exact⟨R6,hh.at (hc.os.trans X8.symm) (hc.output.trans m6.symm)⟩
 rintro _ w ⟨s1,r1,p7,l8,hl1,rfl,hx⟩;refine U106 ?_;refine U40 ?_;exact⟨s1,r1,p7,l8,hl1,by show(Value.int .i64 0)= .int .i64 (X9 (⟨5,wh,9,vv⟩:V2) s1).2;rw[hx]⟩
end Go.Vy.Sc
end
section
namespace Go.Vy
open Go Go.Yc Go.RowKit
open Go.Vc
theorem W.fp {P:Program} [Ctx P] {n:Nat} {id:Nat} {l:List Oper} {Q:Exit->Env->World->Prop} {e:Env} {w:World} (k:Nat) (ch aw:List Nat) (os:List Nat) (PQ:List PanicEntry->World->Prop) (K:World->Prop) (hm:P.follows .mixedOrders=true) (hB:Ac0 n l.toArray k=true) (hA:ns0 l k=true) (hk:Nat.ble k l.length=true) (hO:Ab0 l k (fun i=>ch.contains i) os=true) (hal:Vf0 l os (fun i=>aw.contains i)=true)
  (hPQ:∀c w e,PQ c w->Q (.panic c) e w) (hK:K w.drew) (h:FP P n l PQ (fun i=>ch.contains i) (fun i=>aw.contains i) (fun e' w'=>L P n l.toArray Q (l.drop k) e' w') os K e w.drew):W P n (.region id l.toArray true) Q e w:=by
 intro a ha;refine wp_region_draw fun t=>?_;simp only[Region.schedule,hm,Bool.true_or,if_true];have P5:=kx0 l.toArray l.toArray.size t (Array.replicate l.toArray.size false) (by simp) (by simp);unfold Region.linearise;generalize Region.linearise.go .any l.toArray l.toArray.size t (Array.replicate l.toArray.size false) []=σ at P5⊢;exact Nv0 (Ad0 hB) hA (Nat.le_of_ble_eq_true hk) (vj0 (dk0 P5) (fun p hp=>by cases hp) hO) (Ku0 (dk0 P5) hal) P5 (dk0 P5) hPQ hK h ha
end Go.Vy
end
section
namespace Go.Vy.Sc
open Go Go.Conc Go.Yc Go.RowKit Go.Proofs Go.Proofs.YtnifpkopeheodaaGreat Tryz
open Go.Vc Go.Wg
theorem Sj0 {p:r4} {fb:Nat->FuncId} {q:PR (I3 p)} {w00:World} {i cb:Nat} {top:List Frame} {s:PS} {r:B5} {k:Nat} {o:V2} (w0:World) (hE:V8 p w0 s r) (hc:w9 (r2 p fb q w00 i cb top) w0 (o4 (p.bo i) k s)) (ho:(p.bo i)[k]? =some o) :
  @Calls prog (J0 (r2 p fb q w00 i cb top)) 39 #[.pointer (some ⟨p.tb,0,none⟩),.pointer (some ⟨cb,0,none⟩),.agg #[.int .i64 o.A5,.int .i64 o.jn0,.int .i64 o.call,.int .i64 o.val]] w0 (l6 p fb q w00 i cb top k o w0 fun v x=>v= .int .i64 x):=by
 have hk:=hE.ok.ops i o (List.mem_of_getElem? ho);obtain⟨th,wh,ca,vv⟩:=o;rcases hk with⟨h,h2|h2⟩|⟨h,h2|h2|h2|h2⟩|⟨h,h2|h2⟩|⟨h,h2|h2⟩|⟨h,h2|h2⟩ <;> simp only at h h2 <;> subst h <;> subst h2
 ·exact Ic0 wh vv w0 hE hc ho
 ·exact Id0 wh vv w0 hE hc ho
 ·exact Ie0 wh vv w0 hE hc ho
 ·exact If0 wh vv w0 hE hc ho
 ·exact Ig0 wh vv w0 hE hc ho
 ·exact Ih0 wh vv w0 hE hc ho
 ·exact Ij0 wh vv w0 hE hc ho
 ·exact Ii0 wh vv w0 hE hc ho
 ·exact Ik0 wh vv w0 hE hc ho
 ·exact Il0 wh vv w0 hE hc ho
 ·exact Im0 wh vv w0 hE hc ho
 ·exact In0 wh vv w0 hE hc ho
structure fi0 (w:World) (oa:Option Addr) (ops:List V2):Prop where
 sl:SL oa ops.length
 cell:∀(k:Nat) (o:V2),ops[k]? =some o->∀(j:Nat) (v:Value),(yp0 o)[j]? =some v->w.cell? ⟨ab oa,ao oa+k*4+j,none⟩=some v
theorem fi0.A0 {w w':World} {oa:Option Addr} {ops:List V2} (h:fi0 w oa ops) (hb:Below w.heap.size w w'):fi0 w' oa ops:=⟨h.sl,fun k o ho j v hj=>ei0 (h.cell k o ho j v hj) hb⟩
structure ov0 (p:r4) (i ob bp tp:Nat) (oa:Option Addr) (oc:Nat):Prop where
 rob:p.RO ob
 rbp:p.RO bp
 rtp:p.RO tp
 roa:0<(p.bo i).length->p.RO (ab oa)
 hob:S0 p.wI ob #[.slice oa (p.bo i).length oc] 50
 hbp:S0 p.wI bp #[.pointer (some ⟨p.tb,0,none⟩)] 54
 htp:S0 p.wI tp #[.slice (some ⟨p.lgb,0,none⟩) p.m p.m] 31
 ops:fi0 p.wI oa (p.bo i)
 len:(p.bo i).length <=100000
section
variable {p:r4}{w:World}{s:PS}{r:B5}{i ob bp tp oc:Nat}{oa:Option Addr}
theorem ov0.ob_ (h:ov0 p i ob bp tp oa oc) (hE:V8 p w s r):S0 w ob #[.slice oa (p.bo i).length oc] 50:=(hE.mem.ro ob h.rob).trans h.hob
theorem ov0.bp_ (h:ov0 p i ob bp tp oa oc) (hE:V8 p w s r):S0 w bp #[.pointer (some ⟨p.tb,0,none⟩)] 54:=(hE.mem.ro bp h.rbp).trans h.hbp
theorem ov0.tp_ (h:ov0 p i ob bp tp oa oc) (hE:V8 p w s r):S0 w tp #[.slice (some ⟨p.lgb,0,none⟩) p.m p.m] 31:=(hE.mem.ro tp h.rtp).trans h.htp
theorem ov0.ec1 (h:ov0 p i ob bp tp oa oc) (hE:V8 p w s r):fi0 w oa (p.bo i):=⟨h.ops.sl,fun k o ho j v hj=>by
 have hl:0<(p.bo i).length:=by have:=(List.getElem?_eq_some_iff.1 ho).1;omega
 rw[(w5 (u:=p.wI) (u':=w) (a:=⟨ab oa,ao oa+k*4+j,none⟩) (hE.mem.ro _ (h.roa hl))).1];exact h.ops.cell k o ho j v hj⟩
end
theorem Ct0 {K:Q8 prog} {f:FuncId} {args:Array Value} {u:World} (hf:K.Fc0=f) (h:@Calls prog (J0 K) f args u (fun e w=>∃F,K.xt0 w F e)):r8 K (G (Frame.enter prog f args .normal) K.top) u :=
 h (r8 K) rfl K.top fun _e _w' _fr he h3 h4=>.done (h3.trans hf.symm) h4 he.choose_spec
section
variable {p:r4}{w w2 w3:World}{s:PS}{r:B5}
abbrev Io0 (l:List Int):List Value:=l.map (.int .i64 ·)
theorem V8.Sk0 (h:V8 p w s r) {i:Nat} (hi:i<p.m) {la':Option Addr} {lc':Nat} (a:Int)
  (hO:Own w2 p.B 2 1 la' ((s.S2 i).length+1) lc' (Io0 (s.S2 i) ++ [.int .i64 a])) (hga:w.grownBy w2 (Value.ownBlock (.slice (r.la i) (s.S2 i).length (r.lc i)))) (hwh:la'≠none->(r.la i≠none/\ab la'=ab (r.la i))\/w.heap.size <=ab la')
  (hG:S0 w3 p.lgb (arr p.m fun j=>.slice (upN r.la i la' j) (upN s.S2 i (s.S2 i ++ [a]) j).length (upN r.lc i lc' j)) 45) (hg:w2.grownBy w3 (some p.lgb)):V8 p w3 (Y9 i (s,a)) ⟨upN r.la i la',upN r.lc i lc'⟩:=by
 obtain⟨hp,hr⟩:=h;have Yr0:=rz0 (hr.hL i hi);have stay:∀b,b<w.heap.size->b≠p.lgb->(r.la i≠none->b≠ab (r.la i))->w3.heap[b]? =w.heap[b]?:=fun b hb h1 h2=>
  (hg.block b (Nat.lt_of_lt_of_le hb hga.size) (fun e=>h1 (by cases e;rfl))).trans (hga.block b hb (by
   rw[Sh0 Yr0];split
   ·exact fun e=>by cases e
   ·rename_i B3;exact fun e=>h2 B3 (by cases e;rfl)))
 have hlG:p.lgb<w.heap.size:=(T3 hr.hG).lt;have hO3:Own w3 p.B 2 1 la' ((s.S2 i).length+1) lc' (Io0 (s.S2 i) ++ [.int .i64 a]):=hO.grown hg (by
  cases ha:la' with
  |none=>rw[ha]at hO;intro e;have:=wp0 hO;omega
  |some x=>
   have B3:la'≠none:=by rw[ha];simp
   rcases hwh B3 with⟨z1,z2⟩|z
   ·have:ab (r.la i)≠p.lgb:=fun e=>Ay0 (hr.hL i hi) hr.hG (by decide) z1 e.symm;rw[<- ha,z2];intro e;exact this (Option.some.inj e)
   ·rw[<- ha];intro e;have:ab la'=p.lgb:=Option.some.inj e;omega)
 refine⟨hp,⟨fun t n h1 h2 h3=>?_,hG,fun j hj=>?_,fun j k hj hk hjk h1 h2=>?_,fun b hb=>?_,hr.lG⟩⟩
 ·obtain⟨sa,hS⟩:=hr.hS t n h1 h2 h3;exact⟨sa,(stay _ (T3 hS).lt (S0.ne hS hr.hG (mc0 t).2.1) fun ha=>Ay0 (hr.hL i hi) hS (mc0 t).2.2 ha).trans hS⟩
 ·show Own w3 p.B _ 1 (upN r.la i la' j) (upN s.S2 i (s.S2 i ++ [a]) j).length (upN r.lc i lc' j) ((upN s.S2 i (s.S2 i ++ [a]) j).map (.int .i64 ·));by_cases j3:j=i
  ·subst j3;rw[R4,R4,R4,List.length_append,List.map_append];exact hO3
  ·rw[l5 j3,l5 j3,l5 j3];refine Own.congr (hr.hL j hj) fun ha=>?_;obtain⟨cur,hc,_⟩:=(hr.hL j hj).row ha;exact stay _ (T3 hc).lt (S0.ne hc hr.hG (by decide)) (fun ha2=>hr.inj j i hj hi j3 ha ha2)
 ·have h1:upN r.la i la' j≠none:=h1;have h2:upN r.la i la' k≠none:=h2;show ab (upN r.la i la' j)≠ab (upN r.la i la' k);have key:∀j,j<p.m->j≠i->r.la j≠none->la'≠none->ab (r.la j)≠ab la':=fun j hj j3 ha hb e=>by
   rcases hwh hb with⟨z1,z2⟩|z
   ·exact hr.inj j i hj hi j3 ha z1 (e.trans z2)
   ·have:=(hr.hL j hj).lt ha;omega
  by_cases e1:j=i
  ·have e2:k≠i:=fun e=>hjk (e1.trans e.symm);rw[e1,R4]at h1⊢;rw[l5 e2]at h2⊢;exact fun e=>key k hk e2 h2 h1 e.symm
  ·rw[l5 e1]at h1⊢;by_cases e2:k=i
   ·rw[e2,R4]at h2⊢;exact key j hj e1 h1 h2
   ·rw[l5 e2]at h2⊢;exact hr.inj j k hj hk hjk h1 h2
 ·have ho:=hr.Yp0 hp hb;exact(stay b (hr.vis hp (.inr (.inr (.inr hb)))).1 ho.2.1 (fun ha=>ho.2.2 i hi ha)).trans (hr.ro b hb)
theorem V8.B (h:V8 p w s r):p.B <=w.heap.size:=Nat.le_trans h.mem.lG (Nat.le_of_lt (T3 h.mem.hG).lt)
end
theorem Ip0 {N i lc':Nat} {la':Option Addr} {r:B5} {lg:Nat->List Int} (a:Int):setRow (arr N fun j=>.slice (r.la j) (lg j).length (r.lc j)) (0+i*1) [.slice la' ((lg i).length+1) lc']=arr N fun j=>.slice (upN r.la i la' j) (upN lg i (lg i ++ [a]) j).length (upN r.lc i lc' j):=by
 rw[Nat.zero_add,Nat.mul_one,dr0];refine id0 fun j _=>?_;by_cases h:j=i
 ·subst h;rw[if_pos rfl,R4,R4,R4,List.length_append,List.length_singleton]
 ·rw[if_neg h,l5 h,l5 h,l5 h]
theorem Sl0 {p:r4} {fb:Nat->FuncId} {q:PR (I3 p)} {w00:World} {i cb:Nat} {top:List Frame} {sI:PS} {rI:B5} {ob bp tp oc:Nat} {oa:Option Addr} (hD:ov0 p i ob bp tp oa oc) (him:i<p.m) (w0:World) (hE:V8 p w0 sI rI) (hc:w9 (r2 p fb q w00 i cb top) w0 (o4 (p.bo i) 0 sI)) :
  @Calls prog (J0 (r2 p fb q w00 i cb top)) 46 #[.pointer (some ⟨cb,0,none⟩),.pointer (some ⟨ob,0,none⟩),.pointer (some ⟨bp,0,none⟩),.pointer (some ⟨tp,0,none⟩)] w0 (fun e u=>∃F',(r2 p fb q w00 i cb top).xt0 u F' e):=by
 letI:Ctx prog:=J0 (r2 p fb q w00 i cb top);refine Calls.V5 (n:=32) func46 rfl rfl ?_;have hlen:=hD.len;refine U2 ?_;refine U82 ?_;refine W.loop (fun k e w=>∃j:Nat,∃s:PS,∃r:B5,k=(p.bo i).length-j/\e 0= .p cb/\e 1= .pointer (some ⟨ob,0,none⟩)/\e 2= .pointer (some ⟨bp,0,none⟩)/\e 3= .pointer (some ⟨tp,0,none⟩)/\e 5= .int .i64 (j:Nat)/\V8 p w s r/\w9 (r2 p fb q w00 i cb top) w (o4 (p.bo i) j s)/\j <=(p.bo i).length) _ ⟨0,sI,rI,rfl,rfl,rfl,rfl,rfl,rfl,hE,hc,Nat.zero_le _⟩ ?_;rintro k e w ⟨j,s,r,hk,s0,s1,s2,s3,s5,hE,hc,hjn⟩;rw[L1 s0,L1 s1,L1 s2,L1 s3,L1 s5];clear s0 s1 s2 s3 s5;have hOb:=hD.ob_ hE;have hBp:=hD.bp_ hE;have hTp:=hD.tp_ hE;have Sm0:=hD.ec1 hE;refine U34 ?_;refine L.va (E0 rfl underlying50 rfl (hOb.F0 0 (v:=.slice oa ((p.bo i).length) oc) rfl)) ?_;refine L.va (H6 rfl underlying50 rfl) ?_;refine U79 ?_;refine W.ct0 rfl (fun h10=>?_) (fun h10=>?_)
 ·refine W.skip ?_;show W _ _ _ _ _ _;refine U226 ?_;refine W.seq ?_;obtain⟨o,ho⟩:∃o,(p.bo i)[j]? =some o:=⟨_,List.getElem?_eq_getElem (by omega)⟩
  refine W.dl0 6 (fun w'=>Below w.heap.size w w') (by kernel_rfl) (by kernel_rfl) (by kernel_rfl) (by kernel_rfl) ((Below.refl w.heap.size w).drew) ?_;refine D.va (fun w' V1=>(E0 rfl underlying54 rfl ((hBp.A0 V1).F0 0 (v:=.p p.tb) rfl))) ?_;refine D.va (fun w' V1=>(K3 rfl)) ?_;refine D.va (fun w' V1=>(E0 rfl underlying50 rfl ((hOb.A0 V1).F0 0 (v:=.slice oa ((p.bo i).length) oc) rfl))) ?_;refine D.va (fun w' V1=>(Y3 rfl)) ?_;refine D.va (fun w' V1=>(M5 (i:=j) rfl rfl underlying50 R5 Sm0.sl (by omega))) ?_;refine D.va (fun w' V1=>(E1 (cs:=yp0 o) rfl underlying52 rfl R5 rfl (fun q v hq=>(Sm0.A0 V1).cell j o ho q v hq))) ?_;refine D.nil (fun w j2=>?_);refine U103 ?_;intro hE hc;clear j2;have X4:=Sj0 w hE hc ho;refine L.W3 rfl (S7 rfl rfl rfl func39 rfl cd1 rfl) X4 ?_ ?_ (fun _ h=>h)
  rotate_left
  ·rintro ch u ⟨R6,hh⟩;exact hh.done (Sys.kok (gw0 hE.ok)) R6 hc.os hc.output
  rintro _ w ⟨s1,r1,p7,l8,hl1,hv⟩;obtain⟨z,hz⟩:∃z,z=X9 o s1:=⟨_,rfl⟩
  rw[<- hz]at p7 l8 hv;have hl:(z.1.S2 i).length=j:=by rw[hz,ca0];exact hl1
  subst hv;clear X4 hE hc hOb hBp Sm0 hTp hl1 hz;have hE:=p7;have hc:=l8;clear p7 l8;have hTp:=hD.tp_ hE;refine U15 ?_;have hG:=hE.mem.hG;have hT:=hE.mem.hL i him;have Yr0:=rz0 hT;refine W.fp 11 [9,10] [] [0,1,2,3,4,5,6,7,8,9,10] (fun ch u=>∃F',(r2 p fb q w00 i cb top).xt0 u F' (.panicked ch)) (fun w'=>S0 w' tp #[.slice (some ⟨p.lgb,0,none⟩) p.m p.m] 31/\S0 w' p.lgb (arr p.m fun j=>.slice (r1.la j) (z.1.S2 j).length (r1.lc j)) 45) (by kernel_rfl) (by kernel_rfl) (by kernel_rfl) (by kernel_rfl) (by kernel_rfl) (by kernel_rfl) (fun _ _ _ h=>h) (⟨hTp.A0 (Below.refl w.heap.size w).drew,hG.A0 (Below.refl w.heap.size w).drew⟩) ?_;have Q5:Below w.heap.size w w.drew:=(Below.refl w.heap.size w).drew;have hE:=hE.A0 Q5;have hc:=hc.A0 Q5;have hTp:=hTp.A0 Q5;have hG:=hG.A0 Q5;have hT:=hT.A0 Q5;clear Q5;generalize w.drew=w at *;refine U435 ?_;refine U435 ?_;refine FP.va rfl rfl (fun w' V1=>M5 (i:=i) rfl rfl underlying31 Fr0 (fun _=>rfl) him) ?_;refine FP.va rfl rfl (fun w' V1=>E0 (v:=.slice (r1.la i) (z.1.S2 i).length (r1.lc i)) rfl underlying45 rfl (by show World.cell? w' ⟨p.lgb,0+i*1,none⟩=_;rw[Nat.zero_add,Nat.mul_one];exact S0.F0 V1.2 i (am0 him))) ?_;refine FP.va rfl rfl (fun w' V1=>(Y3 rfl)) ?_;refine FP.doo rfl rfl ?_;refine L.lf0 (cs:=#[.int .i64 z.2]) rfl rfl underlying45 sz2 rfl ⟨_,zr2⟩ (by decide) (fun w b29 F29=>?_);have fp1:=Nat.le_refl w.heap.size;have fq1:r1.la i≠none->ab (r1.la i)≠b29:=fun h=>by have h8:=hT.lt h;have h9:=F29.here;omega
  have hE:=hE.A0 F29.below;have hc:=hc.A0 F29.below;have hTp:=hTp.A0 F29.below;have hG:=hG.A0 F29.below;have hT:=hT.A0 F29.below;have ed1:=F29.blk;refine L.nil (.inl ⟨rfl,_,.inl rfl,⟨hTp,hG⟩,?_⟩);refine FP.doo rfl rfl ?_;refine L.ts0 (B:=p.B) (m:=1) rfl rfl underlying45 in2 rfl (by decide) hT (news:=[.int .i64 z.2]) rfl (fun q u hq=>?_) (fun u hu=>by simp at hu;rcases hu with rfl;rfl) (by omega) (by omega) hE.B (fun la2 lc2 w2 hO2 hga hwh=>?_)
  ·rw[Addr.add_lit]
   match q,hq with
   |0,hq=>cases hq;exact ed1.F0 0 rfl
  have hG:=S0.app hG hT hga (by decide);have hTp:=S0.app hTp hT hga (by decide);have hc:=hc.k5 hga trivial;rename_i fr1;refine L.nil (.inl ⟨rfl,_,.inl rfl,⟨hTp,hG⟩,?_⟩);refine FP.nil ?_;show L _ _ _ _ _ _ _;refine L.va (M5 (i:=i) rfl rfl underlying31 Fr0 (fun _=>rfl) him) ?_;refine L.put (b:=p.lgb) (o:=0+i*1) (vs:=[.slice la2 ((z.1.S2 i).length+1) lc2]) _ rfl rfl rfl Fr0 rfl rfl hG (by rw[T7];omega) (Ip0 z.2) (fun w C1 hg B2=>?_);have hE2:=hE.Sk0 him z.2 hO2 hga hwh C1 hg;have hc:=hc.k5 hg trivial;clear hE hG C1 hTp;refine L.nil ?_;refine U181 ?_;exact⟨_,by omega,⟨j+1,_,_,rfl,rfl,rfl,rfl,rfl,rfl,hE2,hc,by omega⟩⟩
 ·refine W.exit ?_;refine U126 ?_;refine U124 ?_;rw[ys0 (by omega)]at hc;exact hE.done hc
end Go.Vy.Sc
end
section
namespace Go.Vy
open Go Go.Conc Go.Yc
open Go.Vc (Env upd k3 ev)
open Go.RowKit Go.Proofs
section
variable {P:Program}{ρ:Operand->Value}{d:Option Nat}{ty:TypeId}{ps:String}{af:Array Edge}{g:Option (Nat×Bool)}{x y:Operand}{w:World}
theorem _root_.Go.Vc.md0 {f:FuncId} {fn:Func} {aT:Array TypeId} {a:Addr} {k:IntKind} {z:Int} {u:Value} (hx:ρ x= .pointer (some a)) (hy:ρ y= .int k z) (hf:P.funcs[f]? =some fn) (L2:(fn.name== "runtime.NumGoroutine")=false) (hb:fn.body.isNone=true) (hn:Extern.findNext fn=none)
  (he:Extern.find fn=some Extern.Atomic.storeT) (hc:w.cell? a=some u) (hz:w.frozen? a=false) (hρ:ρ (.func f)= .func (.func f) #[] #[]) :
  (execOp ρ ⟨d,.call ⟨.value (.func f),#[x,y],aT⟩,ty,ps,af,g⟩).run P w= .ok (.value (.tuple #[])) (w.setCell a (.int k z)):=by
 have h1:(callFunc f #[.pointer (some a),.int k z]).run P w= .ok (.value (.tuple #[])) (w.setCell a (.int k z)):=by
  rw[run_callFunc_extern hf L2 hb hn he];change (Sem.run P (do
   store (<- asAddr (.pointer (some a))) (.int k z) .atomic
   pure Extern.Atomic.none_) w).andThen _=_
  simp[asAddr,hc,hz,run_store P w a (.int k z) .atomic rfl,Result.andThen,Extern.Atomic.none_]
 simp[execOp,resolve,hρ,Deferred.ofValue,invoke,hx,hy,h1]
theorem md0 {f:FuncId} {fn:Func} {aT:Array TypeId} {a:Addr} {k:IntKind} {z:Int} {u:Value} (hx:ρ x= .pointer (some a)) (hy:ρ y= .int k z) (hf:P.funcs[f]? =some fn) (L2:(fn.name== "runtime.NumGoroutine")=false) (hb:fn.body.isNone=true) (hn:Extern.findNext fn=none)
  (he:Extern.find fn=some Extern.Atomic.storeT) (hc:w.cell? a=some u) (hz:w.frozen? a=false) (hρ:ρ (.func f)= .func (.func f) #[] #[]) :
  Does P (execOp ρ ⟨d,.call ⟨.value (.func f),#[x,y],aT⟩,ty,ps,af,g⟩) w (.val (.tuple #[])) (w.setCell a (.int k z)) :=
 .j1 (by
  show B1 P (do let d <- Deferred.ofValue (ρ (.func f)) (#[x,y].map ρ);invoke d.target d.args);rw[hρ];refine U472 ?_;have e1:(#[] ++ #[x,y].map ρ ++ #[]:Array Value)=#[.pointer (some a),.int k z]:=by simp[hx,hy]
  rw[e1];show B1 P (do store (<- asAddr (.pointer (some a))) (.int k z) .atomic;pure Extern.Atomic.none_);exact G1 (fu0 _) fun b=>G1 (td0 _ _ _) fun _=>K1 _) rfl rfl fun τ dd=>Go.Vc.md0 hx hy hf L2 hb hn he hc hz hρ
end
end Go.Vy
namespace Go.Vy.Sc
open Go Go.Conc Go.Yc Go.RowKit Go.Proofs Go.Proofs.YtnifpkopeheodaaGreat Tryz
open Go.Vc Go.Wg
theorem exI:Extern.find Tryz.f107=some Extern.Atomic.storeT:=by kernel_rfl
theorem enI:Extern.findNext Tryz.f107=none:=by kernel_rfl
theorem exS:Extern.find Tryz.f85=some Extern.Atomic.storeT:=by kernel_rfl
theorem enS:Extern.findNext Tryz.f85=none:=by kernel_rfl
theorem nzN:(prog.info? 2).map (fun i=>decide (i.size=0))=some false:=by kernel_rfl
theorem buM (x:Option Addr):prog.built 113 [(0,.iface 193 (.pointer x))]=some #[.iface 193 (.pointer x)]:=by kernel_rfl
theorem buR (x:Option Addr):prog.built 125 [(0,.iface 193 (.pointer x))]=some #[.iface 193 (.pointer x)]:=by kernel_rfl
section
variable [Ctx prog]
end
section
theorem Sn0:prog.built 105 []=some #[.bool false]:=by kernel_rfl
theorem So0 (x0:Bool):prog.built 105 [(0,.bool x0)]=some #[.bool x0]:=by kernel_rfl
theorem yw0 (x0:Int) (x1:Int):prog.built 107 [(0,.int .i64 x0),(1,.int .i64 x1)]=some #[.int .i64 x0,.int .i64 x1]:=by kernel_rfl
theorem Sp0 (x0:Int) (x1:Int):prog.built 195 [(0,.agg #[.int .i64 x0,.int .i64 x1])]=some #[.int .i64 x0,.int .i64 x1,.bool false,.int .i64 0]:=by kernel_rfl
theorem Sq0 (x0:Int) (x1:Int) (x2:Option Addr) (x3:Int):prog.built 123 [(0,.agg #[.int .i64 x0,.int .i64 x1]),(1,.pointer x2),(2,.int .i64 x3)]=some #[.int .i64 x0,.int .i64 x1,.pointer x2,.int .i64 x3,.int .i64 0]:=by kernel_rfl
theorem Sr0 (x0:Int) (x1:Int) (x2:Option Addr) (x3:Int):prog.built 132 [(0,.agg #[.int .i64 x0,.int .i64 x1]),(1,.pointer x2),(2,.int .i64 x3)]=some #[.int .i64 x0,.int .i64 x1,.pointer x2,.int .i64 x3,.pointer none]:=by kernel_rfl
theorem Ss0 (x0:Int) (x1:Int) (x2:Option Addr) (x3:Int):prog.built 115 [(0,.agg #[.int .i64 x0,.int .i64 x1]),(1,.pointer x2),(2,.int .i64 x3)]=some #[.int .i64 x0,.int .i64 x1,.pointer x2,.int .i64 x3]:=by kernel_rfl
theorem St0:prog.built 72 []=some #[.pointer none,.pointer none,.pointer none,.pointer none,.pointer none,.pointer none,.pointer none,.pointer none,.pointer none,.pointer none]:=by kernel_rfl
end
section
variable [Ctx prog]
theorem jo0 (w0:World):C prog 36 #[] w0 fun v w=>∃wb,v= .pointer (some ⟨wb,0,none⟩)/\w0.heap.size <=wb/\S0 w wb #[.bool false] 105/\Below w0.heap.size w0 w:=by
 refine C.enter (n:=3) func36 rfl rfl ?_;refine U3 ?_;intro hb;refine U39 ?_;refine L.va (N3 (parts:=[]) rfl Sn0) ?_;refine L.box (cs:=#[.bool false]) rfl rfl (fun w b2 F2=>?_);refine U20 ?_;intro lt2 hb;have K7:=F2.blk;refine U53 ?_;exact⟨b2,rfl,lt2,K7,hb⟩
theorem Iq0 (w0:World):C prog 17 #[] w0 fun v w=>∃wb,v= .pointer (some ⟨wb,0,none⟩)/\w0.heap.size <=wb/\S0 w wb #[.bool true] 105/\Below w0.heap.size w0 w:=by
 refine C.enter (n:=3) func17 rfl rfl ?_;refine U3 ?_;intro hb;refine U39 ?_;refine L.va (N3 (parts:=[(0,.const (.bool true))]) rfl (So0 true)) ?_;refine L.box (cs:=#[.bool true]) rfl rfl (fun w b2 F2=>?_);refine U20 ?_;intro lt2 hb;have K7:=F2.blk;refine U53 ?_;exact⟨b2,rfl,lt2,K7,hb⟩
theorem Cu0 (wb:Nat) (obj num:Int) (w0:World) (hW:S0 w0 wb #[.bool false] 105):C prog 81 #[.pointer (some ⟨wb,0,none⟩),.int .i64 obj,.int .i64 num] w0 fun v w=>∃sb,v= .iface 193 (.pointer (some ⟨sb,0,none⟩))/\w0.heap.size <=sb/\S0 w sb #[.int .i64 obj,.int .i64 num,.bool false,.int .i64 0] 195/\Below w0.heap.size w0 w:=by
 refine C.enter (n:=18) func81 rfl rfl ?_;refine U3 ?_;intro hb;refine L.va dh0 ?_;refine U61 ?_;refine L.va (K3 rfl) ?_;refine L.call (D2 rfl func44 rfl xw0 rfl) (gr0 wb _ hW) ?_;rintro _ w1 ⟨rfl,hw⟩;refine U13 ?_;refine U105 ?_;refine U167 ?_;refine L.va (N3 (parts:=[(0,.tmp 12),(1,.tmp 13)]) rfl (yw0 obj num)) ?_;refine L.va (N3 (parts:=[(0,.tmp 14)]) rfl (Sp0 obj num)) ?_;refine L.box (cs:=#[.int .i64 obj,.int .i64 num,.bool false,.int .i64 0]) rfl rfl (fun w b16 F16=>?_);have yx0:=F16.lq hb.size;have hb:=O0 hb F16.below;have mf0:=F16.blk;refine L.va (K8 (v:=.pointer (some ⟨b16,0,none⟩)) rfl underlying193 rfl) ?_;refine L.va dh0 ?_;refine U4 ?_;refine U70 ?_;exact⟨b16,rfl,yx0,mf0,hb⟩
theorem wr0 (wb:Nat) (obj num:Int) (w0:World) (hW:S0 w0 wb #[.bool false] 105):C prog 51 #[.pointer (some ⟨wb,0,none⟩),.int .i64 obj,.int .i64 num] w0 fun v w=>∃mb sb,v= .pointer (some ⟨mb,0,none⟩)/\w0.heap.size <=mb/\w0.heap.size <=sb/\S0 w mb #[.iface 193 (.pointer (some ⟨sb,0,none⟩))] 113/\S0 w sb #[.int .i64 obj,.int .i64 num,.bool false,.int .i64 0] 195/\Below w0.heap.size w0 w:=by
 refine C.enter (n:=13) func51 rfl rfl ?_;refine U3 ?_;intro hb;refine U39 ?_;refine U41 ?_;refine U427 ?_;rintro _ w ⟨sb,rfl,lts,hS,j2⟩;have lts:=Nat.le_trans hb.size lts;have hb:=O0 hb j2;refine L.va (N3 (vs:=[(0,(.iface 193 (.pointer (some ⟨sb,0,none⟩))))]) rfl (buM _)) ?_;refine L.box (cs:=#[(.iface 193 (.pointer (some ⟨sb,0,none⟩)))]) rfl rfl (fun w b12 F12=>?_);have ir0:=F12.lq hb.size;have hb:=O0 hb F12.below;have hS:=hS.A0 F12.below;have I2:=F12.blk;refine U53 ?_;exact⟨b12,sb,rfl,ir0,lts,I2,hS,hb⟩
theorem mg0 (wb:Nat) (obj num:Int) (w0:World) (hW:S0 w0 wb #[.bool false] 105):C prog 52 #[.pointer (some ⟨wb,0,none⟩),.int .i64 obj,.int .i64 num] w0 fun v w=>∃mb sb,v= .pointer (some ⟨mb,0,none⟩)/\w0.heap.size <=mb/\w0.heap.size <=sb/\S0 w mb #[.iface 193 (.pointer (some ⟨sb,0,none⟩))] 125/\S0 w sb #[.int .i64 obj,.int .i64 num,.bool false,.int .i64 0] 195/\Below w0.heap.size w0 w:=by
 refine C.enter (n:=13) func52 rfl rfl ?_;refine U3 ?_;intro hb;refine U39 ?_;refine U41 ?_;refine U427 ?_;rintro _ w ⟨sb,rfl,lts,hS,j2⟩;have lts:=Nat.le_trans hb.size lts;have hb:=O0 hb j2;refine L.va (N3 (vs:=[(0,(.iface 193 (.pointer (some ⟨sb,0,none⟩))))]) rfl (buR _)) ?_;refine L.box (cs:=#[(.iface 193 (.pointer (some ⟨sb,0,none⟩)))]) rfl rfl (fun w b12 F12=>?_);have ir0:=F12.lq hb.size;have hb:=O0 hb F12.below;have hS:=hS.A0 F12.below;have I2:=F12.blk;refine U53 ?_;exact⟨b12,sb,rfl,ir0,lts,I2,hS,hb⟩
theorem Cv0 (cb:Nat) (a b c d e:Value) (x:Int) (w0:World) (hC:S0 w0 cb #[a,b,c,d,e] 123) :
  C prog 82 #[.pointer (some ⟨cb,4,none⟩),.int .i64 x] w0 fun _ w=>S0 w cb #[a,b,c,d,.int .i64 x] 123/\w0.grownBy w (some cb):=by
 refine C.enter (n:=9) func82 rfl rfl ?_;refine W.region rfl ?_;refine U17 ?_;refine L.va (K0 rfl underlying121 rfl sz2 (by decide)) ?_;refine L.va (Y3 rfl) ?_;refine L.va (md0 (u:=e) rfl rfl func107 Ww0 rfl enI exI (hC.F0 4 rfl) hC.frozen rfl) ?_;refine U75 ?_;exact⟨hC.set (o:=4) (.int .i64 x),ew0 w0 ⟨cb,4,none⟩ _⟩
theorem Cw0 (cb lb:Nat) (a b c d e f:Value) (w0:World) (hC:S0 w0 cb #[a,b,c,d,e] 132) (hL:S0 w0 lb #[f] 2) :
  C prog 61 #[.pointer (some ⟨cb,4,none⟩),.pointer (some ⟨lb,0,none⟩)] w0 fun _ w=>S0 w cb #[a,b,c,d,.pointer (some ⟨lb,0,none⟩)] 132/\w0.grownBy w (some cb):=by
 refine C.enter (n:=10) func61 rfl rfl ?_;refine W.region rfl ?_;refine U17 ?_;refine L.va (K0 rfl underlying130 rfl Vu0 (by decide)) ?_;refine L.va (K3 rfl) ?_;refine L.va (ez0 rfl underlying126 underlying128 nzN (hL.F0 0 (v:=f) rfl)) ?_;refine L.va (lb0 (u:=e) rfl rfl func85 cy1 rfl enS exS (hC.F0 4 rfl) hC.frozen rfl) ?_;refine U75 ?_;exact⟨hC.set (o:=4) (.pointer (some ⟨lb,0,none⟩)),ew0 w0 ⟨cb,4,none⟩ _⟩
theorem mh0 (wb:Nat) (obj num:Int) (x:Int) (w0:World) (hW:S0 w0 wb #[.bool false] 105):C prog 53 #[.pointer (some ⟨wb,0,none⟩),.int .i64 obj,.int .i64 num,.int .i64 x] w0 fun v w=>∃cb sa,v= .pointer (some ⟨cb,0,none⟩)/\w0.heap.size <=cb/\S0 w cb #[.int .i64 obj,.int .i64 num,.pointer (some ⟨wb,0,none⟩),.int .i64 x,sa] 123/\Below w0.heap.size w0 w:=by
 refine C.enter (n:=23) func53 rfl rfl ?_;refine U3 ?_;intro hb;refine U30 ?_;refine U477 ?_;refine U41 ?_;refine L.va (N3 (parts:=[(0,.tmp 12),(1,.tmp 13),(2,.tmp 14)]) rfl (Sq0 obj num ((some ⟨wb,0,none⟩)) x)) ?_;refine L.box (cs:=#[.int .i64 obj,.int .i64 num,.pointer (some ⟨wb,0,none⟩),.int .i64 x,.int .i64 0]) rfl rfl (fun w b16 F16=>?_);have yx0:=F16.lq hb.size;have hb:=O0 hb F16.below;have mf0:=F16.blk;refine U39 ?_;refine U17 ?_;refine L.va (K0 rfl underlying123 rfl Vt0 (by decide)) ?_;refine L.va (Y3 rfl) ?_;refine L.call (E4 rfl rfl func82 rfl cw1 rfl) (Cv0 b16 _ _ _ _ _ x _ mf0) ?_;rintro _ w ⟨C1,hg⟩;have T5:=V7.dj0 mf0 hg;have hb:=R3 hb hb.size hg yx0;have mf0:=C1;clear T5;refine U10 ?_;refine U276 ?_;exact⟨b16,_,rfl,yx0,mf0,hb⟩
theorem sg0 (wb:Nat) (obj num:Int) (x:Int) (w0:World) (hW:S0 w0 wb #[.bool false] 105):C prog 54 #[.pointer (some ⟨wb,0,none⟩),.int .i64 obj,.int .i64 num,.int .i64 x] w0 fun v w=>∃cb sa,v= .pointer (some ⟨cb,0,none⟩)/\w0.heap.size <=cb/\S0 w cb #[.int .i64 obj,.int .i64 num,.pointer (some ⟨wb,0,none⟩),.int .i64 x,sa] 132/\Below w0.heap.size w0 w:=by
 refine C.enter (n:=22) func54 rfl rfl ?_;refine U3 ?_;intro hb;refine L.box (cs:=#[.int .i64 x]) rfl rfl (fun w b7 F7=>?_);have lt7:=F7.lq hb.size;have hb:=O0 hb F7.below;have hB7:=F7.blk;refine U30 ?_;refine U477 ?_;refine L.va (K3 rfl) ?_;refine L.va (E0 rfl underlying2 rfl (hB7.F0 0 (v:=.int .i64 x) rfl)) ?_;refine L.va (N3 (parts:=[(0,.tmp 12),(1,.tmp 13),(2,.tmp 14)]) rfl (Sr0 obj num ((some ⟨wb,0,none⟩)) x)) ?_;refine L.box (cs:=#[.int .i64 obj,.int .i64 num,.pointer (some ⟨wb,0,none⟩),.int .i64 x,.pointer none]) rfl rfl (fun w b16 F16=>?_);have yx0:=F16.lq hb.size;have hb:=O0 hb F16.below;have hB7:=hB7.A0 F16.below;have mf0:=F16.blk;refine U39 ?_;refine U17 ?_;refine L.va (K0 rfl underlying132 rfl Vv0 (by decide)) ?_;refine L.call (E4 rfl rfl func61 rfl cn1 rfl) (Cw0 b16 b7 _ _ _ _ _ _ _ mf0 hB7) ?_;rintro _ w ⟨C1,hg⟩;have T5:=V7.dj0 mf0 hg;have hb:=R3 hb hb.size hg yx0;have mf0:=C1;clear T5;refine U10 ?_;refine U276 ?_;exact⟨b16,_,rfl,yx0,mf0,hb⟩
theorem Bc0 (wb:Nat) (obj num:Int) (x:Int) (w0:World) (hW:S0 w0 wb #[.bool false] 105):C prog 55 #[.pointer (some ⟨wb,0,none⟩),.int .i64 obj,.int .i64 num,.int .i64 x] w0 fun v w=>∃cb,v= .pointer (some ⟨cb,0,none⟩)/\w0.heap.size <=cb/\S0 w cb #[.int .i64 obj,.int .i64 num,.pointer (some ⟨wb,0,none⟩),.int .i64 x] 115/\Below w0.heap.size w0 w:=by
 refine C.enter (n:=16) func55 rfl rfl ?_;refine U3 ?_;intro hb;refine U30 ?_;refine U167 ?_;refine L.va (N3 (parts:=[(0,.tmp 9),(1,.tmp 10)]) rfl (yw0 obj num)) ?_;refine U41 ?_;refine L.va (N3 (parts:=[(0,.tmp 11),(1,.tmp 12),(2,.tmp 13)]) rfl (Ss0 obj num ((some ⟨wb,0,none⟩)) x)) ?_;refine L.box (cs:=#[.int .i64 obj,.int .i64 num,.pointer (some ⟨wb,0,none⟩),.int .i64 x]) rfl rfl (fun w b15 F15=>?_);have Ms0:=F15.lq hb.size;have hb:=O0 hb F15.below;have yy0:=F15.blk;refine U53 ?_;exact⟨b15,rfl,Ms0,yy0,hb⟩
structure cb0 (w:World) (B wb tb:Nat) (sb mb:Nat->Nat->Nat):Prop where
 hT:S0 w tb (arr 10 fun j=>.pointer (some ⟨if j/2+1 <=2 then mb (j/2+1) (j%2) else sb (j/2+1) (j%2),0,none⟩)) 72
 lT:B <=tb
 hM:∀t n,1 <=t->t <=2->n<2->S0 w (mb t n) #[.iface 193 (.pointer (some ⟨sb t n,0,none⟩))] (mty t)/\B <=mb t n
 hS:∀t n,1 <=t->t <=5->n<2->∃sa,S0 w (sb t n) (c7 wb ps0 t n sa) (tty t)
 lS:∀t n,1 <=t->t <=5->n<2->B <=sb t n
 inj:∀t n t' n',1 <=t->t <=5->n<2->1 <=t'->t' <=5->n'<2->sb t n=sb t' n'->t=t'/\n=n'
def sel (a0 a1 b0 b1 c0 c1 d0 d1 e0 e1:Nat) (t n:Nat):Nat:=match t with
 |1=>if n=0 then a0 else a1
 |2=>if n=0 then b0 else b1
 |3=>if n=0 then c0 else c1
 |4=>if n=0 then d0 else d1
 |_=>if n=0 then e0 else e1
omit [Ctx prog] in
theorem r3 {w:World} {b b':Nat} {cs c6:Array Value} {T T':TypeId} (h:S0 w b cs T) (h':S0 w b' c6 T') (hT:T≠T'):b≠b':=S0.ne h h' hT
omit [Ctx prog] in
set_option maxHeartbeats 4000000 in
theorem Su0 (x10 x11 x20 x21 x30 x31 x40 x41 x50 x51:Nat) (fs1:x10≠x11) (ft1:x10≠x20) (fu1:x10≠x21) (fv1:x10≠x30) (fw1:x10≠x31) (fx1:x10≠x40) (fy1:x10≠x41) (fz1:x10≠x50) (ga1:x10≠x51) (gb1:x11≠x20) (gc1:x11≠x21) (gd1:x11≠x30) (ge1:x11≠x31) (gf1:x11≠x40) (gg1:x11≠x41) (gh1:x11≠x50) (gi1:x11≠x51) (gj1:x20≠x21) (gk1:x20≠x30) (gl1:x20≠x31) (gm1:x20≠x40) (gn1:x20≠x41) (go1:x20≠x50) (gp1:x20≠x51) (gq1:x21≠x30) (gr1:x21≠x31) (gs1:x21≠x40) (gt1:x21≠x41) (gu1:x21≠x50) (gv1:x21≠x51) (gw1:x30≠x31) (gx1:x30≠x40) (gy1:x30≠x41) (gz1:x30≠x50) (hd1:x30≠x51) (he1:x31≠x40) (hf1:x31≠x41) (hg1:x31≠x50) (hh1:x31≠x51) (hk1:x40≠x41) (hn1:x40≠x50) (ho1:x40≠x51) (hp1:x41≠x50) (hr1:x41≠x51) (ht1:x50≠x51):∀t n t' n',1 <=t->t <=5->n<2->1 <=t'->t' <=5->n'<2->sel x10 x11 x20 x21 x30 x31 x40 x41 x50 x51 t n=sel x10 x11 x20 x21 x30 x31 x40 x41 x50 x51 t' n'->t=t'/\n=n':=by
 intro t n t' n' h1 h2 h3 h4 h5 h6 he;obtain rfl|rfl|rfl|rfl|rfl:t=1\/t=2\/t=3\/t=4\/t=5:=by omega
 all_goals obtain rfl|rfl|rfl|rfl|rfl:t'=1\/t'=2\/t'=3\/t'=4\/t'=5:=by omega
 all_goals obtain rfl|rfl:n=0\/n=1:=by omega
 all_goals obtain rfl|rfl:n'=0\/n'=1:=by omega
 all_goals first|exact⟨rfl,rfl⟩|(exfalso;simp[sel]at he;first|exact absurd he (by assumption)|exact absurd he.symm (by assumption))
set_option maxHeartbeats 4000000 in
theorem Ir0 (wb:Nat) (w0:World) (hW:S0 w0 wb #[.bool false] 105):C prog 16 #[.pointer (some ⟨wb,0,none⟩)] w0 fun v w=>∃tb sb mb,v= .pointer (some ⟨tb,0,none⟩)/\cb0 w w0.heap.size wb tb sb mb/\Below w0.heap.size w0 w:=by
 refine C.enter (n:=52) func16 rfl rfl ?_;refine U3 ?_;intro hb;refine U39 ?_;refine L.va (N3 (parts:=[]) rfl St0) ?_;refine L.box (cs:=#[.pointer none,.pointer none,.pointer none,.pointer none,.pointer none,.pointer none,.pointer none,.pointer none,.pointer none,.pointer none]) rfl rfl (fun w b6 F6=>?_);have lt6:=F6.lq hb.size;have hb:=O0 hb F6.below;have hW:=hW.A0 F6.below;have e7:=F6.blk;refine U30 ?_;refine U7 ?_;refine U82 ?_;refine W.rounds 3 ?_;refine cl0.go ?_;refine U34 ?_;refine L.va (W1 (r:=true) (by decide) (eu0 (m:=0) (k:=2) rfl rfl)) ?_;refine U45 ?_;refine U60 ?_;refine W.seq ?_;refine U384 ?_;intro Q5 hb hW e7;clear Q5;generalize w.drew=w at *;refine U21 ?_;refine U441 ?_;refine L.call (S7 rfl rfl rfl func51 rfl Wb0 rfl) (wr0 wb 1 0 _ hW) ?_;rintro _ w ⟨m10,s10,rfl,ee1,ef1,I5,T4,j2⟩;have Ys0:=Nat.le_trans hb.size ee1;have Yt0:=Nat.le_trans hb.size ef1;refine U401 ?_;intro hb hW e7;refine L.nil ⟨rfl,trivial,?_⟩;refine U6 ?_;refine L.va (P1 (i:=0) (n:=2) rfl rfl underlying62 Cb0 (by decide)) ?_;refine L.pu 0 [.pointer (some ⟨m10,0,none⟩)] #[.pointer (some ⟨m10,0,none⟩),.pointer none,.pointer none,.pointer none,.pointer none,.pointer none,.pointer none,.pointer none,.pointer none,.pointer none] Cb0 e7 (fun w C1 hg B2=>?_);refine U27 ?_;intro T5 hb hW T4 I5;have e7:=C1;refine U89 ?_;refine U28 ?_;intro Q5 hb hW e7 T4 I5;clear Q5;generalize w.drew=w at *;refine U21 ?_;refine U442 ?_;refine L.call (S7 rfl rfl rfl func52 rfl Wc0 rfl) (mg0 wb 2 0 _ hW) ?_;rintro _ w ⟨m20,s20,rfl,eg1,Yu0,m5,P4,j2⟩;have Yv0:=Nat.le_trans hb.size eg1;have Yw0:=Nat.le_trans hb.size Yu0;have Sv0:s10≠s20:=Nat.ne_of_lt (Nat.lt_of_lt_of_le (T3 T4).lt Yu0);refine U38 ?_;intro hb hW e7 T4 I5;refine L.nil ⟨rfl,trivial,?_⟩;refine U6 ?_;refine L.va (P1 (i:=0) (n:=2) rfl rfl underlying64 vu0 (by decide)) ?_;refine L.pu 2 [.pointer (some ⟨m20,0,none⟩)] #[.pointer (some ⟨m10,0,none⟩),.pointer none,.pointer (some ⟨m20,0,none⟩),.pointer none,.pointer none,.pointer none,.pointer none,.pointer none,.pointer none,.pointer none] vu0 e7 (fun w C1 hg B2=>?_);refine U27 ?_;intro T5 hb hW T4 I5;refine U364 ?_;intro P4 m5;have e7:=C1;refine U89 ?_;refine U28 ?_;intro Q5 hb hW e7 T4 I5;refine U430 ?_;intro P4 m5;clear Q5;generalize w.drew=w at *;refine U21 ?_;refine U443 ?_;refine L.call (A8 rfl rfl rfl rfl func53 rfl Wd0 rfl) (mh0 wb 3 0 0 _ hW) ?_;rintro _ w ⟨s30,a30,rfl,eh1,n5,j2⟩;have Yx0:=Nat.le_trans hb.size eh1;refine U38 ?_;intro hb hW e7 T4 I5;refine U431 ?_;intro P4 m5;refine L.nil ⟨rfl,trivial,?_⟩;refine U6 ?_;refine L.va (P1 (i:=0) (n:=2) rfl rfl underlying66 Cc0 (by decide)) ?_;refine L.pu 4 [.pointer (some ⟨s30,0,none⟩)] #[.pointer (some ⟨m10,0,none⟩),.pointer none,.pointer (some ⟨m20,0,none⟩),.pointer none,.pointer (some ⟨s30,0,none⟩),.pointer none,.pointer none,.pointer none,.pointer none,.pointer none] Cc0 e7 (fun w C1 hg B2=>?_);refine U27 ?_;intro T5 hb hW T4 I5;refine U36 ?_;intro P4 m5 n5;have e7:=C1;refine U89 ?_;refine U28 ?_;intro Q5 hb hW e7 T4 I5;refine U492 ?_;intro P4 m5 n5;clear Q5;generalize w.drew=w at *;refine U21 ?_;refine U444 ?_;refine L.call (A8 rfl rfl rfl rfl func54 rfl We0 rfl) (sg0 wb 4 0 0 _ hW) ?_;rintro _ w ⟨s40,a40,rfl,ei1,X5,j2⟩;have Yy0:=Nat.le_trans hb.size ei1;refine U38 ?_;intro hb hW e7 T4 I5;refine U493 ?_;intro P4 m5 n5;refine L.nil ⟨rfl,trivial,?_⟩;refine U6 ?_;refine L.va (P1 (i:=0) (n:=2) rfl rfl underlying68 Cd0 (by decide)) ?_;refine L.pu 6 [.pointer (some ⟨s40,0,none⟩)] #[.pointer (some ⟨m10,0,none⟩),.pointer none,.pointer (some ⟨m20,0,none⟩),.pointer none,.pointer (some ⟨s30,0,none⟩),.pointer none,.pointer (some ⟨s40,0,none⟩),.pointer none,.pointer none,.pointer none] Cd0 e7 (fun w C1 hg B2=>?_);refine U27 ?_;intro T5 hb hW T4 I5;refine U36 ?_;intro P4 m5 n5;have X5:=X5.mod T5 rfl;have e7:=C1;clear T5;refine U4 ?_;refine U28 ?_;intro Q5 hb hW e7 T4 I5;refine U90 ?_;intro P4 m5 n5 X5;clear Q5;generalize w.drew=w at *;refine U21 ?_;refine U445 ?_;refine L.call (A8 rfl rfl rfl rfl func55 rfl Wf0 rfl) (Bc0 wb 5 0 0 _ hW) ?_;rintro _ w ⟨s50,rfl,ej1,Y5,j2⟩;have Yz0:=Nat.le_trans hb.size ej1;refine U38 ?_;intro hb hW e7 T4 I5;refine U91 ?_;intro P4 m5 n5 X5;refine L.nil ⟨rfl,trivial,?_⟩;refine U6 ?_;refine L.va (P1 (i:=0) (n:=2) rfl rfl underlying70 Ce0 (by decide)) ?_;refine L.pu 8 [.pointer (some ⟨s50,0,none⟩)] #[.pointer (some ⟨m10,0,none⟩),.pointer none,.pointer (some ⟨m20,0,none⟩),.pointer none,.pointer (some ⟨s30,0,none⟩),.pointer none,.pointer (some ⟨s40,0,none⟩),.pointer none,.pointer (some ⟨s50,0,none⟩),.pointer none] Ce0 e7 (fun w C1 hg B2=>?_);refine U27 ?_;intro T5 hb hW T4 I5;refine U36 ?_;intro P4 m5 n5;refine U83 ?_;intro X5 Y5;have e7:=C1;clear T5;refine L.nil ?_;refine U134 ?_;refine L.va (Y3 rfl) ?_;refine L.va (tm0 (r:=1) (by decide) (by decide) rfl rfl) ?_;refine U205 ?_;refine T.nrm ?_;refine cl0.go ?_;refine U34 ?_;refine L.va (W1 (r:=true) (by decide) (eu0 (m:=1) (k:=2) rfl rfl)) ?_;refine U45 ?_;refine U60 ?_;refine W.seq ?_;refine U28 ?_;intro Q5 hb hW e7 T4 I5;refine U90 ?_;intro P4 m5 n5 X5;have Y5:=Y5.A0 Q5;clear Q5;generalize w.drew=w at *;refine U21 ?_;refine U441 ?_;refine L.call (S7 rfl rfl rfl func51 rfl Wb0 rfl) (wr0 wb 1 1 _ hW) ?_;rintro _ w ⟨m11,s11,rfl,ek1,Sw0,Y8,g7,j2⟩;have Za0:=Nat.le_trans hb.size ek1;have Zb0:=Nat.le_trans hb.size Sw0;have Sx0:s10≠s11:=Nat.ne_of_lt (Nat.lt_of_lt_of_le (T3 T4).lt Sw0);have Sy0:s20≠s11:=Nat.ne_of_lt (Nat.lt_of_lt_of_le (T3 P4).lt Sw0);refine U38 ?_;intro hb hW e7 T4 I5;refine U91 ?_;intro P4 m5 n5 X5;have Y5:=Y5.A0 j2;refine L.nil ⟨rfl,trivial,?_⟩;refine U6 ?_;refine L.va (P1 (i:=1) (n:=2) rfl rfl underlying62 Cb0 (by decide)) ?_;refine L.pu 1 [.pointer (some ⟨m11,0,none⟩)] #[.pointer (some ⟨m10,0,none⟩),.pointer (some ⟨m11,0,none⟩),.pointer (some ⟨m20,0,none⟩),.pointer none,.pointer (some ⟨s30,0,none⟩),.pointer none,.pointer (some ⟨s40,0,none⟩),.pointer none,.pointer (some ⟨s50,0,none⟩),.pointer none] Cb0 e7 (fun w C1 hg B2=>?_);refine U27 ?_;intro T5 hb hW T4 I5;refine U36 ?_;intro P4 m5 n5;refine U83 ?_;intro X5 Y5;refine U113 ?_;intro g7 Y8;have e7:=C1;refine U89 ?_;refine U28 ?_;intro Q5 hb hW e7 T4 I5;refine U90 ?_;intro P4 m5 n5 X5;have Y5:=Y5.A0 Q5;have g7:=g7.A0 Q5;have Y8:=Y8.A0 Q5;clear Q5;generalize w.drew=w at *;refine U21 ?_;refine U442 ?_;refine L.call (S7 rfl rfl rfl func52 rfl Wc0 rfl) (mg0 wb 2 1 _ hW) ?_;rintro _ w ⟨m21,s21,rfl,el1,Mt0,bh0,y8,j2⟩;have Zc0:=Nat.le_trans hb.size el1;have Zd0:=Nat.le_trans hb.size Mt0;have Sz0:s10≠s21:=Nat.ne_of_lt (Nat.lt_of_lt_of_le (T3 T4).lt Mt0);have Ta0:s20≠s21:=Nat.ne_of_lt (Nat.lt_of_lt_of_le (T3 P4).lt Mt0);have Tb0:s11≠s21:=Nat.ne_of_lt (Nat.lt_of_lt_of_le (T3 g7).lt Mt0);refine U38 ?_;intro hb hW e7 T4 I5;refine U91 ?_;intro P4 m5 n5 X5;have Y5:=Y5.A0 j2;have g7:=g7.A0 j2;have Y8:=Y8.A0 j2;refine L.nil ⟨rfl,trivial,?_⟩;refine U6 ?_;refine L.va (P1 (i:=1) (n:=2) rfl rfl underlying64 vu0 (by decide)) ?_;refine L.pu 3 [.pointer (some ⟨m21,0,none⟩)] #[.pointer (some ⟨m10,0,none⟩),.pointer (some ⟨m11,0,none⟩),.pointer (some ⟨m20,0,none⟩),.pointer (some ⟨m21,0,none⟩),.pointer (some ⟨s30,0,none⟩),.pointer none,.pointer (some ⟨s40,0,none⟩),.pointer none,.pointer (some ⟨s50,0,none⟩),.pointer none] vu0 e7 (fun w C1 hg B2=>?_);refine U27 ?_;intro T5 hb hW T4 I5;refine U36 ?_;intro P4 m5 n5;refine U83 ?_;intro X5 Y5;refine U113 ?_;intro g7 Y8;have y8:=y8.mod T5 rfl;have bh0:=bh0.mod T5 rfl;have e7:=C1;refine U89 ?_;refine U28 ?_;intro Q5 hb hW e7 T4 I5;refine U90 ?_;intro P4 m5 n5 X5;have Y5:=Y5.A0 Q5;have g7:=g7.A0 Q5;have Y8:=Y8.A0 Q5;have y8:=y8.A0 Q5;have bh0:=bh0.A0 Q5;clear Q5;generalize w.drew=w at *;refine U21 ?_;refine U443 ?_;refine L.call (A8 rfl rfl rfl rfl func53 rfl Wd0 rfl) (mh0 wb 3 1 0 _ hW) ?_;rintro _ w ⟨s31,a31,rfl,Ze0,Z9,j2⟩;have Zf0:=Nat.le_trans hb.size Ze0;have Tc0:s30≠s31:=Nat.ne_of_lt (Nat.lt_of_lt_of_le (T3 n5).lt Ze0);refine U38 ?_;intro hb hW e7 T4 I5;refine U91 ?_;intro P4 m5 n5 X5;have Y5:=Y5.A0 j2;have g7:=g7.A0 j2;have Y8:=Y8.A0 j2;have y8:=y8.A0 j2;have bh0:=bh0.A0 j2;refine L.nil ⟨rfl,trivial,?_⟩;refine U6 ?_;refine L.va (P1 (i:=1) (n:=2) rfl rfl underlying66 Cc0 (by decide)) ?_;refine L.pu 5 [.pointer (some ⟨s31,0,none⟩)] #[.pointer (some ⟨m10,0,none⟩),.pointer (some ⟨m11,0,none⟩),.pointer (some ⟨m20,0,none⟩),.pointer (some ⟨m21,0,none⟩),.pointer (some ⟨s30,0,none⟩),.pointer (some ⟨s31,0,none⟩),.pointer (some ⟨s40,0,none⟩),.pointer none,.pointer (some ⟨s50,0,none⟩),.pointer none] Cc0 e7 (fun w C1 hg B2=>?_);refine U27 ?_;intro T5 hb hW T4 I5;refine U36 ?_;intro P4 m5 n5;refine U83 ?_;intro X5 Y5;refine U113 ?_;intro g7 Y8;have y8:=y8.mod T5 rfl;have bh0:=bh0.mod T5 rfl;have Z9:=Z9.mod T5 rfl;have e7:=C1;refine U89 ?_;refine U28 ?_;intro Q5 hb hW e7 T4 I5;refine U90 ?_;intro P4 m5 n5 X5;have Y5:=Y5.A0 Q5;have g7:=g7.A0 Q5;have Y8:=Y8.A0 Q5;have y8:=y8.A0 Q5;have bh0:=bh0.A0 Q5;have Z9:=Z9.A0 Q5;clear Q5;generalize w.drew=w at *;refine U21 ?_;refine U444 ?_;refine L.call (A8 rfl rfl rfl rfl func54 rfl We0 rfl) (sg0 wb 4 1 0 _ hW) ?_;rintro _ w ⟨s41,a41,rfl,Zg0,du0,j2⟩;have Zh0:=Nat.le_trans hb.size Zg0;have Td0:s40≠s41:=Nat.ne_of_lt (Nat.lt_of_lt_of_le (T3 X5).lt Zg0);refine U38 ?_;intro hb hW e7 T4 I5;refine U91 ?_;intro P4 m5 n5 X5;have Y5:=Y5.A0 j2;have g7:=g7.A0 j2;have Y8:=Y8.A0 j2;have y8:=y8.A0 j2;have bh0:=bh0.A0 j2;have Z9:=Z9.A0 j2;refine L.nil ⟨rfl,trivial,?_⟩;refine U6 ?_;refine L.va (P1 (i:=1) (n:=2) rfl rfl underlying68 Cd0 (by decide)) ?_;refine L.pu 7 [.pointer (some ⟨s41,0,none⟩)] #[.pointer (some ⟨m10,0,none⟩),.pointer (some ⟨m11,0,none⟩),.pointer (some ⟨m20,0,none⟩),.pointer (some ⟨m21,0,none⟩),.pointer (some ⟨s30,0,none⟩),.pointer (some ⟨s31,0,none⟩),.pointer (some ⟨s40,0,none⟩),.pointer (some ⟨s41,0,none⟩),.pointer (some ⟨s50,0,none⟩),.pointer none] Cd0 e7 (fun w C1 hg B2=>?_);refine U27 ?_;intro T5 hb hW T4 I5;refine U36 ?_;intro P4 m5 n5;refine U83 ?_;intro X5 Y5;refine U113 ?_;intro g7 Y8;have y8:=y8.mod T5 rfl;have bh0:=bh0.mod T5 rfl;have Z9:=Z9.mod T5 rfl;have du0:=du0.mod T5 rfl;have e7:=C1;clear T5;refine U4 ?_;refine U28 ?_;intro Q5 hb hW e7 T4 I5;refine U90 ?_;intro P4 m5 n5 X5;have Y5:=Y5.A0 Q5;have g7:=g7.A0 Q5;have Y8:=Y8.A0 Q5;have y8:=y8.A0 Q5;have bh0:=bh0.A0 Q5;have Z9:=Z9.A0 Q5;have du0:=du0.A0 Q5;clear Q5;generalize w.drew=w at *;refine U21 ?_;refine U445 ?_;refine L.call (A8 rfl rfl rfl rfl func55 rfl Wf0 rfl) (Bc0 wb 5 1 0 _ hW) ?_;rintro _ w ⟨s51,rfl,Zi0,mi0,j2⟩;have Zj0:=Nat.le_trans hb.size Zi0;have Te0:s50≠s51:=Nat.ne_of_lt (Nat.lt_of_lt_of_le (T3 Y5).lt Zi0);have hb:=O0 hb j2;have e7:=e7.A0 j2;refine U399 ?_;intro T4 I5;refine U91 ?_;intro P4 m5 n5 X5;have Y5:=Y5.A0 j2;have g7:=g7.A0 j2;have Y8:=Y8.A0 j2;have y8:=y8.A0 j2;have bh0:=bh0.A0 j2;have Z9:=Z9.A0 j2;have du0:=du0.A0 j2;refine L.nil ⟨rfl,trivial,?_⟩;refine U6 ?_;refine L.va (P1 (i:=1) (n:=2) rfl rfl underlying70 Ce0 (by decide)) ?_;refine L.pu 9 [.pointer (some ⟨s51,0,none⟩)] #[.pointer (some ⟨m10,0,none⟩),.pointer (some ⟨m11,0,none⟩),.pointer (some ⟨m20,0,none⟩),.pointer (some ⟨m21,0,none⟩),.pointer (some ⟨s30,0,none⟩),.pointer (some ⟨s31,0,none⟩),.pointer (some ⟨s40,0,none⟩),.pointer (some ⟨s41,0,none⟩),.pointer (some ⟨s50,0,none⟩),.pointer (some ⟨s51,0,none⟩)] Ce0 e7 (fun w C1 hg B2=>?_);refine U315 ?_;intro T5 hb;refine U344 ?_;intro T4 I5;refine U36 ?_;intro P4 m5 n5;refine U83 ?_;intro X5 Y5;refine U113 ?_;intro g7 Y8;have y8:=y8.mod T5 rfl;have bh0:=bh0.mod T5 rfl;have Z9:=Z9.mod T5 rfl;have du0:=du0.mod T5 rfl;have mi0:=mi0.mod T5 rfl;have e7:=C1;clear T5;refine L.nil ?_;refine U134 ?_;refine L.va (Y3 rfl) ?_;refine L.va (tm0 (r:=2) (by decide) (by decide) rfl rfl) ?_;refine U205 ?_;refine T.nrm ?_;refine cl0.go ?_;refine U34 ?_;refine L.va (W1 (r:=false) (by decide) (eu0 (m:=2) (k:=2) rfl rfl)) ?_;refine U250 ?_;refine W.exit ?_;refine U117 ?_;refine U276 ?_;refine⟨b6,sel s10 s11 s20 s21 s30 s31 s40 s41 s50 s51,sel m10 m11 m20 m21 0 0 0 0 0 0,rfl,⟨e7,lt6,fun t n h1 h2 h3=>?_,fun t n h1 h2 h3=>?_,fun t n h1 h2 h3=>?_,?_⟩,hb⟩
 ·obtain rfl|rfl:t=1\/t=2:=by omega
  ·obtain rfl|rfl:n=0\/n=1:=by omega
   ·exact⟨I5,Ys0⟩
   ·exact⟨Y8,Za0⟩
  ·obtain rfl|rfl:n=0\/n=1:=by omega
   ·exact⟨m5,Yv0⟩
   ·exact⟨bh0,Zc0⟩
 ·obtain rfl|rfl|rfl|rfl|rfl:t=1\/t=2\/t=3\/t=4\/t=5:=by omega
  ·obtain rfl|rfl:n=0\/n=1:=by omega
   ·exact⟨.bool false,T4⟩
   ·exact⟨.bool false,g7⟩
  ·obtain rfl|rfl:n=0\/n=1:=by omega
   ·exact⟨.bool false,P4⟩
   ·exact⟨.bool false,y8⟩
  ·obtain rfl|rfl:n=0\/n=1:=by omega
   ·exact⟨a30,n5⟩
   ·exact⟨a31,Z9⟩
  ·obtain rfl|rfl:n=0\/n=1:=by omega
   ·exact⟨a40,X5⟩
   ·exact⟨a41,du0⟩
  ·obtain rfl|rfl:n=0\/n=1:=by omega
   ·exact⟨.bool false,Y5⟩
   ·exact⟨.bool false,mi0⟩
 ·obtain rfl|rfl|rfl|rfl|rfl:t=1\/t=2\/t=3\/t=4\/t=5:=by omega
  ·obtain rfl|rfl:n=0\/n=1:=by omega
   ·exact Yt0
   ·exact Zb0
  ·obtain rfl|rfl:n=0\/n=1:=by omega
   ·exact Yw0
   ·exact Zd0
  ·obtain rfl|rfl:n=0\/n=1:=by omega
   ·exact Yx0
   ·exact Zf0
  ·obtain rfl|rfl:n=0\/n=1:=by omega
   ·exact Yy0
   ·exact Zh0
  ·obtain rfl|rfl:n=0\/n=1:=by omega
   ·exact Yz0
   ·exact Zj0
 ·refine Su0 s10 s11 s20 s21 s30 s31 s40 s41 s50 s51 Sx0 Sv0 Sz0 (r3 T4 n5 (by decide)) (r3 T4 Z9 (by decide)) (r3 T4 X5 (by decide)) (r3 T4 du0 (by decide)) (r3 T4 Y5 (by decide)) (r3 T4 mi0 (by decide)) Sy0.symm Tb0 (r3 g7 n5 (by decide)) (r3 g7 Z9 (by decide)) (r3 g7 X5 (by decide)) (r3 g7 du0 (by decide)) (r3 g7 Y5 (by decide)) (r3 g7 mi0 (by decide)) Ta0 (r3 P4 n5 (by decide)) (r3 P4 Z9 (by decide)) (r3 P4 X5 (by decide)) (r3 P4 du0 (by decide)) (r3 P4 Y5 (by decide)) (r3 P4 mi0 (by decide)) (r3 y8 n5 (by decide)) (r3 y8 Z9 (by decide)) (r3 y8 X5 (by decide)) (r3 y8 du0 (by decide)) (r3 y8 Y5 (by decide)) (r3 y8 mi0 (by decide)) Tc0 (r3 n5 X5 (by decide)) (r3 n5 du0 (by decide)) (r3 n5 Y5 (by decide)) (r3 n5 mi0 (by decide)) (r3 Z9 X5 (by decide)) (r3 Z9 du0 (by decide)) (r3 Z9 Y5 (by decide)) (r3 Z9 mi0 (by decide)) Td0 (r3 X5 Y5 (by decide)) (r3 X5 mi0 (by decide)) (r3 du0 Y5 (by decide)) (r3 du0 mi0 (by decide)) Te0
end
end Go.Vy.Sc
end
section
namespace Go.Vy.Sc
open Go Go.Conc Go.Yc Go.RowKit Go.Proofs Go.Proofs.YtnifpkopeheodaaGreat Tryz
open Go.Vc Go.Wg
open Go.ConcN (sumTo)
structure r7 (w:World) (ba:Option Addr) (m:Nat) (bo:Nat->List V2) (oa:Nat->Option Addr) (oc:Nat->Nat):Prop where
 sl:SL ba m
 row:∀i,i<m->w.cell? ⟨ab ba,ao ba+i*1,none⟩=some (.slice (oa i) (bo i).length (oc i))
 ops:∀i,i<m->fi0 w (oa i) (bo i)
 len:∀i,i<m->(bo i).length <=1048576
theorem r7.A0 {w w':World} {ba:Option Addr} {m:Nat} {bo:Nat->List V2} {oa:Nat->Option Addr} {oc:Nat->Nat} (h:r7 w ba m bo oa oc) (hb:Below w.heap.size w w'):r7 w' ba m bo oa oc :=
 ⟨h.sl,fun i hi=>ei0 (h.row i hi) hb,fun i hi=>(h.ops i hi).A0 hb,h.len⟩
structure Mu0 (m:Nat) (bo:Nat->List V2) (sn:Nat):Prop where
 m1:m <=16
 sum:sumTo m (fun i=>(bo i).length) <=3000
 ops:∀i,i<m->∀o,o∈bo i->POk o
 sn1:sn <=20000
theorem Bd0 {bo:Nat->List V2}:∀{i:Nat},(∀j,j<i->(bo j).length <=1048576)->sumTo i (fun j=>(bo j).length) <=i*1048576
 |0,_=>Nat.le_refl _
 |i+1,h=>by
  have h1:=Bd0 (bo:=bo) (i:=i) fun j hj=>h j (by omega);have h2:=h i (by omega);show sumTo i _+(bo i).length <=_;omega
theorem Is0 {bo:Nat->List V2} {i m:Nat} {x:Int} (hl:∀j,j<m->(bo j).length <=1048576) (hi:i<m) (hx:i <=16->x=(sumTo i (fun j=>(bo j).length):Nat)) (h:i+1 <=16):IntKind.i64.wrap (x+((bo i).length:Int))=(sumTo (i+1) (fun j=>(bo j).length):Nat):=by
 have h1:=Bd0 (bo:=bo) (i:=i) fun j hj=>hl j (by omega);have h2:=hl i hi;have h3:=hx (by omega);have h4:i*1048576 <=16*1048576:=Nat.mul_le_mul_right _ (by omega);show _=((sumTo i (fun j=>(bo j).length)+(bo i).length:Nat):Int);rw[IntWalk.i64_in _ (by omega),h3];omega
theorem Tf0 {bo:Nat->List V2} {i:Nat}:sumTo i (fun j=>(bo j).length) <=sumTo (i+1) (fun j=>(bo j).length):=Nat.le_add_right _ _
theorem Mv0 {bo:Nat->List V2} {i k:Nat} {x y:Int} (hx:i <=16->x=(sumTo i (fun j=>(bo j).length):Nat)) (hk:i <=16->x <=3000->∀j,j<i->∀o,o∈bo j->POk o) (hy:i+1 <=16->y=(sumTo (i+1) (fun j=>(bo j).length):Nat))
  (hq:∀(q:Nat) o,q<k->(bo i)[q]? =some o->POk o) (he:¬(k<(bo i).length/\y <=3000)):i+1 <=16->y <=3000->∀j,j<i+1->∀o,o∈bo j->POk o:=by
 intro h1 h2 j j3 o ho;have h3:=hx (by omega);have h4:=hy h1;have h5:=Tf0 (bo:=bo) (i:=i);by_cases e:j=i
 ·subst e;obtain⟨q,hq1⟩:=List.mem_iff_getElem?.1 ho;have hq2:=(List.getElem?_eq_some_iff.1 hq1).1;exact hq q o (by omega) hq1
 ·exact hk (by omega) (by omega) j (by omega) o ho
section
variable [Ctx prog]
theorem Mw0 (o:V2) (w0:World):C prog 37 #[.agg #[.int .i64 o.A5,.int .i64 o.jn0,.int .i64 o.call,.int .i64 o.val]] w0 fun v w=>∃b,v= .bool b/\(b=true↔POk o)/\Below w0.heap.size w0 w:=by
 refine C.enter (n:=55) func37 rfl rfl ?_;refine U511 ?_;intro hb w b1 F1;have lt1:=F1.lq hb.size;have hb:=O0 hb F1.below;have hB1:=F1.blk;refine U9 ?_;refine U81 ?_;refine L.va (E0 rfl underlying3 rfl (hB1.F0 0 (v:=.int .i64 o.A5) rfl)) ?_;refine U26 ?_;refine L.va (n3 rfl rfl) ?_;refine U9 ?_;refine W.ct0 rfl (fun h5=>?_) (fun h5=>?_)
 ·refine W.seq ?_;refine U186 ?_;refine L.gg0 4 [10,11,12,13,14] 14 (.bool (decide (o.call=1\/o.call=2))) (tj:=10) rfl (fun Tg0=>?_) (fun Tg0=>?_) (fun f=>?_)
  ·refine L.off rfl ?_;refine U183 ?_;refine⟨rfl,congrArg Value.bool (by first|exact Km0 Tg0|rfl|(simp_all;done)|(rw[Bool.eq_iff_iff];simp_all;omega)),?_⟩;exact W0.upd rfl (W0.upd rfl (W0.upd rfl (W0.upd rfl (W0.upd rfl (W0.refl _ _)))))
  ·refine L.on rfl ?_;refine U184 ?_;refine⟨rfl,congrArg Value.bool (by first|exact Kn0 Tg0|rfl|(simp_all;done)|(rw[Bool.eq_iff_iff];simp_all;omega)),?_⟩;exact W0.upd rfl (W0.upd rfl (W0.upd rfl (W0.upd rfl (W0.upd rfl (W0.refl _ _)))))
  exact U111
 ·refine W.seq ?_;refine U191 ?_;refine W.ct0 rfl (fun h15=>?_) (fun h15=>?_)
  ·refine W.seq ?_;refine U413 ?_;refine L.va (zy0 rfl rfl) ?_;refine L.va (bl0 rfl) ?_;refine L.gg0 4 [20,21,22,23,24] 24 (.bool (decide (1 <=o.call/\o.call <=4))) (tj:=20) rfl (fun Th0=>?_) (fun Th0=>?_) (fun f=>?_)
   ·refine L.on rfl ?_;refine U318 ?_;refine U193 ?_;refine⟨rfl,congrArg Value.bool (by first|exact vi0 Th0|rfl|(simp_all;done)|(rw[Bool.eq_iff_iff];simp_all;omega)),?_⟩;exact W0.upd rfl (W0.upd rfl (W0.upd rfl (W0.upd rfl (W0.upd rfl (W0.refl _ _)))))
   ·refine L.off rfl ?_;refine U72 ?_;refine U43 ?_;refine⟨rfl,congrArg Value.bool (by first|exact vh0 Th0|rfl|(simp_all;done)|(rw[Bool.eq_iff_iff];simp_all;omega)),?_⟩;exact W0.upd rfl (W0.upd rfl (W0.upd rfl (W0.upd rfl (W0.upd rfl (W0.refl _ _)))))
   exact U111
  ·refine W.seq ?_;refine U191 ?_;refine W.ct0 rfl (fun h25=>?_) (fun h25=>?_)
   ·refine W.seq ?_;refine U186 ?_;refine L.gg0 4 [30,31,32,33,34] 34 (.bool (decide (o.call=5\/o.call=7))) (tj:=30) rfl (fun Ti0=>?_) (fun Ti0=>?_) (fun f=>?_)
    ·refine L.off rfl ?_;refine U183 ?_;refine⟨rfl,congrArg Value.bool (by first|exact Km0 Ti0|rfl|(simp_all;done)|(rw[Bool.eq_iff_iff];simp_all;omega)),?_⟩;exact W0.upd rfl (W0.upd rfl (W0.upd rfl (W0.upd rfl (W0.upd rfl (W0.refl _ _)))))
    ·refine L.on rfl ?_;refine U184 ?_;refine⟨rfl,congrArg Value.bool (by first|exact Kn0 Ti0|rfl|(simp_all;done)|(rw[Bool.eq_iff_iff];simp_all;omega)),?_⟩;exact W0.upd rfl (W0.upd rfl (W0.upd rfl (W0.upd rfl (W0.upd rfl (W0.refl _ _)))))
    exact U111
   ·refine W.seq ?_;refine U191 ?_;refine W.ct0 rfl (fun h35=>?_) (fun h35=>?_)
    ·refine W.seq ?_;refine U186 ?_;refine L.gg0 4 [40,41,42,43,44] 44 (.bool (decide (o.call=5\/o.call=6))) (tj:=40) rfl (fun Tj0=>?_) (fun Tj0=>?_) (fun f=>?_)
     ·refine L.off rfl ?_;refine U183 ?_;refine⟨rfl,congrArg Value.bool (by first|exact Km0 Tj0|rfl|(simp_all;done)|(rw[Bool.eq_iff_iff];simp_all;omega)),?_⟩;exact W0.upd rfl (W0.upd rfl (W0.upd rfl (W0.upd rfl (W0.upd rfl (W0.refl _ _)))))
     ·refine L.on rfl ?_;refine U184 ?_;refine⟨rfl,congrArg Value.bool (by first|exact Kn0 Tj0|rfl|(simp_all;done)|(rw[Bool.eq_iff_iff];simp_all;omega)),?_⟩;exact W0.upd rfl (W0.upd rfl (W0.upd rfl (W0.upd rfl (W0.upd rfl (W0.refl _ _)))))
     exact U111
    ·refine W.seq ?_;refine U191 ?_;refine W.ct0 rfl (fun h45=>?_) (fun h45=>?_)
     ·refine W.seq ?_;refine U186 ?_;refine L.gg0 4 [50,51,52,53,54] 54 (.bool (decide (o.call=8\/o.call=9))) (tj:=50) rfl (fun yz0=>?_) (fun yz0=>?_) (fun f=>?_)
      ·refine L.off rfl ?_;refine U183 ?_;refine⟨rfl,congrArg Value.bool (by first|exact Km0 yz0|rfl|(simp_all;done)|(rw[Bool.eq_iff_iff];simp_all;omega)),?_⟩;exact W0.upd rfl (W0.upd rfl (W0.upd rfl (W0.upd rfl (W0.upd rfl (W0.refl _ _)))))
      ·refine L.on rfl ?_;refine U184 ?_;refine⟨rfl,congrArg Value.bool (by first|exact Kn0 yz0|rfl|(simp_all;done)|(rw[Bool.eq_iff_iff];simp_all;omega)),?_⟩;exact W0.upd rfl (W0.upd rfl (W0.upd rfl (W0.upd rfl (W0.upd rfl (W0.refl _ _)))))
      exact U111
     ·refine W.skip ?_;refine U414 ?_;refine U35 ?_;exact⟨_,rfl,by unfold POk;simp only[Bool.false_eq_true,false_iff];omega,hb⟩
set_option maxHeartbeats 1000000 in
theorem Zk0 {m bc sn scp:Nat} {bo:Nat->List V2} {ba sa:Option Addr} {oa:Nat->Option Addr} {oc:Nat->Nat} (w0:World) (hm:m <=1000000000000) (hsn:sn <=9223372036854775807) (hBo:r7 w0 ba m bo oa oc) :
  C prog 9 #[.slice ba m bc,.slice sa sn scp] w0 fun v w=>∃b,v= .bool b/\(b=true->Mu0 m bo sn)/\Below w0.heap.size w0 w:=by
 refine C.enter (n:=55) func9 rfl rfl ?_;have hb:Below w0.heap.size w0 w0:=Below.refl _ _;have hlen:=hBo.len;refine U2 ?_;refine U88 ?_;refine U15 ?_;refine U7 ?_;refine U82 ?_;refine W.loop (fun k e w=>∃(i:Nat),∃(x:Int),k=m-i/\e 0= .slice ba m bc/\e 1= .slice sa sn scp/\e 4= .bool false/\e 5= .int .i64 x/\e 6= .int .i64 (i:Nat)/\i <=m/\(i <=16->x=(sumTo i (fun j=>(bo j).length):Nat))/\(i <=16->x <=3000->∀j,j<i->∀o,o∈bo j->POk o)/\r7 w ba m bo oa oc/\Below w0.heap.size w0 w) _ ⟨0,0,rfl,rfl,rfl,rfl,rfl,rfl,Nat.zero_le _,(fun _=>rfl),(fun _ _ j hj=>absurd hj (Nat.not_lt_zero _)),hBo,hb⟩ ?_;rintro k e w ⟨i,x,hk,s0,s1,s4,s5,s6,hi,hx,hkd,hBo,hb⟩;rw[L1 s0,L1 s1,L1 s4,L1 s5,L1 s6];clear s0 s1 s4 s5 s6;refine U34 ?_;refine U158 ?_;refine U79 ?_;refine W.ct0 rfl (fun h11=>?_) (fun h11=>?_)
 ·have H2:i<m:=by omega
  have hle:=hlen i H2;refine U60 ?_;refine U100 ?_;refine U131 ?_;refine U549 ?_;refine L.va (fx0 (κ:=.i64) (m:=x) (k:=((bo i).length:Int)) rfl rfl) ?_;refine U104 ?_;refine U82 ?_;refine W.loop (fun k e w=>∃(k2:Nat),∃(y:Int),k=(bo i).length-k2/\e 0= .slice ba m bc/\e 1= .slice sa sn scp/\e 4= .bool false/\e 5= .int .i64 y/\e 6= .int .i64 (i:Nat)/\e 7= .int .i64 (k2:Nat)/\(i+1 <=16->y=(sumTo (i+1) (fun j=>(bo j).length):Nat))/\k2 <=(bo i).length/\(∀(q:Nat) o,q<k2->(bo i)[q]? =some o->POk o)/\r7 w ba m bo oa oc/\Below w0.heap.size w0 w) _ ⟨0,_,rfl,rfl,rfl,rfl,rfl,rfl,rfl,(Is0 hlen H2 hx),Nat.zero_le _,(fun q o hq=>absurd hq (Nat.not_lt_zero _)),hBo,hb⟩ ?_;rintro k e w ⟨k2,y,hk,s0,s1,s4,s5,s6,s7,hy,hkl,hq,hBo,hb⟩;rw[L1 s0,L1 s1,L1 s4,L1 s5,L1 s6,L1 s7];clear s0 s1 s4 s5 s6 s7;refine U34 ?_;refine U131 ?_;refine U549 ?_;refine L.va (eu0 rfl rfl) ?_;refine L.va (bl0 rfl) ?_;refine L.gg0 3 [28,29,30,31] 31 (.bool (decide (k2<(bo i).length/\y <=3000))) (tj:=28) rfl (fun Tk0=>?_) (fun Tk0=>?_) (fun f=>?_)
  ·refine L.on rfl ?_;refine L.va (Y3 rfl) ?_;refine U193 ?_;refine⟨rfl,congrArg Value.bool (by first|exact vi0 Tk0|rfl|(simp_all;done)|(rw[Bool.eq_iff_iff];simp_all;omega)),?_⟩;exact W0.upd rfl (W0.upd rfl (W0.upd rfl (W0.upd rfl (W0.refl _ _))))
  ·refine L.off rfl ?_;refine L.off rfl ?_;refine U43 ?_;refine⟨rfl,congrArg Value.bool (by first|exact vh0 Tk0|rfl|(simp_all;done)|(rw[Bool.eq_iff_iff];simp_all;omega)),?_⟩;exact W0.upd rfl (W0.upd rfl (W0.upd rfl (W0.upd rfl (W0.refl _ _))))
  refine U4 ?_;refine W.ct0 rfl (fun h31=>?_) (fun h31=>?_)
  ·obtain⟨o,ho⟩:∃o,(bo i)[k2]? =some o:=⟨_,List.getElem?_eq_getElem h31.1⟩
   refine U60 ?_;refine U248 ?_;refine U309 ?_;refine L.va (Y3 rfl) ?_;refine L.va (M5 (i:=k2) rfl rfl underlying50 R5 (hBo.ops i H2).sl h31.1) ?_;refine L.va (E1 (cs:=yp0 o) rfl underlying52 rfl R5 rfl (fun q v hq=>(hBo.ops i H2).cell k2 o ho q v hq)) ?_;refine L.call (D2 rfl func37 rfl cc1 rfl) (Mw0 o _) ?_;rintro _ w ⟨b,rfl,hri,j2⟩;have hb:=O0 hb j2;have hBo:=hBo.A0 j2;refine L.va (ky0 rfl) ?_;refine U4 ?_;refine W.cond rfl (fun h42=>?_) (fun h42=>?_)
   ·refine W.seq ?_;refine W.region rfl ?_;refine U35 ?_;exact⟨false,rfl,(fun h=>by cases h),hb⟩
   ·have hbb:b=true:=by simpa using h42
    refine W.skip ?_;refine U181 ?_;exact⟨_,by omega,⟨k2+1,y,rfl,rfl,rfl,rfl,rfl,rfl,rfl,hy,h31.1,(fun q o2 hq2 hq3=>by
     rcases Nat.lt_or_eq_of_le (Nat.le_of_lt_succ hq2)with z|z
     ·exact hq q o2 z hq3
     ·subst z;rw[ho]at hq3;cases hq3;exact hri.1 hbb),hBo,hb⟩⟩
  ·refine W.exit ?_;refine U126 ?_;refine U181 ?_;exact⟨_,by omega,⟨i+1,y,rfl,rfl,rfl,rfl,rfl,rfl,(by omega),hy,(Mv0 hx hkd hy hq h31),hBo,hb⟩⟩
 ·have him:i=m:=by omega
  refine W.exit ?_;refine U126 ?_;show W _ _ _ _ _ _;refine U100 ?_;refine L.va (zx0 rfl rfl) ?_;refine L.va (bl0 rfl) ?_;refine L.gg0 4 [45,46,47,48,49] 49 (.bool (decide (x <=3000/\m <=16))) (tj:=45) rfl (fun Tl0=>?_) (fun Tl0=>?_) (fun f=>?_)
  ·refine L.on rfl ?_;refine U548 ?_;refine U193 ?_;refine⟨rfl,congrArg Value.bool (by first|exact vi0 Tl0|rfl|(simp_all;done)|(rw[Bool.eq_iff_iff];simp_all;omega)),?_⟩;exact W0.upd rfl (W0.upd rfl (W0.upd rfl (W0.upd rfl (W0.upd rfl (W0.refl _ _)))))
  ·refine L.off rfl ?_;refine U72 ?_;refine U43 ?_;refine⟨rfl,congrArg Value.bool (by first|exact vh0 Tl0|rfl|(simp_all;done)|(rw[Bool.eq_iff_iff];simp_all;omega)),?_⟩;exact W0.upd rfl (W0.upd rfl (W0.upd rfl (W0.upd rfl (W0.upd rfl (W0.refl _ _)))))
  refine L.va (bl0 rfl) ?_;refine L.gg0 4 [50,51,52,53,54] 54 (.bool (decide ((x <=3000/\m <=16)/\sn <=20000))) (tj:=50) rfl (fun yz0=>?_) (fun yz0=>?_) (fun f=>?_)
  ·refine L.on rfl ?_;refine U497 ?_;refine L.va (H6 rfl underlying23 rfl) ?_;refine U193 ?_;refine⟨rfl,congrArg Value.bool (by first|exact vi0 yz0|rfl|(simp_all;done)|(rw[Bool.eq_iff_iff];simp_all;omega)),?_⟩;exact W0.upd rfl (W0.upd rfl (W0.upd rfl (W0.upd rfl (W0.upd rfl (W0.refl _ _)))))
  ·refine L.off rfl ?_;refine U72 ?_;refine U43 ?_;refine⟨rfl,congrArg Value.bool (by first|exact vh0 yz0|rfl|(simp_all;done)|(rw[Bool.eq_iff_iff];simp_all;omega)),?_⟩;exact W0.upd rfl (W0.upd rfl (W0.upd rfl (W0.upd rfl (W0.upd rfl (W0.refl _ _)))))
  refine U35 ?_;refine⟨_,rfl,fun h=>?_,hb⟩;obtain⟨⟨g1,g2⟩,g3⟩:=of_decide_eq_true h;subst him;have hs:=hx g2;exact⟨g2,by omega,fun j j3 o ho=>hkd g2 g1 j j3 o ho,g3⟩
end
theorem Be0 {f:Nat->Nat}:∀{m i:Nat},i<m->f i <=sumTo m f
 |m+1,i,h=>by
  show f i <=sumTo m f+f m;rcases Nat.lt_or_eq_of_le (Nat.le_of_lt_succ h)with z|z
  ·have:=Be0 (f:=f) z;omega
  ·subst z;omega
theorem Zl0 {p:r4}:∀q,(I3 p).Reach q->q.N2=[]:=by
 refine Sys.ind (Y:=I3 p) (fun q=>q.N2=[]) rfl (fun q h _=>?_) (fun q i l h _ hf _=>?_)
 ·show q.N2++tell _ _ (o4 (p.bo q.ft.length) 0 q.s).N2=[];rw[h];rfl
 ·unfold Sys.y5;rw[hf];show q.N2++tell _ _ (goP (p.bo i) i l q.s).N2=[];rw[h,Az0];rfl
def fvP (b1:Nat->Nat) (bp tp k:Nat):Value:=.func (.func 46) #[] #[.pointer (some ⟨b1 k,0,none⟩),.pointer (some ⟨bp,0,none⟩),.pointer (some ⟨tp,0,none⟩)]
theorem Cx0 {m x bp tp:Nat} {b1:Nat->Nat}:(List.range (m+1)).map (fvP (upN b1 m x) bp tp)=(List.range m).map (fvP b1 bp tp) ++ [.func (.func 46) #[] #[.pointer (some ⟨x,0,none⟩),.pointer (some ⟨bp,0,none⟩),.pointer (some ⟨tp,0,none⟩)]]:=by
 rw[List.range_succ,List.map_append];congr 1
 ·apply List.map_congr_left;intro i hi;have:i≠m:=by have:i<m:=(by simpa using hi);omega
  unfold fvP;rw[l5 this]
 ·simp[fvP,R4]
structure aa0 (w:World) (m:Nat) (bo:Nat->List V2) (oa:Nat->Option Addr) (oc b1:Nat->Nat):Prop where
 blk:∀i,i<m->S0 w (b1 i) #[.slice (oa i) (bo i).length (oc i)] 50
section
variable {w w':World}{m:Nat}{bo:Nat->List V2}{oa:Nat->Option Addr}{oc b1:Nat->Nat}
theorem aa0.A0 (h:aa0 w m bo oa oc b1) (hb:Below w.heap.size w w'):aa0 w' m bo oa oc b1:=⟨fun i hi=>(h.blk i hi).A0 hb⟩
theorem aa0.mod {B:Nat} {TS:List TypeId} (h:aa0 w m bo oa oc b1) (hm:V7 w w' B TS) (hT:TS.contains 50=false):aa0 w' m bo oa oc b1:=⟨fun i hi=>(h.blk i hi).mod hm hT⟩
theorem aa0.snoc {x:Nat} (h:aa0 w m bo oa oc b1) (hx:S0 w x #[.slice (oa m) (bo m).length (oc m)] 50):aa0 w (m+1) bo oa oc (upN b1 m x):=by
 have key:∀i,i<m+1->i≠m->i<m:=fun i hi hn=>by omega
 refine⟨fun i hi=>?_⟩;by_cases hn:i=m
 ·subst hn;rw[R4];exact hx
 ·rw[l5 hn];exact h.blk i (key i hi hn)
end
theorem cq0 {T:TypeId} (h1:T≠195) (h2:T≠123) (h3:T≠132) (h4:T≠115):∀t,T≠tty t:=fun t=>by
 unfold tty;split
 ·exact h1
 split
 ·exact h2
 split
 ·exact h3
 ·exact h4
theorem It0 (t:Nat):(∀k,mty t≠tty k)/\mty t≠45/\mty t≠2/\mty t≠0/\mty t≠73:=by
 unfold mty;split
 ·exact⟨cq0 (by decide) (by decide) (by decide) (by decide),by decide,by decide,by decide,by decide⟩
 ·exact⟨cq0 (by decide) (by decide) (by decide) (by decide),by decide,by decide,by decide,by decide⟩
section
variable {w w':World}{B wb tb:Nat}{sb mb:Nat->Nat->Nat}
theorem cb0.A0 (h:cb0 w B wb tb sb mb) (hb:Below w.heap.size w w'):cb0 w' B wb tb sb mb :=
 ⟨h.hT.A0 hb,h.lT,fun t n h1 h2 h3=>⟨(h.hM t n h1 h2 h3).1.A0 hb,(h.hM t n h1 h2 h3).2⟩,fun t n h1 h2 h3=>let⟨sa,hS⟩:=h.hS t n h1 h2 h3;⟨sa,hS.A0 hb⟩,h.lS,h.inj⟩
theorem cb0.down {B':Nat} (h:cb0 w B wb tb sb mb) (hB:B' <=B):cb0 w B' wb tb sb mb :=
 ⟨h.hT,Nat.le_trans hB h.lT,fun t n h1 h2 h3=>⟨(h.hM t n h1 h2 h3).1,Nat.le_trans hB (h.hM t n h1 h2 h3).2⟩,h.hS,fun t n h1 h2 h3=>Nat.le_trans hB (h.lS t n h1 h2 h3),h.inj⟩
theorem cb0.mod {B':Nat} {TS:List TypeId} (h:cb0 w B wb tb sb mb) (hm:V7 w w' B' TS) (hT:(TS.contains 72 ||TS.contains 113 ||TS.contains 125 ||TS.contains 195 ||TS.contains 123 ||TS.contains 132 ||TS.contains 115)=false):cb0 w' B wb tb sb mb:=by
 simp only[Bool.or_eq_false_iff]at hT;obtain⟨⟨⟨⟨⟨⟨a1,a2⟩,a3⟩,a4⟩,a5⟩,a6⟩,a7⟩:=hT;refine⟨h.hT.mod hm a1,h.lT,fun t n h1 h2 h3=>⟨(h.hM t n h1 h2 h3).1.mod hm ?_,(h.hM t n h1 h2 h3).2⟩,fun t n h1 h2 h3=>let⟨sa,hS⟩:=h.hS t n h1 h2 h3;⟨sa,hS.mod hm ?_⟩,h.lS,h.inj⟩
 ·unfold mty;split
  ·exact a2
  ·exact a3
 ·unfold tty;split
  ·exact a4
  split
  ·exact a5
  split
  ·exact a6
  ·exact a7
end
abbrev pS (p:r4) (sc:Nat->Int) (sn:Nat):PS:=((I3 p).pn sc sn).s
structure j7 (p:r4) (sc:Nat->Int) (sn B:Nat) (w:World) (R:Rn) (r:B5):Prop where
 lg:S0 w p.lgb (arr p.m fun i=>.slice (r.la i) ((pS p sc sn).S2 i).length (r.lc i)) 45
 ans:∀i,i<p.m->Own w p.B 2 1 (r.la i) ((pS p sc sn).S2 i).length (r.lc i) (Io0 ((pS p sc sn).S2 i))
 run:gq0 (I3 p) sc sn B R w
section
variable {p:r4}{sc:Nat->Int}{sn B:Nat}{w w':World}{R:Rn}{r:B5}
theorem j7.A0 (h:j7 p sc sn B w R r) (hb:Below w.heap.size w w'):j7 p sc sn B w' R r :=
 ⟨h.lg.A0 hb,fun i hi=>Own.congr (h.ans i hi) fun ha=>hb.block _ ((h.ans i hi).lt ha),h.run.A0 hb⟩
theorem j7.down {B':Nat} (h:j7 p sc sn B w R r) (hB:B' <=B):j7 p sc sn B' w R r:=⟨h.lg,h.ans,h.run.down hB⟩
theorem j7.k5 (h:j7 p sc sn B w R r) {b:Nat} (hg:w.grownBy w' (some b)) (hn:b<B/\∃cs,S0 w b cs 30):j7 p sc sn B w' R r:=by
 obtain⟨H2,cs,hB⟩:=hn;exact⟨h.lg.other hg (S0.ne h.lg hB (by decide)),fun i hi=>(h.ans i hi).k5 hg (Own.Pa0 (h.ans i hi) (T3 hB) (by decide)),h.run.k5 hg fun z=>by have:=h.run.fp b z;omega⟩
end
theorem Iu0 {w:World} {a:Addr} {v:Value} (h:w.cell? a=some v):w.heap[a.block]? ≠some nothing:=by
 unfold World.cell? at h;intro e;rw[e]at h;simp[nothing]at h
set_option maxHeartbeats 1000000 in
theorem za0 {lb:Nat} {pl:Nat->x6} {m sn lc scp wb tb lgb bp tp:Nat} {bo:Nat->List V2} {sc:Nat->Int} {ba l sa:Option Addr} {oa:Nat->Option Addr} {oc b1:Nat->Nat} {sb mb:Nat->Nat->Nat} {w0 w:World} (hBo:r7 w0 ba m bo oa oc) (hz:∀i,m <=i->bo i=[]) (hSc:ug0 w0 sa sn scp sc) (hF:Mu0 m bo sn) (hb:Below w0.heap.size w0 w)
  (hl:Own w w0.heap.size 73 1 l m lc ((List.range m).map (fvP b1 bp tp))) (hTh:cb0 w w0.heap.size wb tb sb mb) (hW:S0 w wb #[.bool false] 105)
  (hG:S0 w lgb (arr m fun _=>.slice none 0 0) 45) (hbp:S0 w bp #[.pointer (some ⟨tb,0,none⟩)] 54) (htp:S0 w tp #[.slice (some ⟨lgb,0,none⟩) m m] 31) (hx:aa0 w m bo oa oc b1) (l1:w0.heap.size <=lgb) :
  @C prog (o7 lb pl) 48 #[.slice l m lc,.slice sa sn scp] w fun v w'=>∃(p:r4) (R:Rn) (r:B5),v= .tuple #[Gu0 R,.int .i64 0]/\(p.m=m/\p.bo=bo/\p.lgb=lgb/\p.B=w0.heap.size)/\e5 p/\j7 p sc sn w.heap.size w' R r /\
   S0 w' tp #[.slice (some ⟨lgb,0,none⟩) m m] 31/\Below w0.heap.size w0 w'/\(w.heap.size <=w'.heap.size)/\∀(b:Nat) (cs:Array Value),w0.heap.size <=b->S0 w b cs 30->S0 w' b cs 30:=by
 classical
 let RO:Nat->Prop:=fun b=>b=tb\/b=wb\/(∃t n,1 <=t/\t <=2/\n<2/\b=mb t n)\/b=bp\/b=tp\/(∃i,i<m/\b=b1 i)\/∃i,i<m/\0<(bo i).length/\b=ab (oa i)
 let p:r4:=⟨m,bo,tb,wb,sb,mb,lgb,RO,w,w0.heap.size,lb,pl⟩
 have J5:∀i,i<m->0<(bo i).length->∃v,w0.cell? ⟨ab (oa i),ao (oa i)+0*4+0,none⟩=some v:=fun i hi hl0=>by
  obtain⟨o,ho⟩:∃o,(bo i)[0]? =some o:=⟨_,List.getElem?_eq_getElem hl0⟩
  exact⟨_,(hBo.ops i hi).cell 0 o ho 0 _ rfl⟩
 have ol0:∀i,i<m->0<(bo i).length->ab (oa i)<w0.heap.size:=fun i hi hl0=>by
  obtain⟨v,hv⟩:=J5 i hi hl0;exact gp0 hv
 have hRO:∀b,RO b->b<w0.heap.size\/∃cs T,S0 w b cs T/\(∀t,T≠tty t)/\T≠45/\T≠2/\T≠0/\T≠73:=by
  rintro b (h|h|⟨t,n,h1,h2,h3,h⟩|h|h|⟨i,hi,h⟩|⟨i,hi,h0,h⟩)
  ·rw[h];exact .inr ⟨_,_,hTh.hT,cq0 (by decide) (by decide) (by decide) (by decide),by decide,by decide,by decide,by decide⟩
  ·rw[h];exact .inr ⟨_,_,hW,cq0 (by decide) (by decide) (by decide) (by decide),by decide,by decide,by decide,by decide⟩
  ·have:=It0 t;rw[h];exact .inr ⟨_,_,(hTh.hM t n h1 h2 h3).1,this.1,this.2.1,this.2.2.1,this.2.2.2.1,this.2.2.2.2⟩
  ·rw[h];exact .inr ⟨_,_,hbp,cq0 (by decide) (by decide) (by decide) (by decide),by decide,by decide,by decide,by decide⟩
  ·rw[h];exact .inr ⟨_,_,htp,cq0 (by decide) (by decide) (by decide) (by decide),by decide,by decide,by decide,by decide⟩
  ·rw[h];exact .inr ⟨_,_,hx.blk i hi,cq0 (by decide) (by decide) (by decide) (by decide),by decide,by decide,by decide,by decide⟩
  ·rw[h];exact .inl (ol0 i hi h0)
 have em1:∀b,RO b->b<w.heap.size/\w.heap[b]? ≠some nothing:=fun b hr=>by
  rcases hRO b hr with H2|⟨cs,T,hB,_,_,_,h0,_⟩
  ·have hx:∃i,i<m/\0<(bo i).length/\b=ab (oa i)\/∃cs T,S0 w b cs T/\T≠0:=by
    rcases hr with h|h|⟨t,n,h1,h2,h3,h⟩|h|h|⟨i,hi,h⟩|⟨i,hi,h0,h⟩
    ·exact⟨0,.inr ⟨_,_,h▸hTh.hT,by decide⟩⟩
    ·exact⟨0,.inr ⟨_,_,h▸hW,by decide⟩⟩
    ·exact⟨0,.inr ⟨_,_,h▸(hTh.hM t n h1 h2 h3).1,(It0 t).2.2.2.1⟩⟩
    ·exact⟨0,.inr ⟨_,_,h▸hbp,by decide⟩⟩
    ·exact⟨0,.inr ⟨_,_,h▸htp,by decide⟩⟩
    ·exact⟨0,.inr ⟨_,_,h▸hx.blk i hi,by decide⟩⟩
    ·exact⟨i,.inl ⟨hi,h0,h⟩⟩
   obtain⟨i,⟨hi,h0,h⟩|⟨cs,T,hB,hT⟩⟩:=hx
   ·obtain⟨v,hv⟩:=J5 i hi h0;have hv':=ei0 hv hb;rw[h];exact⟨gp0 hv',Iu0 hv'⟩
   ·exact gu0 hB hT
  ·exact gu0 hB h0
 have hP:e5 p:=by
  refine⟨em1,fun b hr=>?_,fun t n h1 h2 h3=>hTh.lS t n h1 h2 h3,hTh.inj,⟨.inl rfl,hTh.hT⟩,⟨.inr (.inl rfl),hW⟩,fun t n h1 h2 h3=>⟨.inr (.inr (.inl ⟨t,n,h1,h2,h3,rfl⟩)),(hTh.hM t n h1 h2 h3).1⟩,fun i o ho=>?_⟩
  ·rcases hRO b hr with h|⟨cs,T,hB,h1,h2,h3,_,_⟩
   ·exact .inl h
   ·exact .inr ⟨cs,T,hB,h1,h2,h3⟩
  ·rcases Nat.lt_or_ge i m with z|z
   ·exact hF.ops i z o ho
   ·rw[show p.bo i=[] from hz i z]at ho;cases ho
 have hlen:∀i,i<m->(bo i).length <=100000:=fun i hi=>by
  have h1:=Be0 (f:=fun i=>(bo i).length) hi;have h2:=hF.sum;have h1:(bo i).length <=sumTo m fun i=>(bo i).length:=h1;omega
 have hD:∀i,i<m->ov0 p i (b1 i) bp tp (oa i) (oc i):=fun i hi=>⟨.inr (.inr (.inr (.inr (.inr (.inl ⟨i,hi,rfl⟩))))),.inr (.inr (.inr (.inl rfl))),.inr (.inr (.inr (.inr (.inl rfl)))),fun h0=>.inr (.inr (.inr (.inr (.inr (.inr ⟨i,hi,h0,rfl⟩))))),hx.blk i hi,hbp,htp,(hBo.ops i hi).A0 hb,hlen i hi⟩
 have hO:jm0 (I3 p) (fun _=>46) (fun i=>#[.pointer (some ⟨b1 i,0,none⟩),.pointer (some ⟨bp,0,none⟩),.pointer (some ⟨tp,0,none⟩)]) (fvP b1 bp tp) l sa sn sc:=by
  refine⟨gw0 hP,hF.m1,Nat.le_trans hF.sn1 (by decide),hl.sl,hSc.sl,fun i hi=>.inr ⟨rfl,rfl,_,func46,rfl,cj1⟩,?_,fun base i cb top u F hi _ hs=>?_⟩
  ·rw[Zl0 _ (.inr ⟨sc,sn,rfl⟩)];exact Nat.zero_le _
  ·obtain⟨s,r,hE,hc,_⟩:=V8.start hs hP;exact Ct0 rfl (Sl0 (hD i hi) hi u hE hc)
 let r0:B5:=⟨fun _=>none,fun _=>0⟩
 have hM0:da0 p w ps0 r0:=⟨hTh.hS,hG,fun i hi=>Own.nil _ _ _ _,fun i j _ _ _ h=>absurd rfl h,fun _ _=>rfl,l1⟩
 have hinv:Si0 p ps0 (fun _=>0) w (PF p r0):=⟨r0,rfl,hM0⟩
 have hFT:∀b,PF p r0 b->b<w0.heap.size/\RO b\/∃cs T,S0 w b cs T/\T≠73:=fun b hb2=>by
  rcases hb2 with⟨t,n,h1,h2,h3,rfl⟩|rfl|⟨i,_,ha,_⟩|h
  ·obtain⟨sa,hS⟩:=hTh.hS t n h1 h2 h3;exact .inr ⟨_,_,hS,(cq0 (T:=73) (by decide) (by decide) (by decide) (by decide) t).symm⟩
  ·exact .inr ⟨_,_,hG,by decide⟩
  ·exact absurd rfl ha
  ·rcases hRO b h with z|⟨cs,T,hB,_,_,_,_,h5⟩
   ·exact .inl ⟨z,h⟩
   ·exact .inr ⟨cs,T,hB,h5⟩
 have hlF:0<m->¬PF p r0 (ab l):=fun hm hh=>by
  obtain⟨cur,hc,hle,_⟩:=hl.row (hl.Aa0 hm);rcases hFT _ hh with⟨z,_⟩|⟨cs,T,hB,hT⟩
  ·omega
  ·exact S0.ne hB hc hT rfl
 have Pd0:∀b,b<w0.heap.size->PF p r0 b->RO b:=fun b H2 hh=>by
  rcases hh with⟨t,n,h1,h2,h3,e⟩|e|⟨i,_,ha,_⟩|h
  ·have:=hTh.lS t n h1 h2 h3;have e:b=sb t n:=e;omega
  ·have e:b=lgb:=e;omega
  ·exact absurd rfl ha
  ·exact h
 have hsF:0<sn->¬PF p r0 (ab sa)\/∀s m w' F',(I3 p).Inv s m w' F'->w'.heap[ab sa]? =w.heap[ab sa]?:=fun h0=>by
  by_cases hr:RO (ab sa)
  ·refine .inr fun s m w' F' hI=>?_;obtain⟨r,_,hr'⟩:∃r,F'=PF p r/\da0 p w' s r:=hI;exact hr'.ro _ hr
  ·exact .inl fun hh=>hr (Pd0 _ (gp0 (hSc.cell 0 h0)) hh)
 have key:=Mc0 (Y:=I3 p) (m0:=fun _=>0) (lc:=lc) hO hinv (fun j hj=>by
   have hj:j<m:=hj;rw[hl.off,Nat.zero_add,Nat.mul_one];exact hl.cell (by simp[hj])) hlF (hSc.A0 hb) hsF
 refine @Calls.mono _ (o7 lb pl) _ _ _ _ _ key fun e w' he=>?_;cases e with
 |panicked ch=>exact he.elim
 |outgrown=>exact he.elim
 |returned v=>
  obtain⟨R,rfl,hX,⟨m',F',hI,hdR⟩,hos,by0,Zm0,B2,e8⟩:=he;obtain⟨r,rfl,hR'⟩:∃r,F'=PF p r/\da0 p w' (pS p sc sn) r:=hI;have k4:∀(b:Nat) (cs:Array Value),w0.heap.size <=b->S0 w b cs 30->S0 w' b cs 30:=fun b cs hlo hB=>by
   refine(e8 b (T3 hB).lt fun hF2=>?_).trans hB;rcases hF2 with⟨t,n,h1,h2,h3,z⟩|z|⟨i,_,ha,_⟩|h
   ·obtain⟨sa,hS⟩:=hTh.hS t n h1 h2 h3;exact S0.ne hB hS (cq0 (by decide) (by decide) (by decide) (by decide) t) z
   ·exact S0.ne hB hG (by decide) z
   ·exact absurd rfl ha
   ·rcases h with h|h|⟨t,n,h1,h2,h3,h⟩|h|h|⟨i,hi,h⟩|⟨i,hi,h0,h⟩
    ·exact S0.ne hB hTh.hT (by decide) h
    ·exact S0.ne hB hW (by decide) h
    ·exact S0.ne hB (hTh.hM t n h1 h2 h3).1 (by unfold mty;split <;> decide) h
    ·exact S0.ne hB hbp (by decide) h
    ·exact S0.ne hB htp (by decide) h
    ·exact S0.ne hB (hx.blk i hi) (by decide) h
    ·have:=ol0 i hi h0;omega
  refine⟨p,R,r,rfl,⟨rfl,rfl,rfl,rfl⟩,hP,⟨hR'.hG,hR'.hL,hX⟩,(hR'.ro tp (.inr (.inr (.inr (.inr (.inl rfl)))))).trans htp,hb.trans ⟨hos,Zm0,by0,B2,fun k hk=>?_⟩,B2,k4⟩;by_cases hkF:PF p r0 k
  ·exact hR'.ro k (Pd0 k hk hkF)
  ·exact e8 k (Nat.lt_of_lt_of_le hk hb.size) hkF
end Go.Vy.Sc
end
section
namespace Go.Vy.Sc
open Go Go.Conc Go.Yc Go.RowKit Go.Proofs Go.Proofs.YtnifpkopeheodaaGreat Tryz
open Go.Vc Go.Wg
theorem Bf0 (m:Nat) (v:Value):Array.replicate (m*1) v=arr m fun _=>v:=by
 rw[Nat.mul_one];apply Array.toList_inj.1;simp[arr,List.map_const']
section
variable [Ctx prog]
theorem Zn0 (x:Int) (w0:World):C prog 49 #[.int .i64 x] w0 fun v w=>v= .int .i64 x/\w=w0:=by
 refine C.enter (n:=4) func49 rfl rfl ?_;refine U2 ?_;refine U15 ?_;refine U100 ?_;refine U33 ?_;exact⟨rfl,rfl⟩
end
section
set_option maxHeartbeats 1000000 in
theorem Iv0 {lb:Nat} {pl:Nat->x6} {m bc sn scp:Nat} {bo:Nat->List V2} {sc:Nat->Int} {ba sa:Option Addr} {oa:Nat->Option Addr} {oc:Nat->Nat} (w0:World) (hBo:r7 w0 ba m bo oa oc) (hz:∀i,m <=i->bo i=[]) (hSc:ug0 w0 sa sn scp sc) (hF:Mu0 m bo sn) :
  @C prog (o7 lb pl) 11 #[.slice ba m bc,.slice sa sn scp] w0 fun v w=>∃(p:r4) (R:Rn) (r:B5),v= .tuple #[Gu0 R,.slice (some ⟨p.lgb,0,none⟩) m m,.bool true]/\(p.m=m/\p.bo=bo/\p.B=w0.heap.size)/\e5 p/\j7 p sc sn w0.heap.size w R r/\Below w0.heap.size w0 w:=by
 letI:Ctx prog:=o7 lb pl;refine C.enter (n:=44) func11 rfl rfl ?_;have hb:Below w0.heap.size w0 w0:=Below.refl _ _;have en1:=hF.m1;refine U2 ?_;refine L.alloc (cs:=#[.slice none 0 0,.slice none 0 0,.slice none 0 0,.slice none 0 0,.bool false,.int .i64 0]) Fq0 rfl (fun w b4 F4=>?_);have lt4:=F4.lq hb.size;have hb:=O0 hb F4.below;have l9:=F4.blk;refine L.va (ak0 rfl) ?_;refine U88 ?_;refine L.call (al0  func36 rfl Wa0 rfl) (jo0 _) ?_;rintro _ w ⟨wb,rfl,hwb,hW,j2⟩;have hwb:=Nat.le_trans hb.size hwb;have hb:=O0 hb j2;have l9:=l9.A0 j2;refine L.call (D2 rfl func16 rfl bo1 rfl) (Ir0 wb _ hW) ?_;rintro _ w ⟨tb,sb,mb,rfl,hTh,j2⟩;have hTh:cb0 w w0.heap.size wb tb sb mb:=hTh.down hb.size;have hb:=O0 hb j2;have l9:=l9.A0 j2;have hW:=hW.A0 j2;have dv0:=l9;have ws0:=hW;have jp0:=hTh;have ah0:=hb;refine L.alloc (cs:=#[.pointer none]) bj1 rfl (fun w b7 F7=>?_);have lt7:=F7.lq hb.size;have hB7:=F7.blk;refine L.pa [.p tb] bi1 hB7 (fun w C1 hg B2=>?_);have L7:=R3 F7.below F7.below.size hg (by have:=F7.here;omega);have l9:=dv0.A0 L7;have hW:=ws0.A0 L7;have hTh:=jp0.A0 L7;have hb:=O0 ah0 L7;have hB7:=C1;clear C1 hg B2 L7 F7 dv0 ws0 jp0 ah0;refine U10 ?_;refine U158 ?_;refine L.make (m:=m) rfl rfl underlying31 be1 (z0:=.slice none 0 0) rfl (by decide) (by omega) (by omega) (fun w b18 F18=>?_);have hu1:=F18.lq hb.size;have l18:w0.heap.size <=b18:=by omega
 have hb:=O0 hb F18.below;have l9:=l9.A0 F18.below;have hW:=hW.A0 F18.below;have hTh:=hTh.A0 F18.below;have hB7:=hB7.A0 F18.below;have Zo0:=F18.blk;have hG:S0 w b18 (arr m fun _=>.slice none 0 0) 45:=by have h9:=Zo0;rw[Bf0]at h9;exact h9
 clear Zo0;have dv0:=l9;have ws0:=hW;have jp0:=hTh;have wt0:=hB7;have Iw0:=hG;have ah0:=hb;refine L.alloc (cs:=#[.slice none 0 0]) bc1 rfl (fun w b8 F8=>?_);have lt8:=F8.lq hb.size;have hB8:=F8.blk;refine L.pa [.slice (some ⟨b18,0,none⟩) m m] bb1 hB8 (fun w C1 hg B2=>?_);have L7:=R3 F8.below F8.below.size hg (by have:=F8.here;omega);have l9:=dv0.A0 L7;have hW:=ws0.A0 L7;have hTh:=jp0.A0 L7;have hB7:=wt0.A0 L7;have hG:=Iw0.A0 L7;have hb:=O0 ah0 L7;have hB8:=C1;clear C1 hg B2 L7 F8 dv0 ws0 jp0 wt0 Iw0 ah0;refine U10 ?_;refine L.va (ak0 rfl) ?_;refine U61 ?_;refine U82 ?_;refine W.loop (fun k e w=>∃(i:Nat),∃(l:Option Addr),∃(lc:Nat),∃(b1:Nat->Nat),k=m-i/\e 0= .slice ba m bc/\e 1= .slice sa sn scp/\e 4= .pointer (some ⟨b4,0,none⟩)/\e 7= .pointer (some ⟨b7,0,none⟩)/\e 8= .pointer (some ⟨b8,0,none⟩)/\e 9= .slice l i lc/\e 10= .int .i64 (i:Nat)/\i <=m/\Own w w0.heap.size 73 1 l i lc ((List.range i).map (fvP b1 b7 b8))/\aa0 w i bo oa oc b1/\cb0 w w0.heap.size wb tb sb mb/\S0 w wb #[.bool false] 105/\S0 w b18 (arr m fun _=>.slice none 0 0) 45/\S0 w b4 #[.slice none 0 0,.slice none 0 0,.slice none 0 0,.slice none 0 0,.bool false,.int .i64 0] 30/\S0 w b7 #[.pointer (some ⟨tb,0,none⟩)] 54/\S0 w b8 #[.slice (some ⟨b18,0,none⟩) m m] 31/\Below w0.heap.size w0 w) _ ⟨0,none,0,(fun _=>0),rfl,rfl,rfl,rfl,rfl,rfl,rfl,rfl,Nat.zero_le _,Own.nil _ _ _ _,⟨fun i hi=>absurd hi (Nat.not_lt_zero _)⟩,hTh,hW,hG,l9,hB7,hB8,hb⟩ ?_;rintro k e w ⟨i,l,lc,b1,hk,s0,s1,s4,s7,s8,s9,s10,hi,hl,hx,hTh,hW,hG,l9,hB7,hB8,hb⟩;rw[L1 s0,L1 s1,L1 s4,L1 s7,L1 s8,L1 s9,L1 s10];clear s0 s1 s4 s7 s8 s9 s10;refine U34 ?_;refine U158 ?_;refine U79 ?_;refine W.ct0 rfl (fun h22=>?_) (fun h22=>?_)
 ·have H2:i<m:=by omega
  refine U60 ?_;refine U248 ?_;refine L.va (M5 (i:=i) rfl rfl underlying22 Ca0 hBo.sl H2) ?_;refine L.va (E0 (v:=.slice (oa i) (bo i).length (oc i)) rfl underlying50 rfl ((hBo.A0 hb).row i H2)) ?_;have Zp0:=hl;have Zq0:=hx;have jp0:=hTh;have ws0:=hW;have Iw0:=hG;have dv0:=l9;have wt0:=hB7;have wu0:=hB8;have ah0:=hb;refine L.alloc (cs:=#[.slice none 0 0]) Vn0 rfl (fun w b11 F11=>?_);have hv1:=F11.lq hb.size;have zb0:=F11.blk;refine L.pa [.slice (oa i) ((bo i).length) (oc i)] Ca0 zb0 (fun w C1 hg B2=>?_);have L7:=R3 F11.below F11.below.size hg (by have:=F11.here;omega);have hl:=Zp0.A0 L7;have hx:=Zq0.A0 L7;have hTh:=jp0.A0 L7;have hW:=ws0.A0 L7;have hG:=Iw0.A0 L7;have l9:=dv0.A0 L7;have hB7:=wt0.A0 L7;have hB8:=wu0.A0 L7;have hb:=O0 ah0 L7;have zb0:=C1;clear C1 hg B2 L7 F11 Zp0 Zq0 jp0 ws0 Iw0 dv0 wt0 wu0 ah0;refine U50 ?_;refine L.va (I8 rfl) ?_;refine L.va (S3 (l:=[.tmp 11,.tmp 7,.tmp 8]) (vs:=[.pointer (some ⟨b11,0,none⟩),.pointer (some ⟨b7,0,none⟩),.pointer (some ⟨b8,0,none⟩)]) rfl) ?_;refine L.lf0 (cs:=#[.func (.func 46) #[] #[.pointer (some ⟨b11,0,none⟩),.pointer (some ⟨b7,0,none⟩),.pointer (some ⟨b8,0,none⟩)]]) rfl rfl underlying90 Vr0 rfl ⟨_,bk1⟩ (by decide) (fun w b31 F31=>?_);have hx1:=F31.lq hb.size;have hb:=O0 hb F31.below;have hl:=hl.A0 F31.below;have hx:=hx.A0 F31.below;have hTh:=hTh.A0 F31.below;have hW:=hW.A0 F31.below;have hG:=hG.A0 F31.below;have l9:=l9.A0 F31.below;have hB7:=hB7.A0 F31.below;have hB8:=hB8.A0 F31.below;have zb0:=zb0.A0 F31.below;have eo1:=F31.blk;refine L.ef0 (B:=w0.heap.size) (m:=1) rfl rfl underlying90 bl1 rfl (by decide) hl (fun h=>by cases h) (news:=[.func (.func 46) #[] #[.p b11,.p b7,.p b8]]) rfl (fun ad had j u hj=>by
   cases had;rw[Addr.add_lit]
   match j,hj with
   |0,hj=>cases hj;exact eo1.F0 0 rfl) (fun u hu=>by simp only[List.mem_cons,List.not_mem_nil,or_false]at hu;subst hu;rfl) (by omega) (by omega) hb.size (fun l2 lc2 w2 hO2 hg2 di0 _=>?_)
  have hmo:V7 w w2 w0.heap.size [73]:=V7.app hl hg2 di0 rfl hO2;have hb:=hb.trans di0;have hx:=hx.mod hmo rfl;have hTh:=hTh.mod hmo rfl;have hW:=hW.mod hmo rfl;have hG:=hG.mod hmo rfl;have l9:=l9.mod hmo rfl;have hB7:=hB7.mod hmo rfl;have hB8:=hB8.mod hmo rfl;have zb0:=zb0.mod hmo rfl;clear hmo hg2 di0 hl
  rename World=>w
  refine U265 ?_;refine U181 ?_;exact⟨_,by omega,⟨i+1,l2,lc2,(upN b1 i b11),rfl,rfl,rfl,rfl,rfl,rfl,rfl,rfl,(by omega),(by rw[Cx0];exact hO2),(hx.snoc zb0),hTh,hW,hG,l9,hB7,hB8,hb⟩⟩
 ·obtain rfl:m=i:=by omega
  refine W.exit ?_;refine U117 ?_;refine U257 ?_;refine L.call (E4 rfl rfl func48 rfl cl1 rfl) (za0 hBo hz hSc hF hb hl hTh hW hG hB7 hB8 hx l18) ?_;have h4l:=l9.lt;rintro _ w1 ⟨p,R,r1,rfl,⟨pm,pbo,plg,pB⟩,hP,hY,hT2,j2,B2,hrn⟩;have l9:=hrn _ _ lt4 l9;have hb:=j2;have hB8:=hT2;clear j2 hT2 hl hTh hW hG hx hrn hB7
  skip
  rename World=>w
  refine U275 ?_;have dw0:=hY;have dv0:=l9;have wu0:=hB8;have ah0:=hb;refine L.alloc (cs:=#[.slice none 0 0,.slice none 0 0,.slice none 0 0,.slice none 0 0,.bool false,.int .i64 0]) Fq0 rfl (fun w b12 F12=>?_);have ir0:=F12.lq hb.size;have Mx0:=F12.ne l9;have I2:=F12.blk;refine L.pa [.slice R.ea R.evs.length R.ec,.slice R.na R.N2.length R.nc,.slice (some ⟨R.eb,0,none⟩) R.m R.m,.slice (some ⟨R.wb,0,none⟩) R.m R.m,.bool R.stuck,.int .i64 (R.used:Int)] if0 I2 (fun w C1 hg B2=>?_);refine U303 ?_;intro L7 hY;have l9:=dv0.A0 L7;have hB8:=wu0.A0 L7;have hb:=O0 ah0 L7;have I2:=C1;clear C1 hg B2 L7 F12 dw0 dv0 wu0 ah0;refine U211 ?_;refine W.fl 7 [3,5] [0,1,2,3,4,5,6] (fun w'=>S0 w' b12 #[.slice R.ea R.evs.length R.ec,.slice R.na R.N2.length R.nc,.slice (some ⟨R.eb,0,none⟩) R.m R.m,.slice (some ⟨R.wb,0,none⟩) R.m R.m,.bool R.stuck,.int .i64 (R.used:Int)] 30/\S0 w' b8 #[.slice (some ⟨b18,0,none⟩) m m] 31) (by kernel_rfl) (by kernel_rfl) (by kernel_rfl) (by kernel_rfl) (by kernel_rfl) (⟨I2.A0 (Below.refl w.heap.size w).drew,hB8.A0 (Below.refl w.heap.size w).drew⟩) ?_;have Q5:Below w.heap.size w w.drew:=(Below.refl w.heap.size w).drew;refine U393 ?_;intro hb hY;have l9:=l9.A0 Q5;have hB8:=hB8.A0 Q5;have I2:=I2.A0 Q5;clear Q5;generalize w.drew=w at *;refine F.va rfl rfl (fun w' V1=>(E1 (cs:=[.slice R.ea R.evs.length R.ec,.slice R.na R.N2.length R.nc,.slice (some ⟨R.eb,0,none⟩) R.m R.m,.slice (some ⟨R.wb,0,none⟩) R.m R.m,.bool R.stuck,.int .i64 (R.used:Int)]) rfl underlying30 rfl if0 rfl (V1.1.N5 rfl))) ?_;refine F.va rfl rfl (fun w' V1=>(E0 rfl underlying31 rfl (V1.2.F0 0 (v:=.slice (some ⟨b18,0,none⟩) m m) rfl))) ?_;refine F.va rfl rfl (fun w' V1=>(Y3 rfl)) ?_;refine F.doo rfl rfl ?_;refine L.call (D2 rfl func49 rfl cm1 rfl) (Zn0 _ w) ?_;rintro _ w1 ⟨rfl,hw⟩;refine U13 ?_;refine L.nil ⟨rfl,⟨I2,hB8⟩,?_⟩;refine F.va rfl rfl (fun w' V1=>(W1 (r:=true) (by decide) (n3 (m:=0) (k:=0) rfl rfl))) ?_;refine F.doo rfl rfl ?_;refine L.pu 0 [.slice R.ea R.evs.length R.ec,.slice R.na R.N2.length R.nc,.slice (some ⟨R.eb,0,none⟩) R.m R.m,.slice (some ⟨R.wb,0,none⟩) R.m R.m,.bool R.stuck,.int .i64 (R.used:Int)] #[.slice R.ea R.evs.length R.ec,.slice R.na R.N2.length R.nc,.slice (some ⟨R.eb,0,none⟩) R.m R.m,.slice (some ⟨R.wb,0,none⟩) R.m R.m,.bool R.stuck,.int .i64 (R.used:Int)] if0 l9 (fun w C1 hg B2=>?_);have T5:=V7.dj0 l9 hg;have hb:=R3 hb hb.size hg lt4;have hY:=hY.k5 hg ⟨h4l,_,l9⟩;have hB8:=hB8.mod T5 rfl;have I2:=I2.other hg (Ne.symm Mx0);have l9:=C1;clear T5;refine L.nil ⟨rfl,⟨I2,hB8⟩,?_⟩;refine F.va rfl rfl (fun w' V1=>(ak0 rfl)) ?_;refine U6 ?_;refine U9 ?_;refine W.ret ?_
  repeat(first|refine T.ret ?_|refine B.ret ?_|refine N.ret ?_)
  refine ends.Hs0 (cs:=#[.slice R.ea R.evs.length R.ec,.slice R.na R.N2.length R.nc,.slice (some ⟨R.eb,0,none⟩) R.m R.m,.slice (some ⟨R.wb,0,none⟩) R.m R.m,.bool R.stuck,.int .i64 (R.used:Int)]) (.inr rfl) rfl rfl underlying30 rfl if0 l9 ?_;exact⟨p,R,r1,by rw[plg];rfl,⟨pm,pbo,pB⟩,hP,hY.down (by omega),hb⟩
end
end Go.Vy.Sc
end
section
namespace Go.Yc
open Go Go.Conc
open Go.ConcN (sumTo upd sumTo_upd upd_ne upd_same sumTo_congr)
section
attribute [local irreducible] KK
def On (L:P3) (B:Nat->Prop) (a:Touch):Prop:=(a.write=false/\∃p∈L,a.loc= .cell p.1)\/∃ad,a.loc= .cell ad/\B ad.block
theorem On.mono {L:P3} {B B':Nat->Prop} (hB:∀b,B b->B' b) {a:Touch} (h:On L B a):On L B' a:=h.imp id fun⟨ad,h1,h2⟩=>⟨ad,h1,hB _ h2⟩
structure Apart (L0 Lc:P3) (B0 Bc:Nat->Prop):Prop where
 l0:∀p∈L0,¬Bc p.1.block
 lc:∀p∈Lc,¬B0 p.1.block
 own:∀b,B0 b->¬Bc b
theorem Apart.no {L0 Lc:P3} {B0 Bc:Nat->Prop} (H:Apart L0 Lc B0 Bc) {a b:Touch} (ha:On L0 B0 a) (hb:On Lc Bc b) (hl:a.loc=b.loc) (hw:a.write=true\/b.write=true):False:=by
 rcases ha with⟨h1,p,hp,h2⟩|⟨ad,h1,h2⟩ <;> rcases hb with⟨h3,p',hp',h4⟩|⟨ad',h3,h4⟩
 ·rcases hw with h|h
  ·rw[h1]at h;cases h
  ·rw[h3]at h;cases h
 ·rw[h2,h3]at hl;cases hl;exact H.l0 p hp h4
 ·rw[h1,h4]at hl;cases hl;exact H.lc p' hp' h2
 ·rw[h1,h3]at hl;cases hl;exact H.own _ h2 h4
structure TB (Sh:Loc->Prop) (Us:Nat->Prop) (c n0:Nat) (L0 Lc:P3) (B0 Bc:Nat->Prop) (A:Addr) (r:Option Nat) (t:Trace):Prop where
 clean:∀said,¬Race said t
 pre:∀i a,i<n0->touchAt t i=some a->a.loc.isMemory=true->¬Sh a.loc->Knows t 0 i/\Knows t c i
 post:∀i a g,n0 <=i->touchAt t i=some a->¬Sh a.loc->t.g? i=some g->(g=0/\On L0 B0 a)\/(g=c/\On Lc Bc a/\∀r0,r=some r0->i<r0)
 db0:∀i a g,touchAt t i=some a->Sh a.loc->t.g? i=some g->(∀g',Us g'->Knows t g' i)\/(a.kind≠.plain/\(g≠0->a.kind= .atomic/\¬t.heard i))
 rel:∀r0,r=some r0->r0<t.size/\t.act? r0=some (.mark (.releaseMerge A))/\t.g? r0=some c/\t.heard r0/\∀k,r0<k->t.act? k≠some (.mark (.release A))
def si0 (u:Trace):Prop:=∀op∈u,∀a,op.act≠.mark (.release a)
section
variable {Sh:Loc->Prop}{Us Us':Nat->Prop}{c n0:Nat}{L0 Lc:P3}{B0 Bc B0' Bc':Nat->Prop}{A:Addr}{r:Option Nat}{t u:Trace}
theorem act?_old {i:Nat} (h:i<t.size):(t++u).act? i=t.act? i:=by simp only[Trace.act?,getElem?_append_old h]
theorem TB.grow (H:TB Sh Us c n0 L0 Lc B0 Bc A r t) (h0:∀b,B0 b->B0' b) (hc:∀b,Bc b->Bc' b):TB Sh Us c n0 L0 Lc B0' Bc' A r t :=
 ⟨H.clean,H.pre,fun i a g hi ha hs hg=>(H.post i a g hi ha hs hg).imp (fun z=>⟨z.1,z.2.mono h0⟩) fun z=>⟨z.1,z.2.1.mono hc,z.2.2⟩,H.db0,H.rel⟩
theorem TB.leave (H:TB Sh Us c n0 L0 Lc B0 Bc A r t) (hU:∀g,Us' g->Us g):TB Sh Us' c n0 L0 Lc B0 Bc A r t :=
 ⟨H.clean,H.pre,H.post,fun i a g ha hs hg=>(H.db0 i a g ha hs hg).imp (fun z g' L6=>z g' (hU g' L6)) id,H.rel⟩
theorem TB.ul0 (H:TB Sh Us c n0 L0 Lc B0 Bc A r t) (hn:r≠none->si0 u):∀r0,r=some r0->r0<(t++u).size/\(t++u).act? r0=some (.mark (.releaseMerge A))/\(t++u).g? r0=some c/\(t++u).heard r0/\∀k,r0<k->(t++u).act? k≠some (.mark (.release A)):=by
 intro r0 h0;obtain⟨h1,h2,h3,h4,h5⟩:=H.rel r0 h0;refine⟨by rw[Array.size_append];omega,by rw[act?_old h1];exact h2,by rw[g?_old h1];exact h3,(heard_old h1).2 h4,fun k hk he=>?_⟩;rcases Nat.lt_or_ge k t.size with h|h
 ·rw[act?_old h]at he;exact h5 k hk he
 ·unfold Trace.act? at he;obtain⟨op,ho,he⟩:=Option.map_eq_some_iff.1 he;rcases getElem?_append_cases ho with⟨h',_⟩|⟨_,J5⟩
  ·omega
  ·exact hn (by rw[h0];simp) op J5 A he
theorem TB.M7 (H:TB Sh Us c n0 L0 Lc B0 Bc A r t) {i g:Nat} {a:Touch} {x:MemOp} (X3:t[i]? =some x) (C5:x.act.touch? =some a) (hs:Sh a.loc) (hg:(t++u).g? i=some g) :
  (∀g',Us g'->Knows (t++u) g' i)\/(a.kind≠.plain/\(g≠0->a.kind= .atomic/\¬(t++u).heard i)):=by
 have H2:=lt_size_of_getElem? X3;rw[g?_old H2]at hg;rcases H.db0 i a g (by rw[touchAt_of X3];exact C5) hs hg with this|this
 ·exact .inl fun g' L6=>(this g' L6).app u
 ·exact .inr ⟨this.1,fun B3=>⟨(this.2 B3).1,fun hh=>(this.2 B3).2 ((heard_old H2).1 hh)⟩⟩
theorem TB.mute (H:TB Sh Us c n0 L0 Lc B0 Bc A r t) (hn0:n0 <=t.size) (hn:∀op∈u,op.act.touch? =none) (hr:r≠none->si0 u):TB Sh Us c n0 L0 Lc B0 Bc A r (t++u):=by
 refine⟨fun said=>noRace_appendMute (H.clean said) hn,fun i a hi ha hm hs=>?_,fun i a g hi ha hs hg=>?_,fun i a g ha hs hg=>?_,H.ul0 hr⟩
 ·rw[touchAt_old (by omega)]at ha;have:=H.pre i a hi ha hm hs;exact⟨this.1.app u,this.2.app u⟩
 ·obtain⟨x,hx,C5⟩:=touch_of ha;rcases getElem?_append_cases hx with⟨H2,X3⟩|⟨_,S8⟩
  ·rw[g?_old H2]at hg;exact H.post i a g hi (by rw[touchAt_of X3];exact C5) hs hg
  ·rw[hn x S8]at C5;cases C5
 ·obtain⟨x,hx,C5⟩:=touch_of ha;rcases getElem?_append_cases hx with⟨_,X3⟩|⟨_,S8⟩
  ·exact H.M7 X3 C5 hs hg
  ·rw[hn x S8]at C5;cases C5
theorem TB.own (H:TB Sh Us c n0 L0 Lc B0 Bc A r t) (hap:Apart L0 Lc B0 Bc) (hn0:n0 <=t.size) {x:Nat} (hu:∀op∈u,op.g=x) (hs:∀op∈u,∀b,op.act.touch? =some b->¬Sh b.loc/\((x=0/\On L0 B0 b)\/(x=c/\On Lc Bc b/\r=none))) (hr:r≠none->si0 u):TB Sh Us c n0 L0 Lc B0 Bc A r (t++u):=by
 refine⟨fun said=>noRace_append (H.clean said) hu fun i a ha op J5 b hb hc=>?_,fun i a hi ha hm hs=>?_,fun i a g hi ha hns hg=>?_,fun i a g ha hsh hg=>?_,H.ul0 hr⟩
 ·obtain⟨h1,h2⟩:=hs op J5 b hb;have hns:¬Sh a.loc:=by rw[hc.1];exact h1
  rcases Nat.lt_or_ge i n0 with hi|hi
  ·have:=H.pre i a hi ha hc.2.1 hns;rcases h2 with⟨rfl,_⟩|⟨rfl,_⟩
   ·exact this.1
   ·exact this.2
  ·obtain⟨z,hz,hza⟩:=touch_of ha;have hk:=knows_own hz;rcases H.post i a z.g hi ha hns (g?_of hz)with⟨e,h3⟩|⟨e,h3,_⟩ <;> rcases h2 with⟨rfl,h4⟩|⟨e2,h4,_⟩
   ·rw[e]at hk;exact hk
   ·exact(hap.no h3 h4 hc.1 hc.2.2.1).elim
   ·exact(hap.no h4 h3 hc.1.symm hc.2.2.1.symm).elim
   ·rw[e,<- e2]at hk;exact hk
 ·rw[touchAt_old (by omega)]at ha;have:=H.pre i a hi ha hm hs;exact⟨this.1.app u,this.2.app u⟩
 ·obtain⟨z,hz,hza⟩:=touch_of ha;rcases getElem?_append_cases hz with⟨H2,hz'⟩|⟨_,hzu⟩
  ·rw[g?_old H2]at hg;exact H.post i a g hi (by rw[touchAt_of hz'];exact hza) hns hg
  ·have hgx:g=x:=by rw[g?_of hz]at hg;rw[<- hu z hzu];exact(Option.some.inj hg).symm
   rcases(hs z hzu a hza).2 with⟨e,h⟩|⟨e,h,h'⟩
   ·exact .inl ⟨hgx.trans e,h⟩
   ·exact .inr ⟨hgx.trans e,h,fun r0 e=>by rw[h']at e;cases e⟩
 ·obtain⟨z,hz,hza⟩:=touch_of ha;rcases getElem?_append_cases hz with⟨_,hz'⟩|⟨_,hzu⟩
  ·exact H.M7 hz' hza hsh hg
  ·exact absurd hsh (hs z hzu a hza).1
theorem TB.sh (H:TB Sh Us c n0 L0 Lc B0 Bc A r t) (hn0:n0 <=t.size) {g:Nat} (hUs:Us g) (hu:∀op∈u,op.g=g) (hs:∀op∈u,GOk Sh g op) (hdf:g≠0->∀i,t.size <=i->i<t.size+u.size->(t++u).deaf g i≠0) (hr:r≠none->si0 u):TB Sh Us c n0 L0 Lc B0 Bc A r (t++u):=by
 refine⟨fun said=>noRace_append (H.clean said) hu fun i a ha op J5 b hb hc=>?_,fun i a hi ha hm hs=>?_,fun i a g' hi ha hns hg=>?_,fun i a g' ha hsh L6=>?_,H.ul0 hr⟩
 ·obtain⟨h1,h2,h3⟩:=hs op J5 b hb;obtain⟨x,hx,C5⟩:=touch_of ha;rcases H.db0 i a x.g ha (hc.1▸h1) (g?_of hx)with hsx|hsx
  ·exact hsx g hUs
  rcases hc.2.2.2 with y|y|⟨_,y1,y2⟩
  ·exact absurd y hsx.1
  ·exact absurd y h2
  ·have e1:g=0:=Classical.byContradiction fun e=>by have:=h3 e;rw[y2]at this;cases this
   have e2:x.g=0:=Classical.byContradiction fun e=>by have:=(hsx.2 e).1;rw[y1]at this;cases this
   have:=knows_own hx;rw[e2]at this;rw[e1];exact this
 ·rw[touchAt_old (by omega)]at ha;have:=H.pre i a hi ha hm hs;exact⟨this.1.app u,this.2.app u⟩
 ·obtain⟨z,hz,hza⟩:=touch_of ha;rcases getElem?_append_cases hz with⟨H2,hz'⟩|⟨_,hzu⟩
  ·rw[g?_old H2]at hg;exact H.post i a g' hi (by rw[touchAt_of hz'];exact hza) hns hg
  ·exact absurd (hs z hzu a hza).1 hns
 ·obtain⟨x,hx,C5⟩:=touch_of ha;rcases getElem?_append_cases hx with⟨_,X3⟩|⟨hi,S8⟩
  ·exact H.M7 X3 C5 hsh L6
  ·obtain⟨h1,h2,h3⟩:=hs x S8 a C5;have hgx:g'=g:=by rw[g?_of hx]at L6;rw[<- hu x S8];exact(Option.some.inj L6).symm
   subst hgx;refine .inr ⟨h2,fun B3=>⟨h3 B3,?_⟩⟩;rintro⟨g2,hg2,hd2⟩;rw[L6]at hg2;obtain rfl:=Option.some.inj hg2;exact hdf B3 i hi (by have:=lt_size_of_getElem? hx;simpa using this) hd2
theorem TB.release (H:TB Sh Us c n0 L0 Lc B0 Bc A none t) (hn0:n0 <=t.size) {fn:FuncId} {ps:String} (hd:Deaf t c=0):TB Sh Us c n0 L0 Lc B0 Bc A (some t.size) (t ++ #[{g:=c,fn,pos:=ps,act:=.mark (.releaseMerge A)}]):=by
 have M:=H.mute (u:=#[{g:=c,fn,pos:=ps,act:=.mark (.releaseMerge A)}]) hn0 (fun op J5=>by simp at J5;subst J5;rfl) (fun h=>absurd rfl h);have e0:(t ++ #[{g:=c,fn,pos:=ps,act:=MemAct.mark (.releaseMerge A)}])[t.size]? =some {g:=c,fn,pos:=ps,act:=.mark (.releaseMerge A)}:=by simp
 refine⟨M.clean,M.pre,fun i a g hi ha hs hg=>(M.post i a g hi ha hs hg).imp id fun z=>⟨z.1,z.2.1,fun r0 e=>?_⟩,M.db0,fun r0 e=>?_⟩
 ·obtain⟨x,hx,C5⟩:=touch_of ha;rcases getElem?_append_cases hx with⟨H2,_⟩|⟨_,S8⟩
  ·have:=Option.some.inj e;omega
  ·simp at S8;subst S8;cases C5
 ·obtain rfl:=Option.some.inj e;refine⟨by simp,by rw[act?_of e0],by rw[g?_of e0],⟨c,g?_of e0,by rw[deaf_old (Nat.le_refl _)];exact hd⟩,fun k hk he=>?_⟩;unfold Trace.act? at he;obtain⟨op,ho,he⟩:=Option.map_eq_some_iff.1 he;have:=lt_size_of_getElem? ho;simp at this;omega
theorem TB.acquire {r0:Nat} (H:TB Sh Us c n0 L0 Lc B0 Bc A (some r0) t) (hn0:n0 <=t.size) {fn:FuncId} {ps:String} (hd:Deaf t 0=0) :
  let t':=t ++ #[{g:=0,fn,pos:=ps,act:=.mark (.acquire A)}]
  (∀said,¬Race said t')/\(∀i a,touchAt t' i=some a->a.loc.isMemory=true->¬Sh a.loc->Knows t' 0 i)/\∀i a g,touchAt t' i=some a->Sh a.loc->t'.g? i=some g->(∀g',Us g'->Knows t' g' i)\/(a.kind≠.plain/\(g≠0->a.kind= .atomic/\¬t'.heard i)):=by
 intro t';have hnr:si0 #[{g:=0,fn,pos:=ps,act:=MemAct.mark (.acquire A)}]:=fun op J5 a=>by simp at J5;subst J5;simp
 have M:TB Sh Us c n0 L0 Lc B0 Bc A (some r0) t':=H.mute hn0 (fun op J5=>by simp at J5;subst J5;rfl) fun _=>hnr;refine⟨M.clean,fun i a ha hm hs=>?_,M.db0⟩;obtain⟨h1,h2,h3,h4,h5⟩:=M.rel r0 rfl;have e0:t'[t.size]? =some {g:=0,fn,pos:=ps,act:=MemAct.mark (.acquire A)}:=by simp[t']
 have H2:=(H.rel r0 rfl).1;have Bi0:HappensBefore t' r0 t.size:=Relation.TransGen.single (.inr ⟨.marked H2 (.inr h2) (act?_of e0) fun k hk _=>h5 k hk,h4,⟨0,g?_of e0,by
  show(t++_).deaf 0 t.size=0;rw[deaf_old (Nat.le_refl _)];exact hd⟩⟩)
 rcases Nat.lt_or_ge i n0 with hi|hi
 ·exact(M.pre i a hi ha hm hs).1
 ·obtain⟨x,hx,C5⟩:=touch_of ha;rcases M.post i a x.g hi ha hs (g?_of hx)with⟨e,_⟩|⟨e,_,h⟩
  ·have:=knows_own hx;rw[e]at this;exact this
  ·have hir:=h r0 rfl;obtain⟨y,hy,hyg⟩:∃y,t'[r0]? =some y/\y.g=c:=by
    unfold Trace.g? at h3;obtain⟨y,hy,h⟩:=Option.map_eq_some_iff.1 h3;exact⟨y,hy,h⟩
   exact⟨t.size,_,e0,rfl,.inr (Relation.TransGen.trans (hb_po hir hx hy (by rw[e,hyg])) Bi0)⟩
end
end
end Go.Yc
end
section
namespace Go.Yc
open Go Go.Conc Go.Wg Go.Vy
open Go.Vc (Env upd k3 ev m4 Y2 Q9)
section
attribute [local irreducible] KK
abbrev PM:=List (Nat×Obj)
def jq0 (pm:PM) (b:Nat) (o:Obj):PM:=pm.map fun x=>if x.1=b then(b,o) else x
structure mj0 (gr:N4) (L:P3) (pm:PM) (w:World):Prop where
 O2:∃st sm,A7 gr st sm w
 stay:∀p∈L,w.cell? p.1=some p.2
 own:∀x∈pm,w.heap[x.1]? =some x.2
def EvM (L:P3) (pm:PM) (e:Event):Prop:=∃a,e=⟨.cell a,false,false⟩/\((∃v,(a,v)∈L)\/∃o,(a.block,o)∈pm)
def MP (P:Program) (main:Bool) (gr:N4) (L:P3) (E:Nat->PM->Goroutine->Prop):Nat->PM->Goroutine->Prop
 |0,_,_=>False
 |n+1,pm,g=>E n pm g\/(g.status= .running/\(
   (∃g' es,g'.status= .running/\(∀e∈es,EvM L pm e)/\(∀w,mj0 gr L pm w->stepG P main g w= .go g' w es)/\MP P main gr L E n pm g') \/
   (∃g' b cs T i v es,g'.status= .running/\(b,.cells cs T (0,0))∈pm/\(∀e∈es,e=⟨.cell ⟨b,i,none⟩,true,false⟩)/\(∀w,mj0 gr L pm w->stepG P main g w= .go g' (w.setCell ⟨b,i,none⟩ v) es)/\MP P main gr L E n (jq0 pm b (.cells (cs.setIfInBounds i v) T (0,0))) g') \/
   ∃gf:Nat->Goroutine,∃cs T,(∀b,(gf b).status= .running)/\(∀w,stepG P main g w= .go (gf w.heap.size) (w.alloc (.cells cs T (0,0))) #[])/\∀b,MP P main gr L E n ((b,.cells cs T (0,0))::pm) (gf b)))
section
variable {P:Program}{main:Bool}{gr:N4}{L:P3}{E:Nat->PM->Goroutine->Prop}{pm:PM}
abbrev YM (P:Program) (main:Bool) (gr:N4) (L:P3) (E:Nat->PM->Goroutine->Prop) (pm:PM):Nat->Nat->Goroutine->Prop:=fun m d g=>d=0->MP P main gr L E m pm g
theorem E2:HF P main (fun _=>False) (YM P main gr L E pm) :=
 ⟨fun m d g g' es h1 h2 h3 h4 h5 hd=>.inr ⟨h1,.inl ⟨g',es,h2,fun e he=>(h3 e he).elim,fun w _=>h4 w,h5 (by
  have:es=#[]:=by
   obtain⟨l⟩:=es;cases l with
   |nil=>rfl
   |cons e l=>exact(h3 e (by simp)).elim
  subst this;exact hd)⟩⟩⟩
theorem ep1:StG P main gr (YM P main gr L E pm):=fun m d g g' h1 h2 h3 h4 hd=>.inr ⟨h1,.inl ⟨g',#[],h2,fun e he=>by simp at he,fun w hw=>by obtain⟨st,sm,h⟩:=hw.O2;exact h3 w st sm h,h4 hd⟩⟩
variable {ft n:Nat}{b:Frame}{cs:List Frame}{ds:List Deferred}{e:Env}{k:List Item}{ops:Array Oper}{i:Nat}{l:List Oper}{dst:Option Nat}{ty:TypeId}{ps:String}{af:Array Edge}{T:TypeId}{x y:Operand}
def Src (L:P3) (pm:PM) (p:Addr) (v:Value):Prop:=(p,v)∈L\/∃cs T,(p.block,.cells cs T (0,0))∈pm/\p.spot=none/\cs[p.off]? =some v
theorem Src.cell {p:Addr} {v:Value} {w:World} (h:Src L pm p v) (hw:mj0 gr L pm w):w.cell? p=some v:=by
 rcases h with h|⟨cs,T,h1,h2,h3⟩
 ·exact hw.stay _ h
 ·have:=hw.own _ h1;unfold World.cell?;rw[this];simp[h2,h3]
theorem Src.evm {p:Addr} {v:Value} (h:Src L pm p v):EvM L pm ⟨.cell p,false,false⟩:=by
 rcases h with h|⟨cs,T,h1,_⟩
 ·exact⟨p,rfl,.inl ⟨v,h⟩⟩
 ·exact⟨p,rfl,.inr ⟨_,h1⟩⟩
theorem G0.Ix0 {g:Option (Nat×Bool)} {p:Addr} {v:Value} {u:TypeDesc} (hg:∀a,dm0 n a e ds->Region.wanted (⟨dst,.load T x,ty,ps,af,g⟩:Oper) (yielded ops a.tmps)=true) (hk:b.kind≠.early) (hd:m4 n dst=true) (hx:ev e x= .pointer (some p)) (hT:P.underlying T=some u) (hu:Q9 u=true) (hp:Src L pm p v)
  (h:G0 (YM P main gr L E pm) ft n b cs ds 0 (k3 e dst v) ops (i+1) l k):G0 (YM P main gr L E pm) (ft+1) n b cs ds 0 e ops i (⟨dst,.load T x,ty,ps,af,g⟩::l) k:=by
 intro hl a ha _;obtain⟨ho,u5⟩:=C3 hl;refine .inr ⟨rfl,.inl ⟨_,seen P b.fn #[⟨.cell p,false,false⟩],rfl,fun ev' he=>?_,fun w V1=>?_,h u5 _ (ha.put hd v) rfl⟩⟩
 ·have:=mem_seen he;have:ev'=⟨.cell p,false,false⟩:=by simpa using this
  subst this;exact hp.evm
 ·have hc:=hp.cell V1;show stepG P main (G (b.at a (.inRegion ops (i::List.range' (i+1) l.length)::k)) cs) w=_;rw[stepG_value ho (hg a ha) hk (by rw[ha.eval];exact Go.Vc.E0 hx hT hu hc),listed];have he:∀es,(isAgg T).events P w es=es:=fun es=>by
   cases u <;> simp[isAgg,go_sem,run_underlying hT]
  have hq:(execOp a.eval ⟨dst,.load T x,ty,ps,af,g⟩).events P w #[]=#[⟨.cell p,false,false⟩]:=by
   rw[ha.eval];simp[execOp,Instr.loadAt,hx,Instr.sureAddr,loadVar,Go.Vc.C9 hT,hu,hc,he]
  rw[hq]
theorem G0.jr0 {p:Addr} {v:Value} {u:TypeDesc} (hk:b.kind≠.early) (hd:m4 n dst=true) (hx:ev e x= .pointer (some p)) (hT:P.underlying T=some u) (hu:Q9 u=true) (hp:Src L pm p v)
  (h:G0 (YM P main gr L E pm) ft n b cs ds 0 (k3 e dst v) ops (i+1) l k):G0 (YM P main gr L E pm) (ft+1) n b cs ds 0 e ops i (⟨dst,.load T x,ty,ps,af,none⟩::l) k:=G0.Ix0 (fun _a _=>rfl) hk hd hx hT hu hp h
theorem G0.Tm0 {g:Nat×Bool} {p:Addr} {v:Value} {u:TypeDesc} (hk:b.kind≠.early) (hw:Y2 ops e g.1=some g.2) (hd:m4 n dst=true) (hx:ev e x= .pointer (some p)) (hT:P.underlying T=some u) (hu:Q9 u=true) (hp:Src L pm p v)
  (h:G0 (YM P main gr L E pm) ft n b cs ds 0 (k3 e dst v) ops (i+1) l k):G0 (YM P main gr L E pm) (ft+1) n b cs ds 0 e ops i (⟨dst,.load T x,ty,ps,af,some g⟩::l) k :=
 G0.Ix0 (fun a ha=>by rw[ha.yielded];simp[Region.wanted,hw]) hk hd hx hT hu hp h
theorem G0.Zr0 {o:Oper} {cs0:List Value} {T0:TypeId} (hg:o.guard=none) (hk:b.kind≠.early) (hd:m4 n o.dst=true) (hr:∀w,(execOp (ev e) o).run P w= .ok (.value (.pointer (some ⟨w.heap.size,0,none⟩))) (w.alloc (.cells cs0.toArray T0 (0,0)))) (hv:∀w,(execOp (ev e) o).events P w #[]=#[])
  (h:∀bl,G0 (YM P main gr L E ((bl,.cells cs0.toArray T0 (0,0))::pm)) ft n b cs ds 0 (k3 e o.dst (.pointer (some ⟨bl,0,none⟩))) ops (i+1) l k):G0 (YM P main gr L E pm) (ft+1) n b cs ds 0 e ops i (o::l) k:=by
 intro hl a ha _;obtain⟨ho,u5⟩:=C3 hl;refine .inr ⟨rfl,.inr (.inr ⟨fun bl=>G (b.at (a.put o.dst (.pointer (some ⟨bl,0,none⟩))) (.inRegion ops (List.range' (i+1) l.length)::k)) cs,cs0.toArray,T0,fun _=>rfl,fun w=>?_,fun bl=>h bl u5 _ (ha.put hd _) rfl⟩)⟩;rw[show stepG P main (G (b.at a (.inRegion ops (List.range' i (o::l).length)::k)) cs) w=stepG P main (G (b.at a (.inRegion ops (i::List.range' (i+1) l.length)::k)) cs) w from rfl];rw[stepG_value ho (by obtain⟨d,op,ty,ps,af,g⟩:=o;cases hg;rfl) hk (by rw[ha.eval];exact hr w),listed,ha.eval,hv,seen_none]
theorem G0.Zs0 {v:Value} {cs0:List Value} (hk:b.kind≠.early) (hd:m4 n dst=true) (hx:ev e x=v) (hc:v.cells=cs0.toArray)
  (h:∀bl,G0 (YM P main gr L E ((bl,.cells cs0.toArray T (0,0))::pm)) ft n b cs ds 0 (k3 e dst (.pointer (some ⟨bl,0,none⟩))) ops (i+1) l k):G0 (YM P main gr L E pm) (ft+1) n b cs ds 0 e ops i (⟨dst,.box T x,ty,ps,af,none⟩::l) k :=
 G0.Zr0 rfl hk hd (fun w=>by rw[<- hc];exact Go.Vc.zz0 hx) (fun w=>by simp[execOp,Instr.box,newVar,newRow,hx]) h
theorem G0.Tn0 {v:Value} {cs0:List Value} (hk:b.kind≠.early) (hd:m4 n dst=true) (hz:(P.info? T).bind (·.zero)=some v) (hc:v.cells=cs0.toArray)
  (h:∀bl,G0 (YM P main gr L E ((bl,.cells cs0.toArray T (0,0))::pm)) ft n b cs ds 0 (k3 e dst (.pointer (some ⟨bl,0,none⟩))) ops (i+1) l k):G0 (YM P main gr L E pm) (ft+1) n b cs ds 0 e ops i (⟨dst,.alloc T,ty,ps,af,none⟩::l) k :=
 G0.Zr0 rfl hk hd (fun w=>by rw[<- hc];exact Go.Vc.kf0 hz) (fun w=>by
  obtain⟨inf,hi,hz'⟩:=Option.bind_eq_some_iff.1 hz;simp[execOp,Instr.alloc,newVar,newRow,zeroValue,typeInfo,hi,hz',go_sem]) h
theorem G0.Iy0 {bl o:Nat} {v v0:Value} {cs0:Array Value} {T0:TypeId} (hk:b.kind≠.early) (hx:ev e x= .pointer (some ⟨bl,o,none⟩)) (hy:ev e y=v) (hs:(P.info? T).map (·.size)=some 1) (h1:v.oneCell'=true) (hm:(bl,.cells cs0 T0 (0,0))∈pm) (hc:cs0[o]? =some v0)
  (h:G0 (YM P main gr L E (jq0 pm bl (.cells (cs0.setIfInBounds o v) T0 (0,0)))) ft n b cs ds 0 e ops (i+1) l k):G0 (YM P main gr L E pm) (ft+1) n b cs ds 0 e ops i (⟨none,.store T x y,ty,ps,af,none⟩::l) k:=by
 intro hl a ha _;obtain⟨ho,u5⟩:=C3 hl;refine .inr ⟨rfl,.inr (.inl ⟨_,bl,cs0,T0,o,v,seen P b.fn #[⟨.cell ⟨bl,o,none⟩,true,false⟩],rfl,hm,fun ev' he=>?_,fun w V1=>?_,h u5 a ha rfl⟩)⟩
 ·have:=mem_seen he;simpa using this
 ·have hb:=V1.own _ hm;have T9:w.cell? ⟨bl,o,none⟩=some v0:=by unfold World.cell?;rw[hb];simp[hc]
  have hfr:w.frozen? ⟨bl,o,none⟩=false:=by simp[World.frozen?,hb]
  show stepG P main (G (b.at a (.inRegion ops (i::List.range' (i+1) l.length)::k)) cs) w=_;rw[stepG_none ho (by rw[ha.yielded];rfl) hk (by rw[ha.eval];exact Go.Vc.ke0 hx hy hs h1 T9 hfr),listed];have hv:v.cells=#[v]:=by cases v <;> first|rfl|(simp[Value.oneCell']at h1)
  have ha0:(⟨bl,o,none⟩:Addr).add 0=⟨bl,o,none⟩:=by simp[Addr.add]
  have hq:(execOp a.eval ⟨none,.store T x y,ty,ps,af,none⟩).events P w #[]=#[⟨.cell ⟨bl,o,none⟩,true,false⟩]:=by
   rw[ha.eval];simp[execOp,Instr.storeAt,hx,hy,Instr.sureAddr,storeVar,Go.Vc.run_sizeOf hs,hv,storeCells,ha0,events_store P w #[] ⟨bl,o,none⟩ v .plain h1,T9,hfr]
  rw[hq];rfl
end
end
end Go.Yc
end
section
namespace Go.Yc
open Go Go.Conc Go.Wg Go.Vy
open Go.ConcN (sumTo upd sumTo_upd upd_ne upd_same sumTo_congr)
section
attribute [local irreducible] KK
def My0 (G:N4) (w:World):Array Value×TypeId:=((let c:=w.heap[G.blk]?;match c with|some (.cells c _ _)=>c.extract 0 G.off|_=>#[]),(match w.heap[G.blk]? with|some (.cells _ T _)=>T|_=>0))
structure WF (G:N4) (bx:Nat) (w0 w:World):Prop where
 os:w.os=w0.os
 output:w.output=w0.output
 size:w0.heap.size <=w.heap.size
 old:∀b,b<w0.heap.size->b≠G.blk->b≠bx->w.heap[b]? =w0.heap[b]?
 pre:My0 G w=My0 G w0
section
variable {G:N4}{bx:Nat}{w0 w:World}
theorem WF.refl:WF G bx w w:=⟨rfl,rfl,Nat.le_refl _,fun _ _ _ _=>rfl,rfl⟩
theorem WF.at (h:WF G bx w0 w) (d:Nat):WF G bx w0 (w.at d):=⟨h.os,h.output,h.size,h.old,h.pre⟩
theorem size_setCell (w:World) (a:Addr) (v:Value):(w.setCell a v).heap.size=w.heap.size:=by simp[World.setCell]
theorem WF.cell (h:WF G bx w0 w) {b i:Nat} (v:Value) (hb:b=bx\/w0.heap.size <=b) (hg:b≠G.blk):WF G bx w0 (w.setCell ⟨b,i,none⟩ v):=by
 refine⟨h.os,h.output,by rw[size_setCell];exact h.size,fun k hk h1 h2=>?_,?_⟩
 ·have:k≠b:=by rintro rfl;rcases hb with e|e;exact h2 e;omega
  rw[A1 w v (a:=⟨b,i,none⟩) this];exact h.old k hk h1 h2
 ·rw[<- h.pre];unfold My0;rw[A1 w v (a:=⟨b,i,none⟩) (Ne.symm hg)]
theorem WF.alloc (h:WF G bx w0 w) (o:Obj) (hg:G.blk<w0.heap.size):WF G bx w0 (w.alloc o):=by
 have hh:∀k,k<w0.heap.size->(w.alloc o).heap[k]? =w.heap[k]?:=fun k hk=>by
  have:=h.size;show(w.heap.push o)[k]? =_;rw[Array.getElem?_push,if_neg (by omega)]
 refine⟨h.os,h.output,by have:=h.size;show _ <=(w.heap.push o).size;rw[Array.size_push];omega,fun k hk h1 h2=>by rw[hh k hk];exact h.old k hk h1 h2,?_⟩;rw[<- h.pre];unfold My0;rw[hh _ hg]
theorem WF.Iz0 (h:WF G bx w0 w) {st sm:Int} (hg:A7 G st sm w) {a:Addr} (ha:a.block=G.blk) (hs:a.spot=none) (ho:G.off <=a.off) (v:Value):WF G bx w0 (w.setCell a v):=by
 refine⟨h.os,h.output,by rw[size_setCell];exact h.size,fun k hk h1 h2=>?_,?_⟩
 ·rw[A1 w v (by rw[ha];exact h1)];exact h.old k hk h1 h2
 ·rw[<- h.pre];have:=dd0 hg ha hs ho v;exact Prod.ext this.1 this.2
end
inductive Bd where
 |up (wt:Bool)
 |out
 |last (s:Nat)
 |done
def bst:Bd->Int×Int
 | .up wt=>((((0+1)*KK+(if wt then 1 else 0):Nat):Int),0)
 | .out=>(0,0)
 | .last 0=>(0,0)
 | .last (_+1)=>(1,0)
 | .done=>(0,1)
def frB:Bd->Bool
 | .up false=>true
 | .out=>true
 |_=>false
def UsB (c:Nat) (σ:Bd) (g:Nat):Prop:=g=0\/(g=c/\(match σ with| .up _=>True| .last _=>True|_=>False))
def zc0 (P:Program) (G:N4) (A:Addr) (Fp:PM->Prop) (n:Nat) (pm:PM) (g:Goroutine):Prop :=
 g.status= .running/\Fp pm/\∃g',(∀w,stepG P false g w= .go g' w #[⟨.mark (.releaseMerge A),false,true⟩])/\Lt P G n 0 g'
def dx0 (P:Program) (G:N4) (Lc:P3) (A:Addr) (Fp:PM->Prop) (σ:Bd) (r:Option Nat) (pm:PM) (d n:Nat) (g:Goroutine):Prop:=match σ with
 | .up _=>(r=none/\d=0/\MP P false G Lc (zc0 P G A Fp) n pm g)\/(r≠none/\Lt P G n d g)
 | .last s=>r≠none/\s <=2/\Lst P G n s d g
 |_=>r≠none/\QuitsD P n d g
def GB (X:Gh) (b:Nat):Prop:=∃G,(X.O2=some G\/G∈X.old)/\b=G.blk
structure StB (X:Gh) (G:N4) (c bx:Nat) (w0:World) (L0 Lc:P3):Prop where
 O2:X.O2=some G
 c0:c≠0
 st:∀p,p∈L0\/p∈Lc->w0.cell? p.1=some p.2/\p.1.block<w0.heap.size/\p.1.block≠bx/\¬GB X p.1.block
 bx:bx<w0.heap.size/\¬GB X bx
 gb:∀b,GB X b->b<w0.heap.size
abbrev BM (pm:PM) (b:Nat):Prop:=∃o,(b,o)∈pm
structure Rb (P:Program) (X:Gh) (G:N4) (c bx n0:Nat) (w0:World) (L0 Lc:P3) (A:Addr) (Fp:PM->Prop) (N:Nat) (σ:Bd) (r:Option Nat) (y7 S6:PM) (d:Nat) (T:Trace) (gs:Array Goroutine) (w:World) (q:Nat->Nat):Prop where
 wf:WF G bx w0 w
 tb:TB X.Sh (UsB c σ) c n0 L0 Lc (BM y7) (BM S6) A r T
 n0:n0 <=T.size
 d0:Deaf T 0=d
 own:∀x,x∈y7\/x∈S6->(x.1=bx\/w0.heap.size <=x.1)/\w.heap[x.1]? =some x.2
 apart:Apart L0 Lc (BM y7) (BM S6)
 child:∀g,gs[c]? =some g->dx0 P G Lc A Fp σ r S6 (Deaf T c) (q c) g
 rest:∀i g,i≠0->i≠c->gs[i]? =some g->QuitsD P (q i) (Deaf T i) g
 z6:A7 G (bst σ).1 (bst σ).2 w
 size:c<gs.size/\gs.size=N
 above:∀j,gs.size <=j->Deaf T j=0
 fin:r≠none->Fp S6
theorem wv0 {e:Event} {a:Addr} (h:MemAct.ofEvent e= .mark (.release a)):e.loc= .mark (.release a):=by
 obtain⟨l,w,s⟩:=e;cases l with
 |mark m=>cases m <;> simp[MemAct.ofEvent]at h⊢<;> exact h
 |_=>cases w <;> cases s <;> simp[MemAct.ofEvent]at h
section
variable {P:Program}{X:Gh}{G:N4}{c bx n0:Nat}{w0:World}{L0 Lc:P3}{A:Addr}{Fp:PM->Prop}{N:Nat}{σ σ':Bd}{r r':Option Nat}{y7 S6 pmc':PM}{d:Nat}{T:Trace}{gs:Array Goroutine}{w w':World}{q:Nat->Nat}
theorem norel_of {x:Nat} {fn:FuncId} {pos:String} {es:Array Event} (h:∀e∈es,∀a,e.loc≠.mark (.release a)):si0 (MemOp.ofEvents x fn pos es):=fun op J5 a e=>by
 obtain⟨ev,he,rfl⟩:=Go.Conc.mem_ofEvents J5;exact h ev he a (wv0 e)
theorem TB.O2 {Us:Nat->Prop} {B0 Bc:Nat->Prop} (H:TB X.Sh Us c n0 L0 Lc B0 Bc A r T) (hn0:n0 <=T.size) (hG:X.O2=some G) {x:Nat} {fn:FuncId} {pos:String} {es:Array Event} (I9:∀e∈es,GEv G x e) (hu:(∀e∈es,(MemAct.ofEvent e).touch? =none)\/(Us x/\(x≠0->∀k,k<es.size->deafBehind (Deaf T x) (es.extract 0 k)≠0))) :
  TB X.Sh Us c n0 L0 Lc B0 Bc A r (T++MemOp.ofEvents x fn pos es):=by
 have hnr:=norel_of (x:=x) (fn:=fn) (pos:=pos) fun e he=>(I9 e he).2;rcases hu with hu|⟨hU,hdf⟩
 ·exact H.mute hn0 (fun op J5=>by obtain⟨e,he,rfl⟩:=Go.Conc.mem_ofEvents J5;exact hu e he) fun _=>hnr
 ·refine H.sh hn0 hU Z1 (fun op J5 b hb=>?_) (fun B3 i hi1 hi2=>?_) fun _=>hnr
  ·obtain⟨e,he,rfl⟩:=Go.Conc.mem_ofEvents J5;obtain⟨⟨a,h1,h2,h3⟩,h4⟩:=(I9 e he).1 b hb;exact⟨⟨a,G,.inl hG,h1,h2,h3⟩,h4⟩
  ·obtain⟨m,rfl⟩:∃m,i=T.size+m:=⟨i-T.size,by omega⟩
   have hm:m<es.size:=by
    have B2:(MemOp.ofEvents x fn pos es).size=es.size:=by rw[ofEvents_eq];simp
    omega
   rw[Go.Conc.deaf_inside T x fn pos es m (Nat.le_of_lt hm)];exact hdf B3 m hm
theorem StB.on0 (S:StB X G c bx w0 L0 Lc) (v7:∀b,BM y7 b->b=bx\/w0.heap.size <=b) {a:Touch} (h:On L0 (BM y7) a):¬X.Sh a.loc:=by
 rintro⟨ad,G',hG',e,hb,_⟩;have hgb:GB X ad.block:=⟨G',hG',hb⟩
 rcases h with⟨_,p,hp,h2⟩|⟨ad',h1,h2⟩
 ·rw[e]at h2;cases h2;exact(S.st p (.inl hp)).2.2.2 hgb
 ·rw[e]at h1;cases h1;rcases v7 _ h2 with e|e
  ·rw[e]at hgb;exact S.bx.2 hgb
  ·have:=S.gb _ hgb;omega
theorem StB.onc (S:StB X G c bx w0 L0 Lc) (v7:∀b,BM S6 b->b=bx\/w0.heap.size <=b) {a:Touch} (h:On Lc (BM S6) a):¬X.Sh a.loc:=by
 rintro⟨ad,G',hG',e,hb,_⟩;have hgb:GB X ad.block:=⟨G',hG',hb⟩
 rcases h with⟨_,p,hp,h2⟩|⟨ad',h1,h2⟩
 ·rw[e]at h2;cases h2;exact(S.st p (.inr hp)).2.2.2 hgb
 ·rw[e]at h1;cases h1;rcases v7 _ h2 with e|e
  ·rw[e]at hgb;exact S.bx.2 hgb
  ·have:=S.gb _ hgb;omega
theorem StB.cell (S:StB X G c bx w0 L0 Lc) (hw:WF G bx w0 w) {p:Addr×Value} (hp:p∈L0\/p∈Lc):w.cell? p.1=some p.2:=by
 obtain⟨h1,h2,h3,h4⟩:=S.st p hp;have:=(w5 (u:=w0) (u':=w) (a:=p.1) (hw.old _ h2 (fun e=>h4 ⟨G,.inl S.O2,e⟩) h3)).1;rw[this];exact h1
theorem EvM.on {L:P3} {pm:PM} {e:Event} (h:EvM L pm e):(∀b,(MemAct.ofEvent e).touch? =some b->On L (BM pm) b)/\(∀a,e.loc≠.mark (.release a))/\e.loc≠.mark .disable/\e.loc≠.mark .enable:=by
 obtain⟨a,rfl,h⟩:=h;refine⟨fun b hb=>?_,by simp,by simp,by simp⟩;simp only[ofEvent_cell0,MemAct.touch?,Option.some.injEq]at hb;subst hb;rcases h with⟨v,hv⟩|⟨o,ho⟩
 ·exact .inl ⟨rfl,_,hv,rfl⟩
 ·exact .inr ⟨a,rfl,o,ho⟩
theorem dy0 {L:P3} {pm:PM} {bl i:Nat} {o:Obj} (h:(bl,o)∈pm) {e:Event} (he:e=⟨.cell ⟨bl,i,none⟩,true,false⟩):(∀b,(MemAct.ofEvent e).touch? =some b->On L (BM pm) b)/\(∀a,e.loc≠.mark (.release a))/\e.loc≠.mark .disable/\e.loc≠.mark .enable:=by
 subst he;refine⟨fun b hb=>?_,by simp,by simp,by simp⟩;simp only[MemAct.ofEvent,MemAct.touch?,Option.some.injEq]at hb;subst hb;exact .inr ⟨_,rfl,o,h⟩
theorem Rb.Zt0 (C:Rb P X G c bx n0 w0 L0 Lc A Fp N σ r y7 S6 d T gs w q):∀b,BM y7 b->b=bx\/w0.heap.size <=b:=fun _b ⟨_o,h⟩=>(C.own _ (.inl h)).1
theorem Rb.Zu0 (C:Rb P X G c bx n0 w0 L0 Lc A Fp N σ r y7 S6 d T gs w q):∀b,BM S6 b->b=bx\/w0.heap.size <=b:=fun _b ⟨_o,h⟩=>(C.own _ (.inr h)).1
theorem Rb.Ja0 (C:Rb P X G c bx n0 w0 L0 Lc A Fp N σ r y7 S6 d T gs w q) (S:StB X G c bx w0 L0 Lc):mj0 G L0 y7 w:=⟨⟨_,_,C.z6⟩,fun _p hp=>S.cell C.wf (.inl hp),fun x hx=>(C.own x (.inl hx)).2⟩
theorem Rb.Jb0 (C:Rb P X G c bx n0 w0 L0 Lc A Fp N σ r y7 S6 d T gs w q) (S:StB X G c bx w0 L0 Lc):mj0 G Lc S6 w:=⟨⟨_,_,C.z6⟩,fun _p hp=>S.cell C.wf (.inr hp),fun x hx=>(C.own x (.inr hx)).2⟩
theorem Rb.at (C:Rb P X G c bx n0 w0 L0 Lc A Fp N σ r y7 S6 d T gs w q) (k:Nat):Rb P X G c bx n0 w0 L0 Lc A Fp N σ r y7 S6 d T gs (w.at k) q :=
 ⟨C.wf.at k,C.tb,C.n0,C.d0,C.own,C.apart,C.child,C.rest,C.z6,C.size,C.above,C.fin⟩
theorem MP.running {main:Bool} {gr:N4} {L:P3} {E:Nat->PM->Goroutine->Prop} (hE:∀n pm g,E n pm g->g.status= .running):∀{n:Nat} {pm:PM} {g:Goroutine},MP P main gr L E n pm g->g.status= .running
 |0,_,_,h=>h.elim
 |_+1,_,_,h=>h.elim (hE _ _ _) fun z=>z.1
theorem dx0.status {n:Nat} {g:Goroutine} (h:dx0 P G Lc A Fp σ r S6 d n g):g.status= .running\/g.status= .finished:=by
 cases σ with
 |up wt=>rcases h with⟨_,_,h⟩|⟨_,h⟩;exact .inl (h.running fun _ _ _ z=>z.1);exact .inl h.running
 |last s=>exact .inl h.2.2.running
 |out=>exact h.2.status
 |done=>exact h.2.status
theorem Rb.status (C:Rb P X G c bx n0 w0 L0 Lc A Fp N σ r y7 S6 d T gs w q) {i:Nat} {g:Goroutine} (hi:i≠0) (hg:gs[i]? =some g):g.status= .running\/g.status= .finished:=by
 by_cases e:i=c
 ·subst e;exact(C.child g hg).status
 ·exact(C.rest i g hi e hg).status
theorem Rb.move (C:Rb P X G c bx n0 w0 L0 Lc A Fp N σ r y7 S6 d T gs w q) {i n:Nat} {g g':Goroutine} {es:Array Event} {sl:Option (Nat×Nat)} (hi:gs[i]? =some g) (B3:i≠0) (R2:stepG P false g w= .go g' w' es) (hq:q i=n+1)
  (tb':TB X.Sh (UsB c σ') c n0 L0 Lc (BM y7) (BM pmc') A r' (T++MemOp.ofEvents i g.frame.fn g.frame.place es)) (wf':WF G bx w0 w') (Bu0:∀x,x∈y7\/x∈pmc'->(x.1=bx\/w0.heap.size <=x.1)/\w'.heap[x.1]? =some x.2) (zd0:Apart L0 Lc (BM y7) (BM pmc')) (Jc0:A7 G (bst σ').1 (bst σ').2 w') (eq1:r'≠none->Fp pmc')
  (kk0:(i=c->dx0 P G Lc A Fp σ' r' pmc' (deafBehind (Deaf T c) es) n g')/\(i≠c->σ'=σ/\r'=r/\pmc'=S6/\QuitsD P n (deafBehind (Deaf T i) es) g')) :
  ∃K4 ops q',runT P (crowd gs w sl) i=(.next (crowd K4 w' sl),ops)/\K4.size=gs.size/\(∀g0,gs[0]? =some g0->K4[0]? =some (woken P g g' w' g0))/\Rb P X G c bx n0 w0 L0 Lc A Fp N σ' r' y7 pmc' d (T++ops) K4 w' q'/\sumTo K4.size q'<sumTo gs.size q:=by
 have H2:i<gs.size:=(Array.getElem?_eq_some_iff.1 hi).1;have hi0:(i==0)=false:=by simpa using B3
 have B2:((gs.map (woken P g g' w')).setIfInBounds i g').size=gs.size:=by simp
 have hdo:∀x,x≠i->Deaf (T++MemOp.ofEvents i g.frame.fn g.frame.place es) x=Deaf T x:=fun x hx=>Deaf_other T (Ne.symm hx) _ Z1;have wj0:∀x y,x≠0->((gs.map (woken P g g' w')).setIfInBounds i g')[x]? =some y->(x=i/\y=g')\/(x≠i/\gs[x]? =some y):=fun x y hx hy=>by
  by_cases e:x=i
  ·subst e;rw[Array.getElem?_setIfInBounds_self_of_lt (by simpa using H2)]at hy;exact .inl ⟨rfl,(Option.some.inj hy).symm⟩
  ·rw[Array.getElem?_setIfInBounds_ne (fun z=>e z.symm),Array.getElem?_map]at hy;obtain⟨y₀,hy₀,rfl⟩:=Option.map_eq_some_iff.1 hy;rw[woken_of_again (again_of_running (C.status hx hy₀) w')];exact .inr ⟨e,hy₀⟩
 refine⟨_,_,upd q i n,runT_crowd_go (sl:=sl) hi (by rw[hi0];exact R2),B2,fun g0 h0=>?_,⟨wf',tb',by rw[Array.size_append];have:=C.n0;omega,(hdo 0 (Ne.symm B3)).trans C.d0,Bu0,zd0,fun y hy=>?_,fun x y hx hxc hy=>?_,Jc0,by rw[B2];exact C.size,fun j hj=>?_,eq1⟩,?_⟩
 ·rw[Array.getElem?_setIfInBounds_ne B3,Array.getElem?_map,h0];rfl
 ·have hc0:c≠0\/c=0:=(Decidable.em (c=0)).symm;by_cases e:i=c
  ·subst e;rw[Array.getElem?_setIfInBounds_self_of_lt (by simpa using H2)]at hy;obtain rfl:=Option.some.inj hy;rw[Deaf_own,upd_same];exact kk0.1 rfl
  ·obtain⟨rfl,rfl,rfl,_⟩:=kk0.2 e;have hy':gs[c]? =some y:=by
    rw[Array.getElem?_setIfInBounds_ne e,Array.getElem?_map]at hy;obtain⟨y₀,hy₀,rfl⟩:=Option.map_eq_some_iff.1 hy;rw[woken_of_again (again_of_running (C.child y₀ hy₀).status w')];exact hy₀
   rw[hdo c (Ne.symm e),upd_ne q n (Ne.symm e)];exact C.child y hy'
 ·rcases wj0 x y hx hy with⟨rfl,rfl⟩|⟨e,hy'⟩
  ·rw[Deaf_own,upd_same];exact(kk0.2 hxc).2.2.2
  ·rw[hdo x e,upd_ne q n e];exact C.rest x y hx hxc hy'
 ·rw[B2]at hj;rw[hdo j (by omega)];exact C.above j hj
 ·have h2:sumTo gs.size (upd q i n)+(n+1)=sumTo gs.size q+n:=by
   have:=sumTo_upd q n id H2;simpa [hq]using this
  rw[B2];omega
end
end
end Go.Yc
end
