/- What the claim leans on, part 5. Laws. -/
import Derived.Test.YtnifpkopeheodaaGreatK4
set_option linter.unusedVariables false
section
namespace Go.Yc
open Go Go.Conc Go.Wg Go.Vy
open Go.ConcN (sumTo upd sumTo_upd upd_ne upd_same sumTo_congr)
section
attribute [local irreducible] KK
section
variable (P:Program)(G:H4)(A:Addr)(K:Goroutine->Prop)
def WA:Nat->Nat->Goroutine->Prop
 |0,_,_=>False
 |n+1,d,g=>g.status= .running/\((∃g' es,(∀e∈es,GEv G 0 e)/\(∀w,q7 G 0 0 w->stepG P true g w= .go g' w es)/\WA n (deafBehind d es) g')\/(d=0/\∃g',(∀w,stepG P true g w= .go g' w #[⟨.mark (.acquire A),false,true⟩])/\WE P G K n 0 g'))
theorem WA.mono:∀{n m d:Nat} {g:Goroutine},WA P G A K n d g->n <=m->WA P G A K m d g
 |0,_,_,_,h,_=>h.elim
 |n+1,0,_,_,_,hm=>absurd hm (by omega)
 |n+1,m+1,_,_,⟨hr,h⟩,hm=>⟨hr,h.imp (fun⟨g',es,h1,h2,h3⟩=>⟨g',es,h1,h2,WA.mono h3 (by omega)⟩) fun⟨hd,g',h1,h2⟩=>⟨hd,g',h1,WE.mono h2 (by omega)⟩⟩
def Lp0 (n:Nat) (_:PM) (g:Goroutine):Prop:=WH P G (WA P G A K) n none 1 0 g
end
theorem WH.running {P:Program} {G:H4} {E:Nat->Nat->Goroutine->Prop} {n:Nat} {o:Option Nat} {V d:Nat} {g:Goroutine} (h:WH P G E n o V d g):g.status= .running:=by
 cases n with
 |zero=>exact h.elim
 |succ n=>
  unfold WH at h;rcases h with⟨_,_,hh,_⟩|hh
  ·exact hh.1
  ·exact hh.1
theorem WS.running {P:Program} {G:H4} {E:Nat->Nat->Goroutine->Prop} {n d:Nat} {g:Goroutine} (h:WS P G E n d g):g.status= .running:=by
 cases n with
 |zero=>exact h.elim
 |succ n=>
  rcases h with⟨_,_,hh,_⟩|⟨_,hh⟩
  ·exact hh.1
  ·exact hh.1
def ho0:Bd->Nat
 | .up _=>1
 |_=>0
theorem Hz0 {σ:Bd} (h:frB σ=true):bst σ=(((ho0 σ*KK:Nat):Int),0):=by
 cases σ with
 |up wt=>
  cases wt with
  |false=>show((((0+1)*KK+0:Nat):Int),(0:Int))=_;rw[Nat.add_zero,Nat.zero_add];rfl
  |true=>cases h
 |out=>show((0:Int),(0:Int))=(((0*KK:Nat):Int),0);rw[Nat.zero_mul];rfl
 |last s=>cases h
 |done=>cases h
structure tm0 (P:Program) (Post:Value->World->Prop) (X:Gh) (G:H4) (c bx:Nat) (u w0:World) (L0 Lc:Q3) (A:Addr) (ox:Obj) (N:Nat) (K:Goroutine->Prop):Prop where
 ring:∃live T0 gs0 q0,Ring P X 0 u live T0 gs0 w0 q0
 no:∀i,X.G1 i=none
 v9:u9 X bx
 blt:bx<u.heap.size
 st:StB X G c bx w0 L0 Lc
 num:N=X.n+1
 isx:∃cs T f,ox= .cells cs T f
 k:∀k g,K g->Fin P Post (X.gd0 u bx k) 0 g (dd0 u bx ox k)
section
variable {P:Program}{Post:Value->World->Prop}{X:Gh}{G:H4}{c bx n0:Nat}{u w0:World}{L0 Lc:Q3}{A:Addr}{ox:Obj}{N:Nat}{K:Goroutine->Prop}{σ σ':Bd}{r:Option Nat}{o7 pm0' L6:PM}{d:Nat}{T:Trace}{gs:Array Goroutine}{w w':World}{q:Nat->Nat}
theorem Rb.awake {Fp:PM->Prop} (C:Rb P X G c bx n0 w0 L0 Lc A Fp N σ r o7 L6 d T gs w q) {a:Goroutine} (ha:gs[0]? =some a) (hs:a.status= .running\/a.status= .blocked):∀g∈gs,awake g:=by
 intro g hg;obtain⟨i,hi,rfl⟩:=Array.mem_iff_getElem.1 hg;by_cases e:i=0
 ·subst e;have:gs[0]=a:=by simpa [Array.getElem?_eq_getElem hi]using ha
  rw[this];exact awake_of (hs.elim .inl fun x=>.inr (.inl x))
 ·exact awake_of ((C.status e (Array.getElem?_eq_getElem hi)).elim .inl fun x=>.inr (.inr x))
theorem Rb.main {Fp:PM->Prop} (C:Rb P X G c bx n0 w0 L0 Lc A Fp N σ r o7 L6 d T gs w q) (hc0:c≠0) {g g':Goroutine} {es:Array Event} (tb':TB X.Sh (UsB c σ') c n0 L0 Lc (BM pm0') (BM L6) A r (T++MemOp.ofEvents 0 g.frame.fn g.frame.place es)) (wf':WF G bx w0 w') (Bd0:∀x,x∈pm0'\/x∈L6->(x.1=bx\/w0.heap.size <=x.1)/\w'.heap[x.1]? =some x.2) (ya0:Apart L0 Lc (BM pm0') (BM L6)) (Hv0:q7 G (bst σ').1 (bst σ').2 w')
  (R5:∀d n y,db0 P G Lc A Fp σ r L6 d n y->db0 P G Lc A Fp σ' r L6 d n y):Rb P X G c bx n0 w0 L0 Lc A Fp N σ' r pm0' L6 (deafBehind d es) (T++MemOp.ofEvents 0 g.frame.fn g.frame.place es) ((gs.map (woken P g g' w')).setIfInBounds 0 g') w' q/\((gs.map (woken P g g' w')).setIfInBounds 0 g')[0]? =some g':=by
 have n2:((gs.map (woken P g g' w')).setIfInBounds 0 g').size=gs.size:=by simp
 have hs0:0<gs.size:=by have:=C.size.1;omega
 have hdo:∀x,x≠0->Deaf (T++MemOp.ofEvents 0 g.frame.fn g.frame.place es) x=Deaf T x:=fun x hx=>Deaf_other T (Ne.symm hx) _ r2;have vi0:∀x y,x≠0->((gs.map (woken P g g' w')).setIfInBounds 0 g')[x]? =some y->gs[x]? =some y:=fun x y hx hy=>by
  rw[Array.getElem?_setIfInBounds_ne (fun z=>hx z.symm),Array.getElem?_map]at hy;obtain⟨y₀,hy₀,rfl⟩:=Option.map_eq_some_iff.1 hy;rw[woken_of_again (again_of_running (C.status hx hy₀) w')];exact hy₀
 refine⟨⟨wf',tb',by rw[Array.size_append];have:=C.n0;omega,by rw[Deaf_own,C.d0],Bd0,ya0,fun y hy=>?_,fun x y hx hxc hy=>?_,Hv0,by rw[n2];exact C.size,fun j hj=>?_,C.fin⟩,Array.getElem?_setIfInBounds_self_of_lt (by simpa using hs0)⟩
 ·rw[hdo c hc0];exact R5 _ _ _ (C.child y (vi0 c y hc0 hy))
 ·rw[hdo x hx];exact C.rest x y hx hxc (vi0 x y hx hy)
 ·rw[n2]at hj;rw[hdo j (by omega)];exact C.above j hj
theorem Rb.lp0 {Fp:PM->Prop} (C:Rb P X G c bx n0 w0 L0 Lc A Fp N σ r o7 L6 d T gs w q) (S:StB X G c bx w0 L0 Lc) {g g':Goroutine} {es:Array Event} (r9:∀e∈es,GEv G 0 e) (hU:∀x,UsB c σ' x->UsB c σ x) (hw:w'=w\/∃a v,a.block=G.blk/\a.spot=none/\G.off <=a.off/\w'=w.setCell a v) (Hv0:q7 G (bst σ').1 (bst σ').2 w')
  (R5:∀d n y,db0 P G Lc A Fp σ r L6 d n y->db0 P G Lc A Fp σ' r L6 d n y):Rb P X G c bx n0 w0 L0 Lc A Fp N σ' r o7 L6 (deafBehind d es) (T++MemOp.ofEvents 0 g.frame.fn g.frame.place es) ((gs.map (woken P g g' w')).setIfInBounds 0 g') w' q/\((gs.map (woken P g g' w')).setIfInBounds 0 g')[0]? =some g':=by
 refine C.main S.c0 ((C.tb.K2 C.n0 S.K2 r9 (.inr ⟨.inl rfl,fun h=>absurd rfl h⟩)).leave hU) ?_ ?_ C.apart Hv0 R5
 ·rcases hw with rfl|⟨a,v,h1,h2,h3,rfl⟩
  ·exact C.wf
  ·exact C.wf.Hs0 C.o6 h1 h2 h3 v
 ·intro x hx;have:=C.own x hx;refine⟨this.1,?_⟩;rcases hw with rfl|⟨a,v,h1,h2,h3,rfl⟩
  ·exact this.2
  ·rw[C1 w _ (by rw[h1];exact S.ng this.1)];exact this.2
theorem tm0.wa (B:tm0 P Post X G c bx u w0 L0 Lc A ox N K):∀(μ n d:Nat) (g:Goroutine) r o7 L6 T gs w sl q,μ=n+sumTo gs.size q->Rb P X G c bx n0 w0 L0 Lc A (fun pm=>(bx,ox)∈pm) N .out r o7 L6 d T gs w q->gs[0]? =some g->WA P G A K n d g->Ends P Post (crowd gs w sl) T:=by
 intro μ
 induction μ using Nat.strongRecOn with
 |_ μ ih=>
  intro n d g r o7 L6 T gs w sl q hμ C h0 hW;cases n with
  |zero=>exact hW.elim
  |succ n=>
   obtain⟨hr,hW'⟩:=hW;obtain⟨i,gi,dd,W4,hi,hgi,P2⟩:=crowd_pick (P:=P) (w:=w) (sl:=sl) (C.awake h0 (.inl hr)) ⟨0,g,h0,hr⟩;have Cd:=C.at dd;by_cases e:i=0
   ·subst e;rcases hW' with⟨g',es,r9,u3,hW'⟩|⟨rfl,g',u3,hE⟩
    ·obtain⟨C',G2⟩:=Cd.lp0 B.st (g:=g) (g':=g') (σ':=.out) (w':=w.at dd) r9 (fun _ h=>h) (.inl rfl) Cd.o6 (fun _ _ _ h=>h);exact Ends.step (P2.trans (runT_crowd_go (sl:=W4) (i:=0) h0 (u3 _ Cd.o6))) (ih _ (by simp only[Array.size_setIfInBounds,Array.size_map];omega) n _ g' _ _ _ _ _ _ W4 q rfl C' G2 hW')
    ·obtain⟨live,T0,gs0,q0,R0⟩:=B.ring;obtain⟨cs,Ty,f,rfl⟩:=B.isx;have R5:∃gc,gs[c]? =some gc:=⟨_,Array.getElem?_eq_getElem C.size.1⟩
     obtain⟨gc,hgc⟩:=R5;obtain⟨k,R,G2⟩:=ring_end R0 B.no B.v9 B.blt B.st B.num Cd (C.fin (C.child gc hgc).1) (g':=g') h0;exact Ends.step (P2.trans (runT_crowd_go (sl:=W4) (i:=0) h0 (u3 _))) (Fin.we (X:=X.gd0 u bx k) B.st.K2 (fun g hg=>B.k k g hg) n 0 g' hE _ _ _ _ _ _ G2 R)
   ·obtain⟨E4,ops,q',w',σ',r',pmc',hrt,n2,h0',C',R2,_,_,en0⟩:=Cd.by (sl:=W4) B.st hi e hgi
    have hσ:=en0 rfl;subst hσ;refine Ends.step (P2.trans hrt) (ih _ (by omega) (n+1) d g r' o7 pmc' _ E4 w' W4 q' rfl C' ?_ ⟨hr,hW'⟩);rcases h0' g h0 with z|z
    ·exact z
    ·rw[again_of_running (.inl hr)]at z;exact z
theorem tm0.sem (B:tm0 P Post X G c bx u w0 L0 Lc A ox N K):∀(μ n d:Nat) (g:Goroutine) (b:Bool) σ r o7 L6 T gs w sl q,μ=3*sumTo gs.size q+3*n+(if b then 1 else 0)->Rb P X G c bx n0 w0 L0 Lc A (fun pm=>(bx,ox)∈pm) N σ r o7 L6 d T gs w q->frB σ=false ->
  (if b then gs[0]? =some g/\WS P G (WA P G A K) n d g else σ≠.done/\gs[0]? =some {g with status:=.blocked}/\∃k,n=k+1/\0<d/\Cm0 P G (WA P G A K) k d g)->Ends P Post (crowd gs w sl) T:=by
 intro μ
 induction μ using Nat.strongRecOn with
 |_ μ ih=>
  intro n d g b σ r o7 L6 T gs w sl q hμ C hmf hb;have R5:∃gc,gs[c]? =some gc:=⟨_,Array.getElem?_eq_getElem C.size.1⟩
  obtain⟨gc,hgc⟩:=R5;have tx0:(∃(i:Nat) (g:Goroutine),gs[i]? =some g/\g.status= .running)/\∀g∈gs,awake g:=by
   cases b with
   |true=>obtain⟨h0,hW⟩:=hb;exact⟨⟨0,g,h0,hW.running⟩,C.awake h0 (.inl hW.running)⟩
   |false=>
    obtain⟨hmd,h0,k,_,_,_⟩:=hb;refine⟨⟨c,gc,hgc,?_⟩,C.awake h0 (.inr rfl)⟩;have hI:=C.child gc hgc;cases σ with
    |up wt=>rcases hI with⟨_,_,h⟩|⟨_,h⟩;exact h.running fun _ _ _ z=>z.1;exact h.running
    |last s=>exact hI.2.2.running
    |out=>cases hmf
    |done=>exact absurd rfl hmd
  obtain⟨i,gi,dd,W4,hi,hgi,P2⟩:=crowd_pick (P:=P) (w:=w) (sl:=sl) tx0.2 tx0.1;have Cd:=C.at dd;by_cases e:i=0
  ·subst e;cases b with
   |false=>obtain⟨_,h0,_⟩:=hb;rw[h0]at hi;obtain rfl:=Option.some.inj hi;cases hgi
   |true=>
    obtain⟨h0,hW⟩:=hb;rw[h0]at hi;obtain rfl:=Option.some.inj hi;cases n with
    |zero=>exact hW.elim
    |succ n=>
     rcases hW with⟨g',es,⟨_,_,r9,u3⟩,hW⟩|⟨hd0,hr,ho,rz0,g',Cr0,hE⟩
     ·obtain⟨C',G2⟩:=Cd.lp0 B.st (g:=g) (g':=g') (σ':=σ) (w':=w.at dd) r9 (fun _ h=>h) (.inl rfl) Cd.o6 (fun _ _ _ h=>h);exact Ends.step (P2.trans (runT_crowd_go (sl:=W4) (i:=0) h0 (u3 _ _ _ Cd.o6))) (ih _ (by simp only[Array.size_setIfInBounds,Array.size_map];rw[hμ];simp only[if_true];omega) n _ g' true σ _ _ _ _ _ _ W4 q rfl C' hmf ⟨G2,hW⟩)
     ·have blk:σ≠.done->(∃st,q7 G st 0 (w.at dd))->Ends P Post (crowd gs w sl) T:=fun hmd ⟨st,hat⟩=>by
       have hgo:=rz0 _ _ hat;have hrt:=runT_crowd_go (P:=P) (sl:=W4) (i:=0) h0 hgo;rw[show(MemOp.ofEvents 0 g.frame.fn g.frame.place #[]:Array MemOp)=#[] from rfl]at hrt;obtain⟨C',G2⟩:=Cd.lp0 B.st (g:=g) (g':={g with status:=.blocked}) (es:=#[]) (σ':=σ) (w':=w.at dd) (fun e he=>by simp at he) (fun _ h=>h) (.inl rfl) Cd.o6 (fun _ _ _ h=>h);rw[show(MemOp.ofEvents 0 g.frame.fn g.frame.place #[]:Array MemOp)=#[] from rfl]at C';exact Ends.step (P2.trans hrt) (ih _ (by simp only[Array.size_setIfInBounds,Array.size_map];rw[hμ];simp) (n+1) d g false σ _ _ _ _ _ _ W4 q rfl C' hmf ⟨hmd,G2,n,rfl,hd0,hr,ho,rz0,g',Cr0,hE⟩)
      cases σ with
      |out=>cases hmf
      |up wt=>exact blk (fun e=>by cases e) ⟨_,Cd.o6⟩
      |last s=>exact blk (fun e=>by cases e) (by
        have:=Cd.o6;cases s with
        |zero=>exact⟨_,this⟩
        |succ s=>exact⟨_,this⟩)
      |done=>
       obtain⟨C',G2⟩:=Cd.lp0 B.st (g:=g) (g':=g') (es:=semEvents (smA G)) (σ':=.out) (w':=(w.at dd).setCell (smA G) (.int .u32 0)) jd0 (fun _ h=>h) (.inr ⟨_,_,rfl,rfl,Nat.le_succ _,rfl⟩) (Cd.o6.setSm 0) (fun _ _ _ h=>h);rw[ev0]at C';exact Ends.step (P2.trans (runT_crowd_go (sl:=W4) (i:=0) h0 (Cr0 _ Cd.o6))) (B.wa _ n d g' _ _ _ _ _ _ W4 q rfl C' G2 hE)
  ·obtain⟨E4,ops,q',w',σ',r',pmc',hrt,n2,h0',C',R2,hfr,Ct0,_⟩:=Cd.by (sl:=W4) B.st hi e hgi
   rw[hmf]at hfr;refine Ends.step (P2.trans hrt) ?_;cases b with
   |true=>
    obtain⟨h0,hW⟩:=hb;refine ih _ (by rw[hμ];simp only[if_true];omega) n d g true σ' r' o7 pmc' _ E4 w' W4 q' rfl C' hfr ⟨?_,hW⟩;rcases h0' g h0 with z|z
    ·exact z
    ·rw[again_of_running (.inl hW.running)]at z;exact z
   |false=>
    obtain⟨hmd,h0,k,hk,hd0,sa0⟩:=hb;have hA:E4[0]? =some (({g with status:=.blocked}:Goroutine).again w')->Ends P Post (crowd E4 w' W4) (T++ops):=fun z=>by
     rw[again_blocked sa0.1 sa0.2.1]at z;exact ih _ (by rw[hμ];simp only[if_true];simp;omega) n d g true σ' r' o7 pmc' _ E4 w' W4 q' rfl C' hfr ⟨z,by rw[hk];exact .inr ⟨hd0,sa0⟩⟩
    by_cases z8:σ'= .done
    ·exact hA ((Ct0 z8).resolve_left hmd _ h0)
    ·rcases h0' _ h0 with z|z
     ·exact ih _ (by rw[hμ];simp;omega) n d g false σ' r' o7 pmc' _ E4 w' W4 q' rfl C' hfr ⟨z8,z,k,hk,hd0,sa0⟩
     ·exact hA z
theorem tm0.head (B:tm0 P Post X G c bx u w0 L0 Lc A ox N K):∀(μ n:Nat) (o:Option Nat) (V d:Nat) (g:Goroutine) σ r o7 L6 T gs w sl q,μ=n+sumTo gs.size q->Rb P X G c bx n0 w0 L0 Lc A (fun pm=>(bx,ox)∈pm) N σ r o7 L6 d T gs w q->frB σ=true->gs[0]? =some g->WH P G (WA P G A K) n o V d g ->
  (match o with|none=>ho0 σ <=V|some vs=>0<vs/\ho0 σ <=vs)->Ends P Post (crowd gs w sl) T:=by
 intro μ
 induction μ using Nat.strongRecOn with
 |_ μ ih=>
  intro n o V d g σ r o7 L6 T gs w sl q hμ C hfr h0 hW hV;have hr:=hW.running;cases n with
  |zero=>exact hW.elim
  |succ n=>
   obtain⟨i,gi,dd,W4,hi,hgi,P2⟩:=crowd_pick (P:=P) (w:=w) (sl:=sl) (C.awake h0 (.inl hr)) ⟨0,g,h0,hr⟩;have Cd:=C.at dd;by_cases e:i=0
   ·subst e;rw[h0]at hi;obtain rfl:=Option.some.inj hi;have hat:q7 G ((ho0 σ*KK:Nat):Int) 0 (w.at dd):=by have:=Cd.o6;rw[Hz0 hfr]at this;exact this
    unfold WH at hW;rcases hW with⟨g',es,⟨_,_,r9,u3⟩,hW⟩|⟨_,hW⟩
    ·obtain⟨C',G2⟩:=Cd.lp0 B.st (g:=g) (g':=g') (σ':=σ) (w':=w.at dd) r9 (fun _ h=>h) (.inl rfl) Cd.o6 (fun _ _ _ h=>h);exact Ends.step (P2.trans (runT_crowd_go (sl:=W4) (i:=0) h0 (u3 _ _ _ hat))) (ih _ (by simp only[Array.size_setIfInBounds,Array.size_map];omega) n o V _ g' σ _ _ _ _ _ _ W4 q rfl C' hfr G2 hW hV)
    ·have jw0:∀g',stepG P true g (w.at dd)= .go g' (w.at dd) #[rdA (stA G)]->(∀T' E4,Rb P X G c bx n0 w0 L0 Lc A (fun pm=>(bx,ox)∈pm) N σ r o7 L6 d T' E4 (w.at dd) q->E4.size=gs.size->E4[0]? =some g'->Ends P Post (crowd E4 (w.at dd) W4) T')->Ends P Post (crowd gs w sl) T:=fun g' hgo hk=>by
      obtain⟨C',G2⟩:=Cd.lp0 B.st (g:=g) (g':=g') (es:=#[rdA (stA G)]) (σ':=σ) (w':=w.at dd) gi0 (fun _ h=>h) (.inl rfl) Cd.o6 (fun _ _ _ h=>h);rw[deafBehind_still n8]at C';exact Ends.step (P2.trans (runT_crowd_go (sl:=W4) (i:=0) h0 hgo)) (hk _ _ C' (by simp) G2)
     cases o with
     |none=>
      have hV':ho0 σ <=V:=hV;obtain⟨g',u3,hz,hnz⟩:=hW (ho0 σ) hV';refine jw0 g' (u3 _ hat) fun T' E4 C' n2 G2=>?_;by_cases hc:ho0 σ=0
      ·have hσ:σ= .out:=by
        cases σ with
        |out=>rfl
        |up wt=>cases hc
        |last s=>cases hfr
        |done=>cases hfr
       subst hσ;exact B.wa _ n d g' _ _ _ _ _ _ W4 q rfl C' G2 (hz hc)
      ·exact ih _ (by rw[n2];omega) n (some (ho0 σ)) V d g' σ _ _ _ T' E4 _ W4 q rfl C' hfr G2 (hnz hc) ⟨by omega,Nat.le_refl _⟩
     |some vs=>
      obtain⟨hvs,hle⟩:=hV;obtain⟨⟨g1,As0,hS⟩,Cu0⟩:=hW;by_cases hc:ho0 σ=vs
      ·have hσ:σ= .up false:=by
        cases σ with
        |out=>have h2:0=vs:=hc;omega
        |up wt=>cases wt with
         |false=>rfl
         |true=>cases hfr
        |last s=>cases hfr
        |done=>cases hfr
       subst hσ;have do1:vs=1:=hc.symm;subst do1;have e1:(((1*KK+1:Nat)):Int)=(bst (.up true)).1:=by show _=((((0+1)*KK+(if true=true then 1 else 0):Nat)):Int);rw[Nat.zero_add];rfl
       obtain⟨C',G2⟩:=Cd.lp0 B.st (g:=g) (g':=g1) (es:=#[rdA (stA G),wrA (stA G)]) (σ':=.up true) (w':=(w.at dd).setCell (stA G) (.int .u64 ((1*KK+1:Nat):Int))) x9 (fun _ h=>h) (.inr ⟨_,_,rfl,rfl,Nat.le_refl _,rfl⟩) (by
        have:=Cd.o6.setSt ((1*KK+1:Nat):Int);rw[<- e1];exact this) (fun _ _ _ h=>h)
       rw[gh0]at C';exact Ends.step (P2.trans (runT_crowd_go (sl:=W4) (i:=0) h0 (As0 _ hat))) (B.sem _ n d g1 true (.up true) _ _ _ _ _ _ W4 q rfl C' rfl ⟨G2,hS⟩)
      ·obtain⟨g',u3,hH⟩:=Cu0 (ho0 σ) (by omega);refine jw0 g' (u3 _ hat) fun T' E4 C' n2 G2=>?_;exact ih _ (by rw[n2];omega) n none (ho0 σ) d g' σ _ _ _ T' E4 _ W4 q rfl C' hfr G2 hH (Nat.le_refl _)
   ·obtain⟨E4,ops,q',w',σ',r',pmc',hrt,n2,h0',C',R2,vj0,_,en0⟩:=Cd.by (sl:=W4) B.st hi e hgi
    rw[hfr]at vj0;have y6:ho0 σ' <=ho0 σ:=by
     cases σ with
     |out=>rw[en0 rfl];exact Nat.le_refl _
     |up wt=>cases σ' <;> first|exact Nat.le_refl _|exact Nat.zero_le _
     |last s=>cases hfr
     |done=>cases hfr
    refine Ends.step (P2.trans hrt) (ih _ (by omega) (n+1) o V d g σ' r' o7 pmc' _ E4 w' W4 q' rfl C' vj0 ?_ hW ?_)
    ·rcases h0' g h0 with z|z
     ·exact z
     ·rw[again_of_running (.inl hr)]at z;exact z
    ·cases o with
     |none=>exact Nat.le_trans y6 hV
     |some vs=>exact⟨hV.1,Nat.le_trans y6 hV.2⟩
theorem tm0.path (B:tm0 P Post X G c bx u w0 L0 Lc A ox N K):∀(μ n:Nat) (g:Goroutine) σ r o7 L6 T gs w sl q,μ=n+sumTo gs.size q->Rb P X G c bx n0 w0 L0 Lc A (fun pm=>(bx,ox)∈pm) N σ r o7 L6 0 T gs w q->frB σ=true->gs[0]? =some g->MP P true G L0 (Lp0 P G A K) n o7 g->Ends P Post (crowd gs w sl) T:=by
 intro μ
 induction μ using Nat.strongRecOn with
 |_ μ ih=>
  intro n g σ r o7 L6 T gs w sl q hμ C hfr h0 hW;have hr:g.status= .running:=hW.running fun n pm g z=>WH.running (show WH P G (WA P G A K) n none 1 0 g from z);cases n with
  |zero=>exact hW.elim
  |succ n=>
   unfold MP at hW;rcases hW with hE|⟨_,hW⟩
   ·exact B.head _ n none 1 0 g σ r o7 L6 T gs w sl q rfl C hfr h0 hE (by cases σ <;> first|exact Nat.le_refl _|exact Nat.zero_le _)
   obtain⟨i,gi,dd,W4,hi,hgi,P2⟩:=crowd_pick (P:=P) (w:=w) (sl:=sl) (C.awake h0 (.inl hr)) ⟨0,g,h0,hr⟩;have Cd:=C.at dd;by_cases e:i=0
   ·subst e;rw[h0]at hi;obtain rfl:=Option.some.inj hi;rcases hW with⟨g',es,hr',r9,u3,hM⟩|⟨g',b,cs,T1,o,v,es,hr',hm,r9,u3,hM⟩|⟨gf,cs,T1,hr',u3,hM⟩
    ·have hd:deafBehind 0 es=0:=deafBehind_still (fun e he=>(r9 e he).on.2.2) _;obtain⟨C',G2⟩:=Cd.main B.st.c0 (g:=g) (g':=g') (es:=es) (σ':=σ) (pm0':=o7) (w':=w.at dd) (Cd.tb.own Cd.apart Cd.n0 r2 (fun op C5 bb hb=>by
      obtain⟨e,he,rfl⟩:=Go.Conc.mem_ofEvents C5;have:=(r9 e he).on.1 bb hb;exact⟨B.st.on0 Cd.Zj0 this,.inl ⟨rfl,this⟩⟩) fun _=>norel_of fun e he=>(r9 e he).on.2.1) Cd.wf Cd.own Cd.apart Cd.o6 (fun _ _ _ h=>h)
     rw[hd]at C';exact Ends.step (P2.trans (runT_crowd_go (sl:=W4) (i:=0) h0 (u3 _ (Cd.Ht0 B.st)))) (ih _ (by simp only[Array.size_setIfInBounds,Array.size_map];omega) n g' σ _ _ _ _ _ _ W4 q rfl C' hfr G2 hM)
    ·have hd:deafBehind 0 es=0:=deafBehind_still (fun e he=>(dc0 (L:=L0) hm (r9 e he)).2.2) _;have hob:=(Cd.own _ (.inl hm))
     have hng:=B.st.ng hob.1;obtain⟨C',G2⟩:=Cd.main B.st.c0 (g:=g) (g':=g') (es:=es) (σ':=σ) (pm0':=ir0 o7 b (.cells (cs.setIfInBounds o v) T1 (0,0))) (w':=(w.at dd).setCell ⟨b,o,none⟩ v) ((Cd.tb.own Cd.apart Cd.n0 r2 (fun op C5 bb hb=>by
      obtain⟨e,he,rfl⟩:=Go.Conc.mem_ofEvents C5;have:=(dc0 (L:=L0) hm (r9 e he)).1 bb hb;exact⟨B.st.on0 Cd.Zj0 this,.inl ⟨rfl,this⟩⟩) fun _=>norel_of fun e he=>(dc0 (L:=L0) hm (r9 e he)).2.1).grow (fun k hk=>by
       obtain⟨x,hx⟩:=hk;by_cases e:k=b
       ·exact⟨.cells (cs.setIfInBounds o v) T1 (0,0),List.mem_map.2 ⟨(k,x),hx,by rw[if_pos e,e]⟩⟩
       ·exact⟨x,List.mem_map.2 ⟨(k,x),hx,by rw[if_neg e]⟩⟩) fun _ h=>h) (Cd.wf.cell v hob.1 hng) (fun x hx=>by
       rcases hx with hx|hx
       ·rcases mem_set hx with⟨rfl,_⟩|⟨hx,hxb⟩
        ·exact⟨hob.1,heap_put hob.2⟩
        ·have h1:=Cd.own x (.inl hx);exact⟨h1.1,by rw[C1 _ v (a:=⟨b,o,none⟩) hxb];exact h1.2⟩
       ·have h1:=Cd.own x (.inr hx);have:x.1≠b:=fun e=>Cd.apart.own x.1 ⟨_,by rw[e];exact hm⟩ ⟨x.2,hx⟩;exact⟨h1.1,by rw[C1 _ v (a:=⟨b,o,none⟩) this];exact h1.2⟩)
      ⟨Cd.apart.l0,fun p hp h=>Cd.apart.lc p hp (tj0 h),fun bb h h'=>Cd.apart.own bb (tj0 h) h'⟩ (Cd.o6.of_block (C1 _ v (a:=⟨b,o,none⟩) (Ne.symm hng))) (fun _ _ _ h=>h)
     rw[hd]at C';exact Ends.step (P2.trans (runT_crowd_go (sl:=W4) (i:=0) h0 (u3 _ (Cd.Ht0 B.st)))) (ih _ (by simp only[Array.size_setIfInBounds,Array.size_map];omega) n g' σ _ _ _ _ _ _ W4 q rfl C' hfr G2 hM)
    ·have n2:=Cd.wf.size;have dp1:w0.heap.size <=w.heap.size:=n2;obtain⟨C',G2⟩:=Cd.main B.st.c0 (g:=g) (g':=gf w.heap.size) (es:=#[]) (σ':=σ) (pm0':=(w.heap.size,.cells cs T1 (0,0))::o7) (w':=(w.at dd).alloc (.cells cs T1 (0,0))) ((Cd.tb.mute Cd.n0 (fun op C5=>by
      obtain⟨e,he,rfl⟩:=Go.Conc.mem_ofEvents C5;simp at he) fun _=>norel_of fun e he=>by simp at he).grow (fun k ⟨x,hx⟩=>⟨x,List.mem_cons_of_mem _ hx⟩) fun _ h=>h) (Cd.wf.alloc _ B.st.Ca0.1) (fun x hx=>by
       rcases hx with hx|hx
       ·rcases List.mem_cons.1 hx with rfl|hx
        ·exact⟨.inr dp1,heap_alloc_new (w:=w.at dd)⟩
        ·have:=Cd.own x (.inl hx);exact⟨this.1,heap_alloc this.2⟩
       ·have:=Cd.own x (.inr hx);exact⟨this.1,heap_alloc this.2⟩)
      ⟨Cd.apart.l0,fun p hp h=>by
       obtain⟨x,hx⟩:=h;rcases List.mem_cons.1 hx with e|hx
       ·have:=(B.st.st p (.inr hp)).2.1;have e:=congrArg Prod.fst e;simp only at e;omega
       ·exact Cd.apart.lc p hp ⟨x,hx⟩,fun bb h h'=>by
       obtain⟨x,hx⟩:=h;rcases List.mem_cons.1 hx with e|hx
       ·obtain⟨y,hy⟩:=h';have h1:bb<w.heap.size:=tk0 (Cd.own _ (.inr hy)).2;have e:=congrArg Prod.fst e;simp only at e;omega
       ·exact Cd.apart.own bb ⟨x,hx⟩ h'⟩ (Cd.o6.of_block (by
       show(w.heap.push _)[G.blk]? =w.heap[G.blk]?;rw[Array.getElem?_push,if_neg (by have:=B.st.Ca0.1;omega)])) (fun _ _ _ h=>h)
     exact Ends.step (P2.trans (runT_crowd_go (sl:=W4) (i:=0) h0 (u3 _))) (ih _ (by simp only[Array.size_setIfInBounds,Array.size_map];omega) n (gf w.heap.size) σ _ _ _ _ _ _ W4 q rfl C' hfr G2 (hM w.heap.size))
   ·obtain⟨E4,ops,q',w',σ',r',pmc',hrt,n2,h0',C',R2,vj0,_,_⟩:=Cd.by (sl:=W4) B.st hi e hgi
    rw[hfr]at vj0;refine Ends.step (P2.trans hrt) (ih _ (by omega) (n+1) g σ' r' o7 pmc' _ E4 w' W4 q' rfl C' vj0 ?_ (by unfold MP;exact .inr ⟨hr,hW⟩));rcases h0' g h0 with z|z
    ·exact z
    ·rw[again_of_running (.inl hr)]at z;exact z
end
end
section
attribute [local irreducible] KK
theorem Fin.beside {P:Program} {Post:Value->World->Prop} {X:Gh} {u:World} {g g1 child:Goroutine} {G:H4} {bx nc np:Nat} {ox0 ox:Obj} {L0 Lc:Q3} {A:Addr} {K:Goroutine->Prop} (e4:g.status= .running) (z8:X.dn=0) (hy0:X.pend=1) (cg0:X.cap=1) (hG:X.K2=some G) (e8:∀i,X.G1 i=none)
  (hgo:∀w,stepG P true g w= .spawn g1 child w #[]) (hl:u9 X bx) (hw:¬X.low bx) (w9:X.C4 bx= .all) (hb:u.heap[bx]? =some ox0) (P2:∀p,p∈L0\/p∈Lc->u.cell? p.1=some p.2/\p.1.block≠bx/\¬GB X p.1.block)
  (Sq0:MP P true G L0 (Lp0 P G A K) np [] g1) (R5:MP P false G Lc (xz0 P G A (fun pm=>(bx,ox)∈pm)) nc [(bx,ox0)] child) (hox:∃cs T f,ox= .cells cs T f) (hK:∀k g,K g->Fin P Post (X.gd0 u bx k) 0 g (dd0 u bx ox k)):Fin P Post X 0 g u:=by
 refine Fin.Q8 e4 fun live T gs w sl d W4 q hg u3 C=>?_;have hrt:=runT_crowd_spawn (P:=P) (sl:=W4) (i:=0) hg (hgo (w.at d));have Ci0:(((MemOp.ofEvents 0 g.frame.fn g.frame.place #[]:Array MemOp).push {g:=0,fn:=g.frame.fn,pos:=g.frame.place,act:=.go gs.size}).push {g:=gs.size,fn:=child.frame.fn,pos:=g.frame.place,act:=.start})=
   #[{g:=0,fn:=g.frame.fn,pos:=g.frame.place,act:=.go gs.size},{g:=gs.size,fn:=child.frame.fn,pos:=g.frame.place,act:=.start}]:=rfl
 rw[Ci0]at hrt;refine Ends.step (u3.trans hrt) ?_;have h0:=C.size;have rx0:=C.above gs.size (Nat.le_refl _);have hc0:gs.size≠0:=by omega
 obtain⟨ρ,hs,hlw⟩:=C.O9;have n2:(w.at d).heap.size=u.heap.size:=hs.size;have hz:count live gs.size=0:=by have:=C.few;omega
 have js0:∀i,live i=false:=fun i=>by
  rcases Nat.lt_or_ge i gs.size with hi|hi
  ·cases e:live i with
   |false=>rfl
   |true=>have:=count_le hi e;omega
  ·exact(C.above i hi).2.2.1
 have ma0:∀G',(X.K2=some G'\/G'∈X.old)->Cut u G':=fun G' hG'=>hG'.elim (fun e=>(C.K2 G' e).1) (C.old G');have S:StB X G gs.size bx (w.at d) L0 Lc:=by
  refine⟨hG,hc0,fun p hp=>?_,⟨by rw[n2];exact(Array.getElem?_eq_some_iff.1 hb).1,fun⟨G',hG',e⟩=>hl.K2 G' hG' e.symm⟩,fun b ⟨G',hG',e⟩=>?_⟩
  ·obtain⟨h1,h2,h3⟩:=P2 p hp;obtain⟨c',T',f',D6,_,_⟩:=B4 h1;exact⟨hs.cell (u:=W2 u (w.at d).tape (w.at d).drawn) h1,by rw[n2];exact(Array.getElem?_eq_some_iff.1 D6).1,h2,h3⟩
  ·obtain⟨c',T',f',D6,_⟩:=ma0 G' hG';rw[n2,e];exact(Array.getElem?_eq_some_iff.1 D6).1
 have B:tm0 P Post X G gs.size bx u (w.at d) L0 Lc A ox (X.n+1) K:=⟨⟨live,T,gs,q,C⟩,e8,hl,(Array.getElem?_eq_some_iff.1 hb).1,S,rfl,hox,hK⟩
 generalize hu:(#[{g:=0,fn:=g.frame.fn,pos:=g.frame.place,act:=.go gs.size},{g:=gs.size,fn:=child.frame.fn,pos:=g.frame.place,act:=.start}]:Trace)=U;have hn:∀op∈U,op.act.touch? =none:=by
  intro op C5;subst hu;simp only[List.mem_toArray,List.mem_cons,List.not_mem_nil,or_false]at C5;rcases C5 with rfl|rfl <;> rfl
 have hD:∀x,Deaf (T++U) x=Deaf T x:=fun x=>Deaf_quiet (fun op C5 d=>by
  subst hu;simp only[List.mem_toArray,List.mem_cons,List.not_mem_nil,or_false]at C5;rcases C5 with rfl|rfl <;> rfl)
 have p:=PastH.born (c:=gs.size) C.past (.inl ⟨rfl,z8⟩) rx0.1 (fun l ⟨p,hp,_⟩=>by rw[rx0.2.2.2]at hp;cases hp) (.inl rfl) g.frame.fn g.frame.place child.frame.fn;rw[hu]at p;have hlo:∀x,¬X.Lo 0 x:=fun x hx=>hx.2 (e8 x);have Bl0:((gs.setIfInBounds 0 g1).push child).size=gs.size+1:=by simp
 have vi0:∀i y,i≠0->i≠gs.size->((gs.setIfInBounds 0 g1).push child)[i]? =some y->gs[i]? =some y:=fun i y hi hic hy=>by
  rw[Array.getElem?_push,if_neg (by simpa using hic),Array.getElem?_setIfInBounds_ne (Ne.symm hi)]at hy;exact hy
 obtain⟨y,hy,hlk⟩:=hs.obj bx ox0 (show(W2 u (w.at d).tape (w.at d).drawn).heap[bx]? =some ox0 from hb);have hyo:(w.at d).heap[bx]? =some ox0:=by
  rw[hlw bx hw,w9]at hlk;cases hlk;exact hy
 refine B.path (n0:=(T++U).size) _ np g1 (.up false) none [] [(bx,ox0)] (T++U) _ (w.at d) W4 (upd q gs.size nc) rfl ⟨WF.refl,⟨p.clean,fun i a _ ha hm hs'=>⟨?_,?_⟩,fun i a x hi ha _ _=>?_,fun i a x ha V9 hx=>?_,fun r0 e=>(by cases e)⟩,Nat.le_refl _,by rw[hD,C.dfn,z8],fun x hx=>?_,⟨fun p hp=>?_,fun p hp h=>?_,fun b h=>?_⟩,
  fun y hy=>?_,fun i y hi hic hy=>?_,?_,⟨by rw[Bl0];omega,by rw[Bl0,C.num]⟩,fun j hj=>?_,fun e=>absurd rfl e⟩ rfl ?_ Sq0
 ·obtain⟨x,hx,u5⟩:=touch_of ha;rcases getElem?_append_cases hx with⟨R2,W3⟩|⟨_,B8⟩
  ·rcases C.past.known i a (by rw[touchAt_of W3];exact u5) hm hs' with h|⟨_,x,_,h,_⟩
   ·exact h.app U
   ·exact absurd h (hlo x)
  ·rw[hn x B8]at u5;cases u5
 ·rcases p.known i a ha hm hs' with h|⟨_,x,_,h,_⟩
  ·exact h
  ·exact absurd h (hlo x)
 ·obtain⟨z,hz',hza⟩:=touch_of ha;have:=lt_size_of_getElem? hz';omega
 ·refine(p.cd0 i a x ha V9 hx).imp (fun z g' r6=>z g' ?_) id;rcases r6 with e|⟨e,_⟩
  ·exact .inl (.inl e)
  ·exact .inr e
 ·rcases hx with hx|hx
  ·cases hx
  ·rcases List.mem_cons.1 hx with rfl|hx
   ·exact⟨.inl rfl,hyo⟩
   ·cases hx
 ·rintro⟨o,ho⟩;rcases List.mem_cons.1 ho with e|ho
  ·exact(S.st p (.inl hp)).2.2.1 (congrArg Prod.fst e)
  ·cases ho
 ·obtain⟨o,ho⟩:=h;cases ho
 ·obtain⟨o,ho⟩:=h;cases ho
 ·rw[Array.getElem?_push,if_pos (by simp)]at hy;obtain rfl:=Option.some.inj hy;rw[upd_same];exact .inl ⟨rfl,(hD _).trans rx0.1,R5⟩
 ·rw[upd_ne q nc hic,hD];have:=C.idle i y hi (vi0 i y hi hic hy);unfold Idle at this;rw[e8 i]at this;simp only[js0,Bool.false_eq_true,if_false]at this;exact this.2
 ·have:=(C.K2 G hG).2;rw[hz,hy0]at this;exact this
 ·rw[Bl0]at hj;rw[hD];exact(C.above j (by omega)).1
 ·rw[Array.getElem?_push,if_neg (by simp;omega),Array.getElem?_setIfInBounds_self_of_lt h0]
end
end Go.Yc
end
section
namespace Go.Vy
open Go Go.Conc Go.Yc Go.RowKit
open Go.Vc Go.Wg
section
attribute [local irreducible] KK
structure rq0 (n:Nat) (b:Frame) (cs:List Frame) (ds:List Deferred) (e:Env) (todo:List Item) (c:Frame):Prop where
 rep:∃a,cr0 n a e ds/\c={b.at a todo with mode:=.returning}
theorem rq0.mode {n:Nat} {b c:Frame} {cs:List Frame} {ds:List Deferred} {e:Env} {todo:List Item} (h:rq0 n b cs ds e todo c):c.mode= .returning:=by
 obtain⟨a,_,rfl⟩:=h.rep;rfl
theorem rq0.go {n:Nat} {b c:Frame} {cs:List Frame} {ds:List Deferred} {e:Env} {todo:List Item} (h:rq0 n b cs ds e todo c) {Y:Nat->Nat->Goroutine->Prop} {ft d:Nat} (hA:AtR Y ft n b cs ds d e todo):Y ft d (G c cs):=by
 obtain⟨a,ha,rfl⟩:=h.rep;exact hA a ha
section
variable {P:Program}{main:Bool}{ok:Event->Prop}{Y:Nat->Nat->Goroutine->Prop}{ft n:Nat}{b:Frame}{cs:List Frame}{ds:List Deferred}{d:Nat}{e:Env}{k todo:List Item}{ops:Array Oper}{i:Nat}{l:List Oper}{dst:Option Nat}{ty:TypeId}{ps:String}{af:Array Edge}{f:FuncId}{fn:Func}{c:Code}
theorem I0.Sr0 (hY:HF P main ok Y) (hk:b.kind≠.early) {o:Oper} {args:Array Value} (m:Nat) (hg:o.guard=none) (hd:j4 n o.dst=true) (hf:P.funcs[f]? =some fn) (hb:fn.body=some c) (hr:∀w,(execOp (ev e) o).run P w= .ok (.enter f args) w) (hv:∀w,(execOp (ev e) o).events P w #[]=#[])
  (hm:args.size+(fn.ntmps-args.size)=m) (h:∀S5,Dw0 n b cs ds e ops i o.dst l k S5->At Y ft m (base f) S5 [] d (Wg.k7 args) [.code c]):I0 Y (ft+1) n b cs ds d e ops i (o::l) k:=by
 intro hl a ha;obtain⟨ho,x5⟩:=E3 hl;refine hY.c rfl rfl (fun w=>?_) (h _ ⟨⟨a,ha,rfl⟩,by rw[ho];rfl,hd,x5⟩ {tmps:=args++Array.replicate (fn.ntmps-args.size) undef,defers:=[]} (v7 args _ hm));show stepG P main (G (b.at a (.inRegion ops (i::List.range' (i+1) l.length)::k)) cs) w=_;rw[stepG_enter ho (by obtain⟨d,op,ty,ps,af,g⟩:=o;cases hg;rfl) hk (by rw[ha.eval];exact hr w),enter_at _ hf hb];have h1:listed P b.fn a o w=#[]:=by unfold listed;rw[ha.eval,hv w];exact seen_none P _
 rw[h1]
theorem I0.Zl0 (hY:HF P main ok Y) (hk:b.kind≠.early) {x:Operand} {caps:Array Value} (m:Nat) (hd:j4 n dst=true) (hx:ev e x= .func (.func f) #[] caps) (hf:P.funcs[f]? =some fn) (O2:(fn.name== "runtime.NumGoroutine")=false) (hb:fn.body=some c)
  (hm:caps.size+(fn.ntmps-caps.size)=m) (h:∀S5,Dw0 n b cs ds e ops i dst l k S5->At Y ft m (base f) S5 [] d (Wg.k7 caps) [.code c]):I0 Y (ft+1) n b cs ds d e ops i (⟨dst,.call {callee:=.value x,args:=#[],argTypes:=#[]},ty,ps,af,none⟩::l) k:=by
 have h1:¬fn.name= "runtime.NumGoroutine":=by simpa using O2
 refine I0.Sr0 hY hk (args:=caps) m rfl hd hf hb (fun w=>?_) (fun w=>?_) hm h
 ·simp[execOp,resolve,Deferred.ofValue,invoke,callFunc,hx,hf,h1,hb]
 ·simp[execOp,resolve,Deferred.ofValue,invoke,callFunc,hx,hf,h1,hb]
theorem I0.gt0 (hY:HF P main ok Y) {cf:Frame} (hd:j4 n dst=true) (hk:b.kind= .deferred) (hr:b.roundOf=none) (hc:cf.mode= .returning) (h:I0 Y ft n b (cf::cs) ds d (m3 e dst .nilIface) ops (i+1) l k):I0 Y (ft+1) n b (cf::cs) ds d e ops i (⟨dst,.call {callee:=.builtin .recover,args:=#[],argTypes:=#[]},ty,ps,af,none⟩::l) k:=by
 intro hl a ha;obtain⟨ho,x5⟩:=E3 hl;exact hY.c rfl rfl (fun w=>by0 ho hk hr hc) (h x5 _ (ha.put hd _))
theorem AtR.Ia0 (hY:HF P main ok Y) {args caps:Array Value} (m:Nat) (hf:P.funcs[f]? =some fn) (O2:(fn.name== "runtime.NumGoroutine")=false) (hb:fn.body=some c) (hm:(args++caps).size+(fn.ntmps-(args++caps).size)=m)
  (h:∀cf,rq0 n b cs ds e todo cf->At Y ft m (baseD f) (cf::cs) [] d (Wg.k7 (args++caps)) [.code c]):AtR Y (ft+1) n b cs ({target:=.fn (.func f) caps,args} :: ds) d e todo:=by
 intro a ha;refine hY.c rfl rfl (fun w=>cu0 (a:=a) (by simp) ha.defers hf O2 hb) ?_;exact h _ ⟨⟨a.tmps,ds⟩,⟨ha.size,rfl,ha.get⟩,rfl⟩ _ (v7 (args++caps) _ hm)
end
section
variable {P:Program}{gr:H4}{A:Addr}{Fp:PM->Prop}{pm:PM}{L:Q3}{K:Goroutine->Prop}{ft n:Nat}{b:Frame}{cs:List Frame}{ds:List Deferred}{d:Nat}{e:Env}{k:List Item}{ops:Array Oper}{i:Nat}{l:List Oper}{dst:Option Nat}{ty:TypeId}{ps:String}{af:Array Edge}{f:FuncId}{fn:Func}{asx:Array Operand}{ats:Array TypeId}
theorem I0.dq1 (hk:b.kind≠.early) (hd:j4 n dst=true) (hf:P.funcs[f]? =some fn) (O2:(fn.name== "runtime.NumGoroutine")=false) (hb:fn.body.isNone=true) (hn:Extern.findNext fn=none) (he:Extern.find fn=some (Extern.Race.marked .releaseMerge)) (hx:(asx.toList.map (ev e))[0]? =some (.pointer (some A))) (hF:Fp pm)
  (h:I0 (YLt P gr) ft n b cs ds 0 (m3 e dst (.tuple #[])) ops (i+1) l k):I0 (YM P false gr L (xz0 P gr A Fp) pm) (ft+1) n b cs ds 0 e ops i (⟨dst,.call {callee:=.value (.func f),args:=asx,argTypes:=ats},ty,ps,af,none⟩::l) k:=by
 intro hl a ha _;obtain⟨ho,x5⟩:=E3 hl;refine .inl ⟨rfl,hF,_,fun w=>stepG_markAt (P:=P) .releaseMerge (by simp) ho (by rw[ha.yielded];rfl) hk rfl hf O2 hb hn he (by rw[ha.eval,R6 rfl];simpa using hx),h x5 _ (ha.put hd _)⟩
abbrev YWA (P:Program) (gr:H4) (A:Addr) (K:Goroutine->Prop):Nat->Nat->Goroutine->Prop:=fun m d g=>WA P gr A K m d g
theorem n4:HF P true (okM gr) (YWA P gr A K):=⟨fun _m _d _g g' es h1 _ h3 h4 h5=>⟨h1,.inl ⟨g',es,fun e he=>so0 (h3 e he),fun w _=>h4 w,h5⟩⟩⟩
theorem Zm0:StG P true gr (YWA P gr A K):=fun m d g g' h1 _ h3 h4=>⟨h1,.inl ⟨g',#[],fun e he=>by simp at he,fun w hw=>h3 w _ _ hw,h4⟩⟩
theorem I0.Ss0 {x:Operand} (hk:b.kind≠.early) (hd:j4 n dst=true) (hf:P.funcs[f]? =some fn) (O2:(fn.name== "runtime.NumGoroutine")=false) (hb:fn.body.isNone=true) (hn:Extern.findNext fn=none) (he:Extern.find fn=some (Extern.Atomic.loadT (.int .u64))) (hx:ev e x= .pointer (some ⟨gr.blk,gr.off,none⟩))
  (h:I0 (YWA P gr A K) ft n b cs ds d (m3 e dst (.int .u64 0)) ops (i+1) l k) :
  I0 (YWA P gr A K) (ft+1) n b cs ds d e ops i (⟨dst,.call {callee:=.value (.func f),args:=#[x],argTypes:=ats},ty,ps,af,none⟩::l) k:=by
 intro hl a ha;obtain⟨ho,x5⟩:=E3 hl;refine⟨rfl,.inl ⟨G (b.at (a.put dst (.int .u64 0)) (.inRegion ops (List.range' (i+1) l.length)::k)) cs,#[rdA (stA gr)],gi0,fun w hw=>?_,?_⟩⟩
 ·exact stepG_load_atomic ho (by rw[ha.yielded];rfl) hk rfl hf O2 hb hn .u64 he (ad:=stA gr) (by rw[ha.eval];exact hx) hw.cells.1
 ·rw[deafBehind_still n8];exact h x5 _ (ha.put hd _)
theorem I0.Zn0 (hk:b.kind≠.early) (hd:j4 n dst=true) (hf:P.funcs[f]? =some fn) (O2:(fn.name== "runtime.NumGoroutine")=false) (hb:fn.body.isNone=true) (hn:Extern.findNext fn=none) (he:Extern.find fn=some (Extern.Race.marked .acquire)) (hx:(asx.toList.map (ev e))[0]? =some (.pointer (some A)))
  (h:I0 (YWE P gr K) ft n b cs ds 0 (m3 e dst (.tuple #[])) ops (i+1) l k):I0 (YWA P gr A K) (ft+1) n b cs ds 0 e ops i (⟨dst,.call {callee:=.value (.func f),args:=asx,argTypes:=ats},ty,ps,af,none⟩::l) k:=by
 intro hl a ha;obtain⟨ho,x5⟩:=E3 hl;exact⟨rfl,.inr ⟨rfl,_,fun w=>stepG_markAt (P:=P) .acquire (by simp) ho (by rw[ha.yielded];rfl) hk rfl hf O2 hb hn he (by rw[ha.eval,R6 rfl];simpa using hx),h x5 _ (ha.put hd _)⟩⟩
end
end
end Go.Vy
end
section
namespace Go.Proofs.YtnifpkopeheodaaGreat
open Go Go.Conc Go.Yc Go.Vy Go.Wg
open Go.Vc (Env upd m3 ev j4 k3)
section
attribute [local irreducible] KK
set_option maxRecDepth 20000 in
theorem St0 (gr:H4) {L:Q3} {Fp:PM->Prop} {pm:PM} (hF:Fp pm) {c:Frame} {cs:List Frame} (hcm:c.mode= .returning) {N:Nat} (hT:QuitsD Tryz.prog N 0 (Conc.G c cs)):At (YM Tryz.prog false gr L (xz0 Tryz.prog gr (stA gr) Fp) pm) (N+500) 4 (baseD 68) (c::cs) [] 0 (Wg.k7 #[.pointer (some ⟨gr.blk,gr.off,none⟩)]) [.code (Tryz.f68.body.getD .skip)]:=by
 refine At.region H2 ?_;refine I0.val H2 (bkd _) rfl (v:=.pointer (some ⟨gr.blk,gr.off,none⟩)) (J0 rfl) ?_;refine I0.call H2 (bkd _) [.pointer (some ⟨gr.blk,gr.off,none⟩),.int .i64 (-1)] 117 rfl Tryz.func66 Jr0 rfl rfl rfl (fun cs1 S4=>?_);refine At.seq H2 ?_;refine At.J4 H2 rfl ?_;refine At.seq H2 ?_;refine U26 ?_;refine I0.val H2 (Z0 _) rfl (v:=.int .i64 (-1)) (J0 rfl) ?_;refine U452 ?_;refine At.J4 H2 rfl ?_;refine At.region H2 ?_;refine I0.val H2 (Z0 _) rfl (v:=.pointer (some ⟨gr.blk,gr.off,none⟩)) (J0 rfl) ?_;refine I0.toUnsafe dl1 (Z0 _) rfl rfl (.inl rfl) Tryz.underlying165 Tryz.underlying128 zo0 ?_;refine I0.dq1 (Z0 _) rfl Tryz.func87 We0 rfl rfl Ws0 rfl hF ?_;refine U464 ?_;simp only[ct0];refine I0.nil (B3 _ gr) ?_;refine U529 ?_;refine U192 ?_;refine U473 ?_;refine U300 ?_;refine U437 ?_;refine U563 ?_;refine U106 ?_;refine U386 ?_;refine I0.val (B3 _ gr) (Z0 _) rfl (v:=.int .i64 (-1)) (J0 rfl) ?_;refine U340 ?_;refine U434 ?_;intro cs2 hb2;refine U514 ?_;refine U229 ?_;refine U347 ?_;refine I0.Ms0 (Z0 _) rfl Tryz.func109 Em0 rfl rfl En0 rfl rfl (fun v wt hwt hv D3=>?_) ?_
 ·by_cases hv0:0<v
  ·have hwc:wt=0\/wt=1:=by omega
   rcases hwc with rfl|rfl
   ·refine I0.val (j0 _) (Z0 _) rfl (v:=.int .u64 (((v*4294967296+0:Nat):Int))) (Q0 rfl) ?_;refine I0.nil (j0 _) ?_;refine At.ret (j0 _) (fun _=>?_);refine U363 ?_;refine U40 ?_;refine U357 ?_;refine U90 ?_;refine U161 ?_;refine U398 ?_;refine I0.nil (j0 _) ?_;refine U161 ?_;refine U422 ?_;refine U40 ?_;refine U157 ?_;refine U216 ?_;refine U219 ?_;refine U277 ?_;refine U217 ?_;refine At.ret (j0 _) (fun _=>?_);refine AtR.mark (j0 _) .enable (by simp) rfl Tryz.func89 iy0 rfl rfl iz0 ?_;simp only[m6];refine U48 ?_;refine At.done (j0 _) (fun _=>?_);exact U47
   ·refine I0.val (j0 _) (Z0 _) rfl (v:=.int .u64 (((v*4294967296+1:Nat):Int))) (Q0 rfl) ?_;refine I0.nil (j0 _) ?_;refine At.ret (j0 _) (fun _=>?_);refine U364 ?_;refine U40 ?_;refine U358 ?_;refine U90 ?_;refine U162 ?_;refine U397 ?_;refine I0.nil (j0 _) ?_;refine U162 ?_;refine U350 ?_;refine U494 ?_;refine U157 ?_;refine U216 ?_;refine U46 ?_;refine U391 ?_;refine U157 ?_;refine U285 ?_;refine U217 ?_;refine At.ret (j0 _) (fun _=>?_);refine AtR.mark (j0 _) .enable (by simp) rfl Tryz.func89 iy0 rfl rfl iz0 ?_;simp only[m6];refine U48 ?_;refine At.done (j0 _) (fun _=>?_);exact U47
  ·obtain rfl:v=0:=by omega
   obtain rfl:wt=0:=by omega
   refine U234 ?_;refine At.ret (j0 _) (fun _=>?_);refine U442 ?_;refine U46 ?_;refine U359 ?_;refine U90 ?_;refine U163 ?_;refine U339 ?_;refine U435 ?_;refine U163 ?_;refine U425 ?_;refine U40 ?_;refine U157 ?_;refine U226 ?_;refine U222 ?_;refine U447 ?_;refine U219 ?_;refine U222 ?_;refine U392 ?_;refine U383 ?_;refine U456 ?_;refine At.J4 (j0 _) rfl ?_;refine At.ret (j0 _) (fun _=>?_);refine AtR.mark (j0 _) .enable (by simp) rfl Tryz.func89 iy0 rfl rfl iz0 ?_;simp only[m6];refine U48 ?_;refine At.done (j0 _) (fun _=>?_);exact U47
 ·refine I0.val (P0 _ gr 2) (Z0 _) rfl (v:=.int .u64 (((0*4294967296+1:Nat):Int))) (Q0 rfl) ?_;refine I0.nil (P0 _ gr 2) ?_;refine At.ret (P0 _ gr 2) (fun _=>?_);refine U361 ?_;refine U559 ?_;refine U77 ?_;refine U360 ?_;refine U78 ?_;refine U53 ?_;refine U77 ?_;refine U337 ?_;refine U432 ?_;refine U77 ?_;refine U348 ?_;refine U449 ?_;refine U62 ?_;refine U396 ?_;refine U153 ?_;refine U78 ?_;refine U105 ?_;refine U53 ?_;refine U165 ?_;refine U417 ?_;refine U230 ?_;refine U62 ?_;refine U387 ?_;refine U396 ?_;refine U153 ?_;refine U78 ?_;refine U105 ?_;refine U53 ?_;refine U165 ?_;refine U385 ?_;refine U382 ?_;refine U53 ?_;refine U62 ?_;refine U151 ?_;refine U349 ?_;intro cs3 hb3;refine U72 ?_;refine U450 ?_;refine U72 ?_;refine U151 ?_;refine U353 ?_;refine U451 ?_;refine At.ret (P0 _ gr 1) (fun _=>?_);refine U498 ?_;refine U545 ?_;refine U560 ?_;refine U196 ?_;refine U346 ?_;intro cs4 hb4;refine U196 ?_;refine U352 ?_;refine U460 ?_;refine At.done (P0 _ gr 0) (fun _=>?_);refine U483 ?_;refine U197 ?_;refine U457 ?_;refine U546 ?_;refine U554 ?_;refine U197 ?_;refine U388 ?_;refine U547 ?_;refine At.skip (P0 _ gr 0) ?_;refine U558 ?_;refine U413 ?_;refine U343 ?_;refine U480 ?_;refine At.inBlock (j0 _) ?_;refine U465 ?_;refine U393 ?_;refine U564 ?_;refine U235 ?_;refine U453 ?_;refine At.exit (j0 _) rfl ?_;refine At.done (j0 _) (fun _=>?_);refine AtR.mark (j0 _) .enable (by simp) rfl Tryz.func89 iy0 rfl rfl iz0 ?_;simp only[m6];refine U48 ?_;refine At.done (j0 _) (fun _=>?_);exact U47
set_option maxRecDepth 20000 in
theorem yb0 (gr:H4) (K:Goroutine->Prop) {c:Frame} {cs:List Frame} (hK:K (Conc.G (c.finish (.tuple #[])) cs)):∀(V:Nat),V<2147483648->∀(e:Env),At (XWH Tryz.prog gr (WA Tryz.prog gr (stA gr) K) none V) (500*V+500) 84 (base 70) (c::cs) [] 1 (upd e 0 (.pointer (some ⟨gr.blk,gr.off,none⟩))) [.code zp0,.inLoop zp0,.inBlock 0]:=by
 intro V
 induction V using Nat.strongRecOn with
 |_ V ih=>
 intro hV e;refine At.block A2 ?_;refine U13 ?_;refine U156 ?_;refine U515 ?_;intro cs1 S4;refine U496 ?_;refine U13 ?_;refine U155 ?_;refine I0.Eg0 (Z0 _) rfl Tryz.func110 uu0 rfl rfl uv0 rfl ?_ (fun v hv hv0=>?_)
 ·refine I0.val n4 (Z0 _) rfl (v:=.int .u64 0) (Q0 rfl) ?_;refine I0.nil n4 ?_;refine At.ret n4 (fun _=>?_);refine AtR.leave1 n4 S4 rfl Tryz.func96 rfl (.int .u64 0) rfl ?_;refine U262 ?_;refine U533 ?_;refine I0.val n4 (Z0 _) rfl (v:=.int .u64 0) (bt0 (r:=0) rfl rfl (by decide) (by decide)) ?_;refine I0.val n4 (Z0 _) rfl (v:=.int .i32 0) (q3 (r:=0) rfl Tryz.underlying136 Tryz.underlying21 (by decide)) ?_;refine I0.val n4 (Z0 _) rfl (v:=.int .i32 0) (Q0 rfl) ?_;refine I0.nil n4 ?_;refine U533 ?_;refine I0.val n4 (Z0 _) rfl (v:=.int .u64 0) (B6 (r:=0) rfl rfl (by decide)) ?_;refine I0.val n4 (Z0 _) rfl (v:=.int .u32 0) (q3 (r:=0) rfl Tryz.underlying136 Tryz.underlying139 (by decide)) ?_;refine I0.val n4 (Z0 _) rfl (v:=.int .u32 0) (Q0 rfl) ?_;refine U289 ?_;refine U184 ?_;refine I0.val n4 (Z0 _) rfl (v:=.int .i32 0) (J0 rfl) ?_;refine I0.val n4 (Z0 _) rfl (v:=.bool true) (Z8 (r:=true) rfl rfl (by decide)) ?_;refine I0.nil n4 ?_;refine At.J4 n4 rfl ?_;refine At.seq n4 ?_;refine At.J4 n4 rfl ?_;refine U462 ?_;simp only[m6];refine I0.nil n4 ?_;refine U239 ?_;refine U394 ?_;refine U82 ?_;refine U39 ?_;refine U399 ?_;refine U418 ?_;refine U380 ?_;refine U415 ?_;refine I0.off I2 rfl rfl ?_;refine U476 ?_;refine U204 ?_;refine At.ret I2 (fun _=>?_);exact U190
 ·refine I0.val A2 (Z0 _) rfl (v:=.int .u64 (((v*4294967296+0:Nat):Int))) (Q0 rfl) ?_;refine I0.nil A2 ?_;refine At.ret A2 (fun _=>?_);refine U371 ?_;refine I0.nil A2 ?_;refine U164 ?_;refine U341 ?_;refine U466 ?_;refine U164 ?_;refine U354 ?_;refine U487 ?_;refine At.seq A2 ?_;refine U13 ?_;refine U381 ?_;refine U286 ?_;refine U13 ?_;refine U156 ?_;refine U378 ?_;refine U338 ?_;intro cs2 hb2;refine U13 ?_;refine U488 ?_;refine U13 ?_;refine U155 ?_;refine U379 ?_;refine I0.Mt0 (vs:=v) (Z0 _) rfl Tryz.func112 Na0 rfl rfl Ni0 rfl rfl rfl ?_ (fun v2 hv2=>?_)
  ·refine I0.val q4 (Z0 _) rfl (v:=.bool true) (Q0 rfl) ?_;refine I0.nil q4 ?_;refine At.ret q4 (fun _=>?_);refine U520 ?_;refine U528 ?_;refine U516 ?_;refine U270 ?_;refine U221 ?_;refine U365 ?_;rw[V7 _ rfl];refine I0.nil q4 ?_;refine U255 ?_;refine U484 ?_;refine U287 ?_;refine U366 ?_;refine U395 ?_;refine U472 ?_;refine U574 ?_;refine At.skip q4 ?_;refine At.seq q4 ?_;refine U221 ?_;refine U419 ?_;refine U289 ?_;refine U448 ?_;refine I0.val n4 (Z0 _) rfl (v:=.pointer (some ⟨gr.blk,gr.off,none⟩)) (A3 (s:=1) gr.off gr.off rfl Tryz.underlying141 rfl kt0 (by decide) rfl) ?_;refine I0.call n4 (Z0 _) [.pointer (some ⟨gr.blk,gr.off,none⟩)] 7 rfl Tryz.func96 Js0 rfl rfl rfl (fun cs3 hb3=>?_);refine U184 ?_;refine U262 ?_;refine At.seq n4 ?_;refine U448 ?_;refine I0.val n4 (Z0 _) rfl (v:=.pointer (some ⟨gr.blk,gr.off,none⟩)) (A3 (s:=1) gr.off gr.off rfl Tryz.underlying138 rfl ks0 (by decide) rfl) ?_;refine I0.Ss0 (Z0 _) rfl Tryz.func110 uu0 rfl rfl uv0 rfl ?_;refine U262 ?_;refine At.ret n4 (fun _=>?_);refine AtR.leave1 n4 hb3 rfl Tryz.func96 rfl (.int .u64 0) rfl ?_;refine I0.val n4 (Z0 _) rfl (v:=.bool false) (c7 (r:=false) rfl rfl (by decide)) ?_;refine I0.val n4 (Z0 _) rfl (v:=.bool false) (Q0 rfl) ?_;refine U289 ?_;refine At.J4 n4 rfl ?_;refine U462 ?_;simp only[m6];refine I0.nil n4 ?_;refine U239 ?_;refine U394 ?_;refine U82 ?_;refine U524 ?_;refine U204 ?_;refine At.ret I2 (fun _=>?_);exact U190
  ·refine I0.val A2 (Z0 _) rfl (v:=.bool false) (Q0 rfl) ?_;refine I0.nil A2 ?_;refine At.ret A2 (fun _=>?_);refine U518 ?_;refine U575 ?_;exact At.Ec0 (E:=WA Tryz.prog gr (stA gr) K) (fun _ _ _ _=>WA.mono _ _ _ _) (At.jk0 (fun e=>ih v2 (by omega) (by omega) e) rfl) (by omega)
set_option maxRecDepth 20000 in
theorem Su0 (gr:H4) (K:Goroutine->Prop) {c:Frame} {cs:List Frame} (hK:K (Conc.G (c.finish (.tuple #[])) cs)) (V:Nat) (hV:V<2147483648):At (XWH Tryz.prog gr (WA Tryz.prog gr (stA gr) K) none V) (500*V+510) 84 (base 70) (c::cs) [] 0 (Wg.k7 #[.pointer (some ⟨gr.blk,gr.off,none⟩)]) [.code (Tryz.f70.body.getD .skip)]:=by
 refine At.seq A2 ?_;refine At.J4 A2 rfl ?_;refine U438 ?_;simp only[ct0];refine I0.nil A2 ?_;refine At.block A2 ?_;refine At.loop A2 ?_;exact At.Ec0 (E:=WA Tryz.prog gr (stA gr) K) (fun _ _ _ _=>WA.mono _ _ _ _) (At.jk0 (fun e=>yb0 gr K hK V hV e) rfl) (by omega)
end
end Go.Proofs.YtnifpkopeheodaaGreat
end
section
namespace Go.Vy
open Go Go.Conc Go.Yc Go.RowKit
open Go.Vc Go.Wg
section
attribute [local irreducible] KK
theorem de0 {pm:PM} {b:Nat} {o o':Obj} (h:(b,o)∈pm):(b,o')∈ir0 pm b o':=List.mem_map.2 ⟨(b,o),h,by simp⟩
section
variable {P:Program}{ρ:Operand->Value}{d:Option Nat}{ty:TypeId}{ps:String}{af:Array Edge}{g:Option (Nat×Bool)}{x y:Operand}{T T':TypeId}
theorem lq0:Op.maxDepth=9999+1:=rfl
theorem Sv0 {p:Addr} {u:TypeId} (hx:ρ x= .pointer (some p)) (hy:ρ y= .pointer none) (hT:P.underlying T=some (.pointer u)):Pu P (execOp ρ ⟨d,.binOp .eql T x y T',ty,ps,af,g⟩) (.bool false):=by
 refine⟨fun w=>Go.Vc.H3 hx hy hT,fun w=>?_⟩;have h2:(Op.equalIn Op.maxDepth T (.pointer (some p)) (.pointer none)).events P w #[]=#[]:=by rw[lq0,Op.equalIn];simp[run_underlying hT,go_sem]
 simp[execOp,hx,hy,go_sem,eqGuard,binOp,Op.equal,h2]
theorem Sw0 {p:Addr} {u:TypeId} (hx:ρ x= .pointer (some p)) (hy:ρ y= .pointer none) (hT:P.underlying T=some (.pointer u)):Pu P (execOp ρ ⟨d,.binOp .neq T x y T',ty,ps,af,g⟩) (.bool true):=by
 refine⟨fun w=>Go.Vc.r7 hx hy hT,fun w=>?_⟩;have h2:(Op.equalIn Op.maxDepth T (.pointer (some p)) (.pointer none)).events P w #[]=#[]:=by rw[lq0,Op.equalIn];simp[run_underlying hT,go_sem]
 simp[execOp,hx,hy,go_sem,eqGuard,binOp,Op.equal,h2]
theorem yc0 {u:TypeDesc} (hx:ρ x= .nilFunc) (hy:ρ y= .nilFunc) (hT:P.underlying T=some u) (hu:∃a b c,u= .func a b c):Pu P (execOp ρ ⟨d,.binOp .eql T x y T',ty,ps,af,g⟩) (.bool true):=by
 refine⟨fun w=>Go.Vc.u7 hx (.inl ⟨rfl,rfl⟩) hy hT hu,fun w=>?_⟩;obtain⟨a,b,c,rfl⟩:=hu;have h2:(Op.equalIn Op.maxDepth T .nilFunc .nilFunc).events P w #[]=#[]:=by rw[lq0,Op.equalIn];simp[run_underlying hT,go_sem]
 simp[execOp,hx,hy,go_sem,eqGuard,binOp,Op.equal,h2]
theorem Ib0 {b o n c s:Nat} {E:TypeId} {i:Nat} (r:Nat) (hx:ρ x= .slice (some ⟨b,o,none⟩) n c) (hy:ρ y= .int .i64 (i:Int)) (hT:P.underlying T=some (.slice E)) (hs:(P.info? E).map (·.size)=some s) (h:i<n) (hr:o+i*s=r):Pu P (execOp ρ ⟨d,.indexAddr T x y,ty,ps,af,g⟩) (.pointer (some ⟨b,r,none⟩)):=by
 subst hr;refine⟨fun w=>Go.Vc.W8 hx hy hT hs h,fun w=>?_⟩;have h1:=Go.Vc.W8 (d:=d) (ty:=ty) (ps:=ps) (af:=af) (g:=g) (w:=w) hx hy hT hs h;obtain⟨inf,hi,hs'⟩:=Option.map_eq_some_iff.1 hs;simp[execOp,hx,hy,Instr.indexAt,go_sem,run_underlying hT,sizeOf,typeInfo,hi];intro hh;omega
end
section
variable {P:Program}{main:Bool}{b c:Frame}{a:Act}{k todo:List Item}{cs:List Frame}{w:World}{ops:Array Oper}{i:Nat}{rest:List Nat}{f:FuncId}{fn:Func}{args caps:Array Value}
theorem Cb0 {x:Operand} {dst:Option Nat} {ty:TypeId} {ps:String} {af:Array Edge} (hk:b.kind≠.early) (ho:ops[i]? =some ⟨dst,.go {callee:=.value x,args:=#[],argTypes:=#[]},ty,ps,af,none⟩) (hx:a.eval x= .func (.func f) #[] caps) (w:World) :
  stepG P main (G (b.at a (.inRegion ops (i::rest)::k)) cs) w= .spawn (G (b.at (a.put dst undef) (.inRegion ops rest::k)) cs) (born P {target:=.fn (.func f) caps,args:=#[]}) w #[]:=by
 have hr:(execOp a.eval ⟨dst,.go {callee:=.value x,args:=#[],argTypes:=#[]},ty,ps,af,none⟩).run P w= .ok (.spawn {target:=.fn (.func f) caps,args:=#[]}) w:=by
  unfold execOp;simp[resolve,Deferred.ofValue,hx]
 have he:(execOp a.eval ⟨dst,.go {callee:=.value x,args:=#[],argTypes:=#[]},ty,ps,af,none⟩).events P w #[]=#[]:=by
  unfold execOp;simp[resolve,Deferred.ofValue,hx]
 rw[stepG_spawn ho rfl hk hr rfl,listed,he,seen_none]
theorem yd0 {body:Code} (hf:P.funcs[f]? =some fn) (O2:(fn.name== "runtime.NumGoroutine")=false) (hb:fn.body=some body) :
  stepG P main (born P {target:=.fn (.func f) caps,args}) w= .go (G ((baseD f).at {tmps:=(args++caps)++Array.replicate (fn.ntmps-(args++caps).size) undef,defers:=[]} [.code body]) [W5 P]) w #[]:=by
 have h1:¬fn.name= "runtime.NumGoroutine":=by simpa using O2
 rw[<- enter_atD (args++caps) hf hb];simp[born,G,stepG,unwind,callDeferred,invoke,callFunc,hf,h1,hb,GStep.after,seen_none,W5];exact⟨rfl,rfl,rfl,rfl⟩
theorem Ic0 {ok:Event->Prop} {Y:Nat->Nat->Goroutine->Prop} {ft d:Nat} {c:Code} (hY:HF P main ok Y) (m:Nat) (hf:P.funcs[f]? =some fn) (O2:(fn.name== "runtime.NumGoroutine")=false) (hb:fn.body=some c) (hm:(args++caps).size+(fn.ntmps-(args++caps).size)=m) (h:At Y ft m (baseD f) [W5 P] [] d (Wg.k7 (args++caps)) [.code c]):Y (ft+1) d (born P {target:=.fn (.func f) caps,args}) :=
 hY.c rfl rfl (fun _w=>yd0 hf O2 hb) (h _ (v7 (args++caps) _ hm))
theorem ye0 {n:Nat} {e:Env} (hc:rq0 n b [W5 P] [] e todo c) (hn:b.kind= .deferred) (hf:P.funcs[b.fn]? =some fn) (hr:fn.results=#[]):QuitsD P 2 0 (G c [W5 P]):=by
 obtain⟨a,ha,rfl⟩:=hc.rep;refine .inr ⟨rfl,_,#[],fun e he=>by simp at he,fun w=>pz0 (fn:=fn) hn ha.defers hf (results_none hr _ _ w) (events_results_none hr _ _),?_⟩;exact .inr ⟨rfl,_,#[],fun e he=>by simp at he,fun w=>qa0,rfl,rfl⟩
end
section
theorem MP.end {P:Program} {main:Bool} {gr:H4} {L:Q3} {E:Nat->PM->Goroutine->Prop} {n:Nat} {pm:PM} {g:Goroutine} (h:E n pm g):MP P main gr L E (n+1) pm g:=by unfold MP;exact .inl h
variable {P:Program}{Post:Value->World->Prop}{X:Gh}{n:Nat}{b:Frame}{cs:List Frame}{e:Env}{k:List Item}{ops:Array Oper}{i:Nat}{rest:List Nat}{ty:TypeId}{ps:String}{af:Array Edge}{x:Operand}{w:World}
theorem ZA.beside {f:FuncId} {caps:Array Value} {gr:H4} {A:Addr} {bx np:Nat} {ox0 ox:Obj} {L0 Lc:Q3} {K:Goroutine->Prop} (hb:b.kind≠.early) (ho:ops[i]? =some ⟨none,.go {callee:=.value x,args:=#[],argTypes:=#[]},ty,ps,af,none⟩) (hx:ev e x= .func (.func f) #[] caps)
  (z8:X.dn=0) (hy0:X.pend=1) (cg0:X.cap=1) (hG:X.K2=some gr) (e8:∀i,X.G1 i=none) (hl:u9 X bx) (hw:¬X.low bx) (w9:X.C4 bx= .all) (hB:w.heap[bx]? =some ox0) (P2:∀p,p∈L0\/p∈Lc->w.cell? p.1=some p.2/\p.1.block≠bx/\¬GB X p.1.block)
  (Sq0:At (YM P true gr L0 (Lp0 P gr A K) []) np n b cs [] 0 e (.inRegion ops rest::k)) (R5:∃nc,MP P false gr Lc (xz0 P gr A (fun pm=>(bx,ox)∈pm)) nc [(bx,ox0)] (born P {target:=.fn (.func f) caps,args:=#[]})) (hox:∃cs T f,ox= .cells cs T f) (hK:∀k g,K g->Fin P Post (X.gd0 w bx k) 0 g (dd0 w bx ox k)) :
  ZA (Fin P Post X 0) n b cs e (.inRegion ops (i::rest)::k) w:=by
 intro a ha;obtain⟨nc,R5⟩:=R5;exact Fin.beside (g1:=G (b.at (a.put none undef) (.inRegion ops rest::k)) cs) rfl z8 hy0 cg0 hG e8 (fun w=>Cb0 hb ho (by rw[ha.eval];exact hx) w) hl hw w9 hB P2 (Sq0 a (fr0 ha) rfl) R5 hox hK
end
end
end Go.Vy
end
section
namespace Go.Proofs.YtnifpkopeheodaaGreat
open Go Go.Conc Go.Yc Go.Vy Go.Wg
open Go.Vc (Env upd m3 ev j4 k3)
section
attribute [local irreducible] KK
abbrev it0 (bw:Nat) (v:Int):Obj:=.cells #[.int .i64 1,.int .i64 1,.pointer (some ⟨bw,0,none⟩),.int .i64 v] 145 (0,0)
abbrev stC (bb b6 bx bw:Nat):Q3:=[(⟨bb,0,none⟩,.func (.func 45) #[] #[.pointer (some ⟨b6,0,none⟩)]),(⟨b6,0,none⟩,.pointer (some ⟨bx,0,none⟩)),(⟨bw,0,none⟩,.bool true)]
abbrev fpC (bx bw:Nat) (pm:PM):Prop:=(bx,it0 bw 5)∈pm
set_option maxRecDepth 20000 in
theorem Lq0 (gr:H4) (bb b6 bx bw:Nat):∃n,MP Tryz.prog false gr (stC bb b6 bx bw) (xz0 Tryz.prog gr (stA gr) (fpC bx bw)) n [(bx,it0 bw 0)] (born Tryz.prog {target:=.fn (.func 67) #[.pointer (some ⟨gr.blk,gr.off,none⟩),.pointer (some ⟨bb,0,none⟩)],args:=#[]}):=by
 refine⟨580,(?_:YM Tryz.prog false gr (stC bb b6 bx bw) (xz0 Tryz.prog gr (stA gr) (fpC bx bw)) [(bx,it0 bw 0)] 580 0 _) rfl⟩;refine Ic0 H2 4 Tryz.func67 bk1 rfl rfl ?_;refine U26 ?_;refine I0.defer H2 (bkd _) [.pointer (some ⟨gr.blk,gr.off,none⟩)] rfl ?_;refine I0.nil H2 ?_;refine U26 ?_;refine I0.defer H2 (bkd _) [] rfl ?_;refine I0.nil H2 ?_;refine At.region H2 ?_;refine I0.is0 (bkd _) rfl (v:=.func (.func 45) #[] #[.pointer (some ⟨b6,0,none⟩)]) rfl Tryz.underlying1 rfl (.inl (.head _)) ?_;refine I0.Zl0 H2 (bkd _) (caps:=#[.pointer (some ⟨b6,0,none⟩)]) 3 rfl rfl Tryz.func45 be1 rfl rfl (fun cs1 S4=>?_);refine At.region H2 ?_;refine I0.is0 (Z0 _) rfl (v:=.pointer (some ⟨bx,0,none⟩)) rfl Tryz.underlying86 rfl (.inl (.tail _ (.head _))) ?_;refine I0.call H2 (Z0 _) [.pointer (some ⟨bx,0,none⟩),.pointer none,.int .i64 5] 26 rfl Tryz.func42 Vo0 rfl rfl rfl (fun cs2 hb2=>?_);refine U26 ?_;refine I0.Zi0 (v:=.pointer (some ⟨bx,0,none⟩)) (cs0:=[.pointer (some ⟨bx,0,none⟩)]) (Z0 _) rfl rfl rfl (fun q1=>?_);refine I0.Zi0 (v:=.int .i64 5) (cs0:=[.int .i64 5]) (Z0 _) rfl rfl rfl (fun q2=>?_);refine I0.nil H2 ?_;refine At.block H2 ?_;refine U408 ?_;refine I0.val H2 (Z0 _) rfl (v:=.bool false) (Sv0 rfl rfl Tryz.underlying86) ?_;refine U503 ?_;refine At.q5 H2 rfl ?_;refine U408 ?_;refine I0.val H2 (Z0 _) rfl (v:=.pointer (some ⟨bx,0,none⟩)) (J3 rfl) ?_;refine I0.val H2 (Z0 _) rfl (v:=.pointer (some ⟨bx,2,none⟩)) (A3 (s:=1) 0 2 rfl Tryz.underlying145 rfl Eh0 (by decide) rfl) ?_;refine I0.is0 (Z0 _) rfl (v:=.pointer (some ⟨bw,0,none⟩)) rfl Tryz.underlying56 rfl (.inr ⟨_,_,(.tail _ (.tail _ (.head _))),rfl,rfl⟩) ?_;refine I0.call H2 (Z0 _) [.pointer (some ⟨bw,0,none⟩)] 11 rfl Tryz.func44 su0 rfl rfl rfl (fun cs3 hb3=>?_);refine U26 ?_;refine U503 ?_;refine U26 ?_;refine I0.val H2 (Z0 _) rfl (v:=.pointer (some ⟨bw,0,none⟩)) (J0 rfl) ?_;refine I0.val H2 (Z0 _) rfl (v:=.bool true) (Sw0 rfl rfl Tryz.underlying56) ?_;refine I0.val H2 (Z0 _) rfl (v:=.bool true) (J0 rfl) ?_;refine I0.v8 H2 (Z0 _) rfl rfl (v:=.pointer (some ⟨bw,0,none⟩)) (J0 rfl) ?_;refine I0.v8 H2 (Z0 _) rfl rfl (v:=.pointer (some ⟨bw,0,none⟩)) (J3 rfl) ?_;refine I0.v8 H2 (Z0 _) rfl rfl (v:=.pointer (some ⟨bw,0,none⟩)) (A3 (s:=1) 0 0 rfl Tryz.underlying105 rfl sz4 (by decide) rfl) ?_;refine I0.So0 (Z0 _) rfl rfl (v:=.bool true) rfl Tryz.underlying4 rfl (.inl (.tail _ (.tail _ (.head _)))) ?_;refine I0.val H2 (Z0 _) rfl (v:=.bool true) (I7 rfl rfl) ?_;refine U504 ?_;refine At.ret H2 (fun _=>?_);refine AtR.leave1 H2 hb3 rfl Tryz.func44 rfl (.bool true) rfl ?_;refine U504 ?_;refine At.J4 H2 rfl ?_;refine At.region H2 ?_;refine I0.is0 (Z0 _) rfl (v:=.pointer (some ⟨bx,0,none⟩)) rfl Tryz.underlying86 rfl (.inr ⟨_,_,(.tail _ (.head _)),rfl,rfl⟩) ?_;refine I0.is0 (Z0 _) rfl (v:=.int .i64 5) rfl Tryz.underlying3 rfl (.inr ⟨_,_,(.head _),rfl,rfl⟩) ?_;refine I0.val H2 (Z0 _) rfl (v:=.pointer (some ⟨bx,0,none⟩)) (J3 rfl) ?_;refine I0.val H2 (Z0 _) rfl (v:=.pointer (some ⟨bx,3,none⟩)) (A3 (s:=1) 0 3 rfl Tryz.underlying145 rfl sz3 (by decide) rfl) ?_;refine I0.Hr0 (v:=.int .i64 5) (Z0 _) rfl rfl sz3 rfl (.tail _ (.tail _ (.head _))) rfl ?_;refine I0.nil H2 ?_;refine At.inBlock H2 ?_;refine At.done H2 (fun _=>?_);refine AtR.leave0 H2 hb2 rfl Tryz.func42 rfl ?_;refine I0.nil H2 ?_;refine At.done H2 (fun _=>?_);refine AtR.leave0 H2 S4 rfl Tryz.func45 rfl ?_;refine I0.nil H2 ?_;refine At.done H2 (fun _=>?_);refine AtR.Ia0 H2 1 Tryz.func69 bl1 rfl rfl (fun cf1 Y7=>?_);refine At.region H2 ?_;refine I0.gt0 H2 rfl rfl rfl Y7.mode ?_;refine I0.nil H2 ?_;refine At.done H2 (fun _=>?_);refine AtR.leaveD H2 rfl Tryz.func69 rfl Y7.mode ?_;refine Y7.go ?_;refine AtR.Ia0 H2 4 Tryz.func68 Wa0 rfl rfl (fun cf2 hc2=>?_);exact St0 gr (de0 (.tail _ (.tail _ (.head _)))) hc2.mode (ye0 hc2 rfl Tryz.func67 rfl)
end
end Go.Proofs.YtnifpkopeheodaaGreat
end
section
namespace Go.Vy.Sc
open Go Go.Conc Go.Yc Go.RowKit Go.Proofs Go.Proofs.YtnifpkopeheodaaGreat Tryz
open Go.Vc Go.Wg
section
attribute [local irreducible] KK
structure vw0 (w:World) (bs b6 bx bw:Nat):Prop where
 sl:S0 w bs #[.func (.func 45) #[] #[.pointer (some ⟨b6,0,none⟩)],.nilFunc] 1
 p6:S0 w b6 #[.pointer (some ⟨bx,0,none⟩)] 86
 cx:w.heap[bx]? =some (it0 bw 0)
 cw:S0 w bw #[.bool true] 105
theorem vw0.E0 {w w':World} {bs b6 bx bw:Nat} (h:vw0 w bs b6 bx bw) (hk:∀b,b<w.heap.size->w'.heap[b]? =w.heap[b]?):vw0 w' bs b6 bx bw :=
 ⟨(hk bs h.sl.lt).trans h.sl,(hk b6 h.p6.lt).trans h.p6,(hk bx (Array.getElem?_eq_some_iff.1 h.cx).1).trans h.cx,(hk bw h.cw.lt).trans h.cw⟩
structure Sx0 (w w':World) (bx bw:Nat):Prop where
 size:w.heap.size <=w'.heap.size
 os:w'.os=w.os
 output:w'.output=w.output
 tape:w'.tape=w.tape
 block:∀b,b<w.heap.size->b≠bx->w'.heap[b]? =w.heap[b]?
 cx:w'.heap[bx]? =some (it0 bw 5)
structure Zo0 (X X':Gh) (n1:Nat) (w':World):Prop where
 G1:∀i,X'.G1 i=none
 cap:X'.cap=0
 pend:X'.pend=0
 dn:X'.dn=0
 under:X'.M8 w'.heap.size
 C4:X'.C4=X.C4
 ft0:0<X'.n
 low:∀b,X'.low b->X.low b\/n1 <=b
def Sy0 (cs:List Frame) (g:Goroutine):Prop:=∃a,a.tmps.size=17/\a.defers=[]/\g=G (((base 33).at a (.inRegion (match Tryz.f33.body with|some (.seq _ (.seq _ (.region _ o _)))=>o|_=>#[]) [0] :: [])).finish (.tuple #[])) cs
set_option maxRecDepth 20000 in
theorem yf0 {X:Gh} {Post:Value->World->Prop} {cs:List Frame} {w:World} {bs b6 bx bw n1:Nat} (hin:vw0 w bs b6 bx bw) (h0:∀i,X.G1 i=none) (cg0:X.cap=0) (hp:X.pend=0) (z8:X.dn=0) (hU:X.M8 n1) (w9:∀b,n1 <=b->X.C4 b= .all) (hnb:n1 <=bs/\n1 <=b6/\n1 <=bx/\n1 <=bw)
  (hk:∀X' w' fr,Zo0 X X' n1 w'->Sx0 w w' bx bw->fr.fn=33->Leaves prog fr w' (.returned (.tuple #[]))->Fin prog Post X' 0 (G fr cs) w'):Fin prog Post X 0 (G (Frame.enter prog 33 #[.slice (some ⟨bs,0,none⟩) 2 2] .normal) cs) w:=by
 letI:Ctx prog:=V1 prog true;have hZ:Ctx.Zs prog (Fin prog Post X 0):=V3;have hb:=Z0 33;rw[enter_at _ func33 rfl];refine(?_:ZA (Fin prog Post X 0) 17 (base 33) cs (Vc.k7 #[.slice (some ⟨bs,0,none⟩) 2 2]) [.code (Tryz.f33.body.getD .skip)] w) _ (I5 _ _ rfl);have hUw:∀b,n1 <=b->u9 X b:=fun b hb=>hU.v9 hb;have hlw:∀b,n1 <=b->¬X.low b:=fun b hb hl=>by have:=hU.low b hl;omega
 refine U4 ?_;refine L.alloc (cs:=#[.int .u64 0,.int .u32 0]) Mw0 rfl (fun w1 bG F1=>?_);refine U2 ?_;have Zp0:=hin.E0 (fun b hb=>F1.below.block b hb);refine ZA.seq hZ ?_;refine U50 ?_;refine L.va (O8 rfl underlying60 rfl) ?_;refine U138 ?_;refine U67 ?_;refine ZA.J4 hZ rfl ?_;refine U166 ?_;refine ZA.block hZ ?_;refine U4 ?_;refine L.va (W8 (i:=0) rfl rfl underlying60 sz1 (by decide)) ?_;refine L.va (F0 (v:=.func (.func 45) #[] #[.pointer (some ⟨b6,0,none⟩)]) rfl underlying1 rfl (Zp0.sl.cell rfl)) ?_;refine L.alloc (cs:=#[.nilFunc]) zr1 rfl (fun w2 bb F2=>?_);refine L.put #[.func (.func 45) #[] #[.pointer (some ⟨b6,0,none⟩)]] rfl rfl rfl sz1 rfl rfl F2.blk (by decide) rfl (fun w3 N9 hg3 hs3=>?_);refine U2 ?_;have hbG:bG=w.heap.size:=F1.here;have hbb:bb=w1.heap.size:=F2.here;have hz1:=F1.size;have hz2:=F2.size;have hGb:S0 w1 bG #[.int .u64 0,.int .u32 0] 141:=F1.blk;have yg0:∀b,b<w1.heap.size->w3.heap[b]? =w1.heap[b]?:=fun b hb=>by
  rw[hg3.block b (by omega) (fun e=>by cases e;omega)];exact F2.below.block b hb
 have Lr0:=Zp0.E0 yg0;have hG3:w3.heap[bG]? =some (.cells (#[] ++ #[.int .u64 0,.int .u32 0]) 141 (0,0)):=by
  rw[yg0 bG (by omega)];exact hGb
 refine ZA.seq hZ ?_;refine U4 ?_;refine L.va (F0 (v:=.func (.func 45) #[] #[.pointer (some ⟨b6,0,none⟩)]) rfl underlying1 rfl (N9.cell rfl)) ?_;refine L.va (u7 (b:=false) rfl (.inr ⟨_,_,_,rfl,rfl⟩) rfl underlying1 ⟨_,_,_,rfl⟩) ?_;refine U128 ?_;have Sz0:n1 <=bG:=by have:=hin.sl.lt;omega
 intro a ha;refine Fin.we0 (f':=(0,0)) (b:=bG) (c:=#[]) cg0 (hUw bG Sz0) (hlw bG Sz0) (w9 bG Sz0) hG3 (Nat.zero_le _) ?_;revert ha;revert a;generalize hw4:N2 w3 bG (.cells #[] 141 (0,0))=w4;have df0:∀b,b≠bG->w4.heap[b]? =w3.heap[b]?:=fun b hb=>by rw[<- hw4];exact Y4 _ _ (Ne.symm hb)
 have dr1:w4.heap.size=w.heap.size+2:=by rw[<- hw4];show(w3.heap.setIfInBounds _ _).size=_;rw[Array.size_setIfInBounds];omega
 have R2:=fun(b:Nat) (cs:Array Value) (T:TypeId) (h:S0 w b cs T)=>h.lt;have Id0:vw0 w4 bs b6 bx bw:=by
  have h1:=hin.sl.lt;have h2:=hin.p6.lt;have h3:=(Array.getElem?_eq_some_iff.1 hin.cx).1;have h4:=hin.cw.lt;exact⟨(df0 bs (by omega)).trans Lr0.sl,(df0 b6 (by omega)).trans Lr0.p6,(df0 bx (by omega)).trans Lr0.cx,(df0 bw (by omega)).trans Lr0.cw⟩
 have L1:S0 w4 bb #[.func (.func 45) #[] #[.pointer (some ⟨b6,0,none⟩)]] 1:=(df0 bb (by omega)).trans N9;generalize hX1:({X.lower bG with K2:=some ⟨bG,0⟩,old:=X.K2.toList++X.old}:Gh)=X1;have K7:X1=({X.lower bG with K2:=some ⟨bG,0⟩,old:=X.K2.toList++X.old}:Gh):=hX1.symm;refine U565 ?_;intro hZ1;refine ZA.region hZ1 ?_;refine ZA.call (i:=0) (rest:=[]) hZ1 hb (f:=66) (args:=#[.pointer (some ⟨bG,0,none⟩),.int .i64 1]) rfl rfl (l3 rfl rfl func66 rfl Jr0 rfl) (fun a ha=>?_);have hXe:X1={X1 with dn:=0}:=by rw[K7];show _=_;cases X;simp only[Gh.lower]at z8⊢;subst z8;rfl
 rw[hXe];refine Fin.Cl0 (G:=⟨bG,0⟩) (X:=X1) (K:=fun g'=>g'=_) (by rw[K7]) (by rw[K7];exact hp) (by rw[K7];show X.cap<65536;omega) (fun g' r6=>?_) _ _ _ (Nk0 ⟨bG,0⟩ (fun g'=>g'=_) rfl);subst r6;refine ZA.home (i:=0) rfl rfl ha ?_;have dx1:X1.cap=0:=by rw[K7];exact cg0
 generalize hX2:({X1 with pend:=1,cap:=X1.cap+1,dn:=0}:Gh)=X2;have jc0:X2=({X1 with pend:=1,cap:=X1.cap+1,dn:=0}:Gh):=hX2.symm;have hZ2:Ctx.Zs prog (Fin prog Post X2 0):=V3;refine ZA.Z2 hZ2 ?_;refine ZA.upto hZ2 hb 1 rfl rfl (R:=fun e' w'=>ZA _ _ _ _ e' _ w') ?_ (fun _ _ h=>h);show L _ _ _ _ _ _ _;refine L.va (S3 rfl) ?_;refine U2 ?_;have xc0:X2.stay=X.stay:=by rw[jc0,K7];rfl
 have Nz0:X2.X3=X.X3:=by rw[jc0,K7];rfl
 have Oa0:X2.A7=X.A7:=by rw[jc0,K7];rfl
 have Ie0:X2.low=fun k=>X.low k\/k=bG:=by rw[jc0,K7];rfl
 have Ob0:X2.K2=some ⟨bG,0⟩:=by rw[jc0,K7]
 have Zq0:X2.old=X.K2.toList++X.old:=by rw[jc0,K7]
 have If0:X2.C4=X.C4:=by rw[jc0,K7];rfl
 have Ig0:∀i,X2.G1 i=none:=fun i=>by rw[jc0,K7];exact h0 i
 have hn2:X2.n=X.n:=by rw[jc0,K7];rfl
 have Ta0:∀G,(X2.K2=some G\/G∈X2.old)->G.blk=bG\/G.blk<n1:=fun G hG=>by
  rw[Ob0,Zq0]at hG;rcases hG with hG|hG
  ·cases hG;exact .inl rfl
  ·rcases List.mem_append.1 hG with hG|hG
   ·exact .inr (hU.K2 G (.inl (by simpa using hG)))
   ·exact .inr (hU.K2 G (.inr hG))
 have ds1:∀b,n1 <=b->b≠bG->¬GB X2 b:=fun b hb D3 ⟨G,hG,e⟩=>by
  rcases Ta0 G hG with h|h
  ·exact D3 (e.trans h)
  ·omega
 have hl1:=hin.sl.lt;have hl2:=hin.p6.lt;have hl3:=(Array.getElem?_eq_some_iff.1 hin.cx).1;have hl4:=hin.cw.lt;have hnx:∀(b:Nat) (cs:Array Value) (T:TypeId),S0 w4 b cs T->cs.size≠4->b≠bx:=fun b cs T h hs e=>by
  subst e;unfold S0 at h;rw[Id0.cx]at h;have:=(Obj.cells.inj (Option.some.inj h)).1;exact hs (by rw[<- this];rfl)
 refine ZA.beside (i:=1) (rest:=[]) (f:=67) (caps:=#[.pointer (some ⟨bG,0,none⟩),.pointer (some ⟨bb,0,none⟩)]) (gr:=⟨bG,0⟩) (A:=⟨bG,0,none⟩) (bx:=bx) (np:=1056) (ox0:=it0 bw 0) (ox:=it0 bw 5) (L0:=[(⟨bs,1,none⟩,.nilFunc)]) (Lc:=stC bb b6 bx bw) (K:=Sy0 cs) hb rfl rfl
  (by rw[jc0]) (by rw[jc0]) (by rw[jc0];show X1.cap+1=1;omega) Ob0 Ig0 ⟨fun i p hp=>?_,?_,?_,fun G hG e=>?_⟩ ?_ ?_ Id0.cx (fun p hp=>?_) ?_ (Lq0 ⟨bG,0⟩ bb b6 bx bw) ⟨_,_,_,rfl⟩ (fun k g hg=>?_)
 ·rw[xc0]at hp;exact(hUw bx hnb.2.2.1).stay i p hp
 ·rw[Nz0];exact(hUw bx hnb.2.2.1).X3
 ·rw[Oa0];exact(hUw bx hnb.2.2.1).A7
 ·rcases Ta0 G hG with h|h <;> omega
 ·rw[Ie0];rintro(h|h)
  ·exact hlw bx hnb.2.2.1 h
  ·omega
 ·rw[If0];exact w9 bx hnb.2.2.1
 ·have key:∀b cs T i v,S0 w4 b cs T->cs[i]? =some v->cs.size≠4->n1 <=b->b≠bG->w4.cell? ⟨b,i,none⟩=some v/\b≠bx/\¬GB X2 b:=fun b cs T i v h hv hs hn D3=>⟨h.cell hv,hnx b cs T h hs,ds1 b hn D3⟩
  rcases hp with hp|hp
  ·simp only[List.mem_cons,List.not_mem_nil,or_false]at hp;subst hp;exact key bs _ _ 1 _ Id0.sl rfl (by simp) hnb.1 (by omega)
  ·simp only[stC,List.mem_cons,List.not_mem_nil,or_false]at hp;rcases hp with rfl|rfl|rfl
   ·exact key bb _ _ 0 _ L1 rfl (by simp) (by omega) (by omega)
   ·exact key b6 _ _ 0 _ Id0.p6 rfl (by simp) hnb.2.1 (by omega)
   ·exact key bw _ _ 0 _ Id0.cw rfl (by simp) hnb.2.2.2 (by omega)
 ·refine(?_:At (YM prog true ⟨bG,0⟩ [(⟨bs,1,none⟩,.nilFunc)] (Lp0 prog ⟨bG,0⟩ ⟨bG,0,none⟩ (Sy0 cs)) []) 1056 17 (base 33) cs [] 0 _ _);refine At.Z2 H2 ?_;refine At.inBlock H2 ?_;refine At.region H2 ?_;refine I0.val H2 (Z0 _) rfl (v:=.int .i64 1) (wt0 (r:=1) rfl rfl (by decide)) ?_;refine I0.val H2 (Z0 _) rfl (v:=.int .i64 1) (J0 rfl) ?_;refine I0.nil H2 ?_;refine At.inLoop H2 ?_;refine U26 ?_;refine U452 ?_;refine At.seq H2 ?_;refine At.J4 H2 rfl ?_;refine At.skip H2 ?_;refine At.seq H2 ?_;refine At.block H2 ?_;refine U26 ?_;refine I0.val H2 (Z0 _) rfl (v:=.pointer (some ⟨bs,1,none⟩)) (Ib0 (i:=1) 1 rfl rfl underlying60 sz1 (by decide) rfl) ?_;refine I0.is0 (Z0 _) rfl (v:=.nilFunc) rfl underlying1 rfl (.inl (.head _)) ?_;refine I0.Sp0 (v:=.nilFunc) (cs0:=[.nilFunc]) (Z0 _) rfl zr1 rfl (fun q1=>?_);refine I0.Hr0 (v:=.nilFunc) (Z0 _) rfl rfl sz1 rfl (.head _) rfl ?_;refine I0.nil H2 ?_;refine At.seq H2 ?_;refine U26 ?_;refine I0.is0 (Z0 _) rfl (v:=.nilFunc) rfl underlying1 rfl (.inr ⟨_,_,(de0 (.head _)),rfl,rfl⟩) ?_;refine I0.val H2 (Z0 _) rfl (v:=.bool true) (yc0 rfl rfl underlying1 ⟨_,_,_,rfl⟩) ?_;refine I0.nil H2 ?_;refine At.J4 H2 rfl ?_;refine At.exit H2 rfl ?_;refine At.region H2 ?_;refine I0.val H2 (Z0 _) rfl (v:=.int .i64 2) (wt0 (r:=2) rfl rfl (by decide)) ?_;refine I0.val H2 (Z0 _) rfl (v:=.int .i64 2) (J0 rfl) ?_;refine I0.nil H2 ?_;refine At.inLoop H2 ?_;refine U26 ?_;refine I0.val H2 (Z0 _) rfl (v:=.bool false) (ae0 (r:=false) rfl rfl (by decide)) ?_;refine I0.nil H2 ?_;refine At.seq H2 ?_;refine At.q5 H2 rfl ?_;refine At.exit H2 rfl ?_;refine At.region H2 ?_;refine I0.call H2 (Z0 _) [.pointer (some ⟨bG,0,none⟩)] 84 rfl func70 Ps0 rfl rfl rfl (fun cs1 S4=>?_);obtain⟨a1,ha1,rfl⟩:=S4.rep;intro a2 ha2 _;exact MP.end (n:=1010) (Su0 ⟨bG,0⟩ (Sy0 cs) ⟨a1,ha1.size,ha1.defers,rfl⟩ 1 (by decide) a2 ha2)
 ·obtain⟨a,ha1,ha2,rfl⟩:=hg;have hr:Rep 17 a (fun t=>a.tmps.getD t undef):=⟨ha1,ha2,fun _=>rfl⟩
  refine ZA.home (i:=0) (rest:=[]) rfl rfl hr ?_;have hZ3:Ctx.Zs prog (Fin prog Post (X2.gd0 w4 bx k) 0):=V3;refine ZA.Z2 hZ3 ?_;refine ZA.done hZ3 ?_;refine ZA.leaves (fn:=Tryz.f33) (f:=33) rfl func33 rfl (fun fr hfn hlv=>?_);have gc1:(dd0 w4 bx (it0 bw 5) k).heap.size=w4.heap.size+k:=hh0;refine hk _ _ fr ⟨Ig0,rfl,rfl,rfl,⟨fun i p hp=>?_,fun b o hb=>?_,fun b hb=>?_,fun G hG=>?_,fun b hb=>?_⟩,If0,Nat.succ_pos _,fun b hb=>?_⟩ ⟨by omega,?_,?_,?_,fun b hb D3=>?_,tl0 (by omega)⟩ hfn hlv
  ·have hp':p∈X.stay i:=by rw[<- xc0];exact hp
   have:=hU.stay i p hp';omega
  ·have g7:X.X3 b=some o:=by rw[<- Nz0];exact hb
   have:=hU.X3 b o g7;omega
  ·have g7:X.A7 b:=by rw[<- Oa0];exact hb
   have:=hU.A7 b g7;omega
  ·rcases Ta0 G hG with h|h <;> omega
  ·have g7:X2.low b\/b=bx\/(w4.heap.size <=b/\b<w4.heap.size+k):=hb;rw[Ie0]at g7;rcases g7 with(h|h)|h|h
   ·have:=hU.low b h;omega
   ·omega
   ·omega
   ·omega
  ·have g7:X2.low b\/b=bx\/(w4.heap.size <=b/\b<w4.heap.size+k):=hb;rw[Ie0]at g7;rcases g7 with(h|h)|h|h
   ·exact .inl h
   ·right;omega
   ·right;have:=hnb.2.2.1;omega
   ·right;omega
  ·show w4.os=w.os;rw[<- hw4];exact hg3.os.trans (F2.below.os.trans F1.below.os)
  ·show w4.output=w.output;rw[<- hw4];exact hg3.output.trans (F2.below.output.trans F1.below.output)
  ·show w4.tape=w.tape;rw[<- hw4];exact hg3.tape.trans (F2.below.tape.trans F1.below.tape)
  ·rw[ge0 (by omega) D3,df0 b (by omega),yg0 b (by omega)];exact F1.below.block b hb
end
def jo0:List L2:=[⟨1,0,1,0⟩,⟨5,0,9,1⟩,⟨1,0,2,0⟩]
def Ih0:Nat->Int:=fun j=>if j=1 then 1 else 0
theorem Ii0 {p:L4} (hm:p.m=2) (hb:p.bo=fun i=>if i<2 then jo0 else []):((D4 p).pn Ih0 6).evs=[(0,⟨1,1,0⟩),(0,⟨9,5,0⟩),(0,⟨2,1,0⟩),(1,⟨1,1,0⟩),(1,⟨9,5,0⟩),(1,⟨2,1,0⟩)]:=by
 obtain⟨m,bo,tb,wb,sb,mb,lgb,RO,wI,B,lb,pl⟩:=p;simp only at hm hb;subst hm hb;kernel_rfl
theorem Cc0 {w:World} {b10 b14:Nat} (h10:S0 w b10 #[.int .i64 1,.int .i64 0,.int .i64 1,.int .i64 0,.int .i64 5,.int .i64 0,.int .i64 9,.int .i64 1,.int .i64 1,.int .i64 0,.int .i64 2,.int .i64 0] 52) (h14:S0 w b14 #[.slice (some ⟨b10,0,none⟩) 3 3,.slice (some ⟨b10,0,none⟩) 3 3] 50) :
  dn0 w (some ⟨b14,0,none⟩) 2 (fun i=>if i<2 then jo0 else []) (fun _=>some ⟨b10,0,none⟩) (fun _=>3):=by
 refine⟨fun _=>rfl,fun i hi=>?_,fun i hi=>?_,fun i hi=>?_⟩
 ·match i,hi with
  |0,_=>exact h14.A0 0 rfl
  |1,_=>exact h14.A0 1 rfl
 ·simp only[if_pos hi];refine⟨fun _=>rfl,fun k o ho j v hv=>?_⟩;have hjl:j<4:=(List.getElem?_eq_some_iff.1 hv).1;have hkl:k<3:=(List.getElem?_eq_some_iff.1 ho).1;obtain rfl|rfl|rfl:k=0\/k=1\/k=2:=by omega
  all_goals cases ho
  all_goals obtain rfl|rfl|rfl|rfl:j=0\/j=1\/j=2\/j=3:=by omega
  all_goals cases hv
  ·exact h10.A0 0 rfl
  ·exact h10.A0 1 rfl
  ·exact h10.A0 2 rfl
  ·exact h10.A0 3 rfl
  ·exact h10.A0 4 rfl
  ·exact h10.A0 5 rfl
  ·exact h10.A0 6 rfl
  ·exact h10.A0 7 rfl
  ·exact h10.A0 8 rfl
  ·exact h10.A0 9 rfl
  ·exact h10.A0 10 rfl
  ·exact h10.A0 11 rfl
 ·simp only[if_pos hi];decide
theorem Ls0 {w:World} {b:Nat} (h:S0 w b #[.int .i64 0,.int .i64 1,.int .i64 0,.int .i64 0,.int .i64 0,.int .i64 0] 3):xh0 w (some ⟨b,0,none⟩) 6 6 Ih0:=by
 refine⟨fun _=>rfl,(fun h=>by cases h),by decide,fun j hj=>?_⟩
 match j,hj with
 |0,_=>exact h.A0 0 rfl
 |1,_=>exact h.A0 1 rfl
 |2,_=>exact h.A0 2 rfl
 |3,_=>exact h.A0 3 rfl
 |4,_=>exact h.A0 4 rfl
 |5,_=>exact h.A0 5 rfl
theorem Ij0:Sh0 2 (fun i=>if i<2 then jo0 else []) 6:=by
 refine⟨by decide,by decide,fun i hi o ho=>?_,by decide⟩;simp only[if_pos hi,jo0,List.mem_cons,List.not_mem_nil,or_false]at ho;rcases ho with rfl|rfl|rfl
 ·exact .inl ⟨rfl,.inl rfl⟩
 ·exact .inr (.inr (.inr (.inr ⟨rfl,.inr rfl⟩)))
 ·exact .inl ⟨rfl,.inr rfl⟩
theorem ZA.Lt0 {P:Program} [Ctx P] {Z:Goroutine->World->Prop} {b:Frame} {cs:List Frame} {n t:Nat} {e:Env} {w:World} {fn:Func} {f:FuncId} {v:Value} (hb:b=base f) (hf:P.funcs[f]? =some fn) (hr:fn.results=#[.tmp t]) (hv:e t=v) (h:∀fr,fr.fn=f->Leaves P fr w (.returned v)->Z (G fr cs) w):ZR Z n b cs e w:=by
 intro todo a ha;subst hb;refine h _ rfl ⟨rfl,ha.defers,rfl,fn,hf,I6 (fun w=>by rw[results_tmp hr];exact congrArg (fun x=>Result.ok x w) ((ha.get t).trans hv)) (fun w=>events_results_tmp hr _ _)⟩
section
variable [Ctx prog]
end
section
theorem Lu0 (x0:Int) (x1:Int):prog.built 107 [(0,.int .i64 x0),(1,.int .i64 x1)]=some #[.int .i64 x0,.int .i64 x1]:=by kernel_rfl
theorem Lv0 (x0:Int) (x1:Int) (x2:Option Addr) (x3:Int):prog.built 145 [(0,.agg #[.int .i64 x0,.int .i64 x1]),(1,.pointer x2),(2,.int .i64 x3)]=some #[.int .i64 x0,.int .i64 x1,.pointer x2,.int .i64 x3]:=by kernel_rfl
theorem An0 (x0:Int) (x1:Int):prog.built 52 [(0,.int .i64 x0),(2,.int .i64 x1)]=some #[.int .i64 x0,.int .i64 0,.int .i64 x1,.int .i64 0]:=by kernel_rfl
theorem Lw0 (x0:Int) (x1:Int) (x2:Int):prog.built 52 [(0,.int .i64 x0),(2,.int .i64 x1),(3,.int .i64 x2)]=some #[.int .i64 x0,.int .i64 0,.int .i64 x1,.int .i64 x2]:=by kernel_rfl
end
section
variable [Ctx prog]
theorem lr0 (wb:Nat) (w0:World) (hW:S0 w0 wb #[.bool true] 105):C prog 44 #[.pointer (some ⟨wb,0,none⟩)] w0 fun v w=>v= .bool true/\w=w0:=by
 refine U283 ?_;refine U68 ?_;refine U271 ?_;refine U127 ?_;refine U526 ?_;refine L.va (F0 rfl underlying4 rfl (hW.A0 0 (v:=.bool true) rfl)) ?_;refine U303 ?_;exact⟨rfl,rfl⟩
theorem yh0 (bw:Nat) (obj num x:Int) (w0:World):C prog 41 #[.pointer (some ⟨bw,0,none⟩),.int .i64 obj,.int .i64 num,.int .i64 x] w0 fun v w=>∃bx,v= .pointer (some ⟨bx,0,none⟩)/\w0.heap.size <=bx/\S0 w bx #[.int .i64 obj,.int .i64 num,.pointer (some ⟨bw,0,none⟩),.int .i64 x] 145/\Below w0.heap.size w0 w:=by
 refine C.enter (n:=16) func41 rfl rfl ?_;refine U3 ?_;intro hb;refine U38 ?_;refine U71 ?_;refine L.va (V0 (parts:=[(0,.tmp 9),(1,.tmp 10)]) rfl (Lu0 obj num)) ?_;refine U45 ?_;refine L.va (V0 (parts:=[(0,.tmp 11),(1,.tmp 12),(2,.tmp 13)]) rfl (Lv0 obj num ((some (⟨bw,0,none⟩))) x)) ?_;refine L.box (cs:=#[.int .i64 obj,.int .i64 num,.p bw,.int .i64 x]) rfl rfl (fun w b15 F15=>?_);have Lj0:=F15.lq hb.size;have hb:=N0 hb F15.below;have xw0:=F15.blk;exact U294
theorem Lx0 (bx bw:Nat) (obj num x:Int) (c:Option Addr) (w0:World) (hX:S0 w0 bx #[.int .i64 obj,.int .i64 num,.pointer (some ⟨bw,0,none⟩),.int .i64 x] 145) (hW:S0 w0 bw #[.bool true] 105):C prog 43 #[.pointer (some ⟨bx,0,none⟩),.pointer c] w0 fun v w=>v= .int .i64 x/\Below w0.heap.size w0 w:=by
 refine C.enter (n:=26) func43 rfl rfl ?_;refine U3 ?_;intro hb;refine L.box (cs:=#[.pointer (some ⟨bx,0,none⟩)]) rfl rfl (fun w b2 F2=>?_);refine U11 ?_;intro lt2 hb;have hX:=hX.E0 F2.below;have hW:=hW.E0 F2.below;have g6:=F2.blk;refine U49 ?_;refine L.alloc (cs:=#[.int .i64 0]) zr3 rfl (fun w b5 F5=>?_);refine U12 ?_;intro E8 hb;have hX:=hX.E0 F5.below;have hW:=hW.E0 F5.below;have g6:=g6.E0 F5.below;refine U33 ?_;refine L.va (F0 rfl underlying86 rfl (g6.A0 0 (v:=.pointer (some ⟨bx,0,none⟩)) rfl)) ?_;refine U570 ?_;refine L.va (F0 rfl underlying86 rfl (g6.A0 0 (v:=.pointer (some ⟨bx,0,none⟩)) rfl)) ?_;refine U260 ?_;refine L.va (F0 rfl underlying56 rfl (hX.A0 2 (v:=.pointer (some ⟨bw,0,none⟩)) rfl)) ?_;refine L.call (M0 rfl func44 rfl su0 rfl) (lr0 bw _ hW) ?_;rintro _ w1 ⟨rfl,hw⟩;refine U28 ?_;refine U52 ?_;refine L.va (F0 rfl underlying86 rfl (g6.A0 0 (v:=.pointer (some ⟨bx,0,none⟩)) rfl)) ?_;refine U264 ?_;refine L.va (F0 rfl underlying3 rfl (hX.A0 3 (v:=.int .i64 x) rfl)) ?_;exact U14
end
structure NLe (n:Nat) (w:World):Prop where
 le:n <=w.heap.size
theorem NLe.E0 {n:Nat} {w w':World} (h:NLe n w) (hb:Below w.heap.size w w'):NLe n w':=⟨Nat.le_trans h.le hb.size⟩
set_option maxHeartbeats 2000000 in
set_option maxRecDepth 20000 in
theorem Tb0 {lb:Nat} {pl:Nat->c6} (w0:World):@C prog (J6 lb pl) 10 #[] w0 fun v w=>v= .bool true/\Below w0.heap.size w0 w:=by
 rintro Z ⟨Post,rfl⟩ cs hk;letI:Ctx prog:=J6 lb pl;have hZ:Ctx.Zs prog (vh0 lb pl Post):=⟨_,rfl⟩
 have hb:=Z0 10;rw[enter_at _ func10 rfl];refine(?_:ZA (vh0 lb pl Post) 62 (base 10) cs (Vc.k7 #[]) [.code (Tryz.f10.body.getD .skip)] w0) _ (I5 _ _ rfl);have M5:Below w0.heap.size w0 w0:=Below.refl _ _;obtain⟨n0,hn0⟩:∃n0,n0=w0.heap.size:=⟨_,rfl⟩
 refine U4 ?_;refine U41 ?_;refine U4 ?_;refine L.va (V0 (parts:=[(0,.const (.int .i64 1)),(2,.const (.int .i64 1))]) rfl (An0 1 1)) ?_;refine L.va (V0 (parts:=[(0,.const (.int .i64 5)),(2,.const (.int .i64 9)),(3,.const (.int .i64 1))]) rfl (Lw0 5 9 1)) ?_;refine L.va (V0 (parts:=[(0,.const (.int .i64 1)),(2,.const (.int .i64 2))]) rfl (An0 1 2)) ?_;refine L.tf0 (vs:=[(0,.agg #[.int .i64 1,.int .i64 0,.int .i64 1,.int .i64 0]),(1,.agg #[.int .i64 5,.int .i64 0,.int .i64 9,.int .i64 1]),(2,.agg #[.int .i64 1,.int .i64 0,.int .i64 2,.int .i64 0])]) (cs:=#[.int .i64 1,.int .i64 0,.int .i64 1,.int .i64 0,.int .i64 5,.int .i64 0,.int .i64 9,.int .i64 1,.int .i64 1,.int .i64 0,.int .i64 2,.int .i64 0]) rfl underlying50 M1 Uq0 (by decide) (by kernel_rfl) (fun w b10 F10=>?_);have gd1:=F10.lq M5.size;have M5:=N0 M5 F10.below;have yi0:=F10.blk;refine L.va (bw0 rfl) ?_;refine U2 ?_;refine U50 ?_;refine L.va (aw0 rfl) ?_;refine L.tf0 (vs:=[(0,.slice (some ⟨b10,0,none⟩) 3 3),(1,.slice (some ⟨b10,0,none⟩) 3 3)]) (cs:=#[.slice (some ⟨b10,0,none⟩) 3 3,.slice (some ⟨b10,0,none⟩) 3 3]) rfl underlying22 Pn0 Up0 (by decide) (by kernel_rfl) (fun w b14 F14=>?_);have ge1:=F14.lq M5.size;have M5:=N0 M5 F14.below;have yi0:=yi0.E0 F14.below;have Ik0:=F14.blk;refine L.tf0 (vs:=[(0,.int .i64 0),(1,.int .i64 1),(2,.int .i64 0),(3,.int .i64 0),(4,.int .i64 0),(5,.int .i64 0)]) (cs:=#[.int .i64 0,.int .i64 1,.int .i64 0,.int .i64 0,.int .i64 0,.int .i64 0]) rfl underlying23 sz3 zr3 (by decide) (by kernel_rfl) (fun w b15 F15=>?_);have Lj0:=F15.lq M5.size;have M5:=N0 M5 F15.below;have yi0:=yi0.E0 F15.below;have Ik0:=Ik0.E0 F15.below;have xw0:=F15.blk;have yi0:S0 w b10 _ _:=yi0;have Ik0:S0 w b14 _ _:=Ik0;have xw0:S0 w b15 _ _:=xw0;refine L.call (l3 rfl rfl func11 rfl bc1 rfl) (Sn0 w (Cc0 yi0 Ik0) (fun i hi=>if_neg (by omega)) (Ls0 xw0) Ij0) ?_;rintro _ w1 ⟨p,R,r1,rfl,⟨pm,pbo,pB⟩,hP,hY,I1⟩;have M5:=N0 M5 I1;clear I1
 rename World=>w
 have hev:=hY.run.evs.trans (Ii0 pm pbo);refine L.va (zd0 rfl) ?_;refine U557 ?_;refine L.va (ax0 rfl rfl) ?_;have Hp0:=hY;have vx0:=M5;refine L.alloc (cs:=#[.slice none 0 0,.slice none 0 0,.slice none 0 0,.slice none 0 0,.bool false,.int .i64 0]) Jq0 rfl (fun w b2 F2=>?_);have lt2:=F2.lq M5.size;have g6:=F2.blk;refine L.pa [.slice R.ea R.evs.length R.ec,.slice R.na R.T2.length R.nc,.slice (some ⟨R.eb,0,none⟩) R.m R.m,.slice (some ⟨R.wb,0,none⟩) R.m R.m,.bool R.stuck,.int .i64 (R.used:Int)] iw0 g6 (fun w D1 hg n2=>?_);have hbA:=I4 F2.below F2.below.size hg (by have:=F2.here;omega);have hY:=Hp0.E0 hbA;have M5:=N0 vx0 hbA;have g6:=D1;clear D1 hg n2 hbA F2 Hp0 vx0;refine L.va (bw0 rfl) ?_;refine L.va (ub0 rfl) ?_;refine U16 ?_;refine U4 ?_;refine U280 ?_;refine U273 ?_;refine U250 ?_;refine L.on rfl ?_;refine L.va (wn0 (m:=6) (by rw[hev];rfl) rfl underlying26 rfl) ?_;refine L.on rfl ?_;refine L.va (B2 (r:=false) (by decide) (kc0 (m:=6) (k:=6) rfl rfl)) ?_;refine L.va (V8 rfl) ?_;refine U273 ?_;refine U250 ?_;refine L.on rfl ?_;refine L.va (ay0 (i:=1) rfl rfl underlying26 Pm0 hY.run.mem.evs.sl (by rw[hev];decide)) ?_;refine U530 ?_;refine L.on rfl ?_;refine L.va (F0 (v:=.int .i64 0) rfl underlying3 rfl (by rw[hY.run.mem.evs.off];exact hY.run.mem.evs.cell (j:=4) (by rw[hev];rfl))) ?_;refine L.on rfl ?_;refine L.va (B2 (r:=false) (by decide) (kc0 (m:=0) (k:=0) rfl rfl)) ?_;refine L.va (V8 rfl) ?_;refine U273 ?_;refine U250 ?_;refine L.on rfl ?_;refine L.va (ay0 (i:=3) rfl rfl underlying26 Pm0 hY.run.mem.evs.sl (by rw[hev];decide)) ?_;refine U530 ?_;refine L.on rfl ?_;refine L.va (F0 (v:=.int .i64 1) rfl underlying3 rfl (by rw[hY.run.mem.evs.off];exact hY.run.mem.evs.cell (j:=12) (by rw[hev];rfl))) ?_;refine L.on rfl ?_;refine L.va (B2 (r:=false) (by decide) (kc0 (m:=1) (k:=1) rfl rfl)) ?_;refine L.va (V8 rfl) ?_;refine U263 ?_;refine ZA.skip hZ ?_;refine U4 ?_;refine L.va (fc0 rfl) ?_;refine U16 ?_;refine fun a ha X hL h1 h2 h3=>(?_:ZA (Fin prog Post X 0) 62 (base 10) cs _ _ _) a ha;letI:Ctx prog:=V1 prog true;have hZ:Ctx.Zs prog (Fin prog Post X 0):=V3;obtain⟨wN,hwN⟩:∃wN,wN=w:=⟨_,rfl⟩
 have hN:Below wN.heap.size wN w:=by rw[hwN];exact Below.refl _ _
 have h0N:w0.heap.size <=wN.heap.size:=by rw[hwN];exact M5.size
 rw[<- hwN]at hL h1;clear hwN hY hev;refine U101 ?_;refine L.call (bq0  func17 rfl Uy0 rfl) (Hk0 _) ?_;rintro _ w ⟨bw,rfl,ltw,hRW,I1⟩;have ltw:=Nat.le_trans hN.size ltw;have M5:=N0 M5 I1;have hN:=N0 hN I1;refine L.call (Y6 rfl rfl rfl rfl func41 rfl Vn0 rfl) (yh0 bw 1 1 0 _) ?_;rintro _ w ⟨bx,rfl,ltx,hX,I1⟩;have ltx:=Nat.le_trans hN.size ltx;have M5:=N0 M5 I1;have hN:=N0 hN I1;have hRW:=hRW.E0 I1;have Oc0:=hRW;have Zr0:=hX;have vx0:=M5;have Zs0:=hN;refine L.alloc (cs:=#[.pointer none]) ba1 rfl (fun w b6 F6=>?_);have lt6:=F6.lq M5.size;have nt6:=Nat.le_trans hN.size (Nat.le_of_eq F6.here.symm);have V6:=F6.blk;refine L.pa [.p bx] az1 V6 (fun w D1 hg n2=>?_);have hbA:=I4 F6.below F6.below.size hg (by have:=F6.here;omega);have hRW:=Oc0.E0 hbA;have hX:=Zr0.E0 hbA;have M5:=N0 vx0 hbA;have hN:=N0 Zs0 hbA;have V6:=D1;clear D1 hg n2 hbA F6 Oc0 Zr0 vx0 Zs0;refine U16 ?_;refine ZA.upto hZ hb 2 rfl rfl (R:=fun e' w'=>ZA _ _ _ _ e' _ w') ?_ (fun _ _ h=>h);show L _ _ _ _ _ _ _;refine L.va (S3 (l:=[.tmp 6]) (vs:=[.pointer (some ⟨b6,0,none⟩)]) rfl) ?_;refine L.tf0 (vs:=[(0,.func (.func 45) #[] #[.pointer (some ⟨b6,0,none⟩)]),(1,.nilFunc)]) (cs:=#[.func (.func 45) #[] #[.pointer (some ⟨b6,0,none⟩)],.nilFunc]) rfl underlying60 sz1 zr1 (by decide) (by kernel_rfl) (fun w b47 F47=>?_);have gf1:=F47.lq M5.size;have dt1:=Nat.le_trans hN.size (Nat.le_of_eq F47.here.symm);have M5:=N0 M5 F47.below;have hN:=N0 hN F47.below;have hRW:=hRW.E0 F47.below;have hX:=hX.E0 F47.below;have V6:=V6.E0 F47.below;have Zt0:=F47.blk;refine U2 ?_;refine ZA.call (i:=2) (rest:=[]) hZ hb (f:=33) (args:=#[.slice (some ⟨b47,0,none⟩) 2 2]) rfl rfl (M0 rfl func33 rfl Vk0 rfl) (fun a ha=>?_);refine yf0 (n1:=wN.heap.size) (bs:=b47) (b6:=b6) (bx:=bx) (bw:=bw) ⟨Zt0,V6,hX,hRW⟩ hL.G1 hL.cap hL.pend hL.dn hL.under hL.C4 ⟨dt1,nt6,ltx,ltw⟩ (fun X' w fr hF hO hfn hlv=>?_);letI:Ctx prog:=V1 prog true;have hZ:Ctx.Zs prog (Fin prog Post X' 0):=V3;refine ZA.back (aj0 prog Post X' 0) (i:=2) rfl rfl ha hlv ?_;refine ZA.Z2 hZ ?_;have n2:=hO.size;have Zu0:Below w0.heap.size w0 w:=⟨hO.os.trans M5.os,hO.tape.trans M5.tape,hO.output.trans M5.output,Nat.le_trans M5.size n2,fun q hq=>(hO.block q (Nat.lt_of_lt_of_le hq M5.size) (by have:=Nat.le_trans h0N ltx;omega)).trans (M5.block q hq)⟩
 have hNn:wN.heap.size <=w.heap.size:=Nat.le_trans hN.size n2;have Zv0:S0 w b6 #[.pointer (some ⟨bx,0,none⟩)] 86:=(hO.block b6 V6.lt (S0.ne V6 hX (by decide))).trans V6;have Zw0:S0 w bw #[.bool true] 105:=(hO.block bw hRW.lt (S0.ne hRW hX (by decide))).trans hRW;have hXn:S0 w bx #[.int .i64 1,.int .i64 1,.pointer (some ⟨bw,0,none⟩),.int .i64 5] 145:=hO.cx;clear M5 hN V6 hRW hX Zt0 hO;have M5:=Zu0;have V6:=Zv0;have hRW:=Zw0;have hX:=hXn;clear Zu0 Zv0 Zw0 hXn;have Zx0:X'.M8 w.heap.size:=hF.under;obtain⟨n9,hn9⟩:∃n9,n9=w.heap.size:=⟨_,rfl⟩
 rw[<- hn9]at Zx0 hNn;have hM:Below n9 w w:=by rw[hn9];exact Below.refl _ _
 have hM9:n9 <=w.heap.size:=Nat.le_of_eq hn9;clear hn9 n2;have hM9:NLe n9 w:=⟨hM9⟩
 clear hM;refine U4 ?_;refine L.va (F0 rfl underlying86 rfl (V6.A0 0 (v:=.pointer (some ⟨bx,0,none⟩)) rfl)) ?_;refine L.call (l3 rfl rfl func43 rfl Vp0 rfl) (Lx0 bx bw 1 1 5 _ _ hX hRW) ?_;rintro _ w ⟨rfl,I1⟩;have M5:=N0 M5 I1;have hM9:=hM9.E0 I1;refine U199 ?_;refine U200 ?_;refine L.va (B2 (r:=true) (by decide) (M4 (m:=5) (k:=5) rfl rfl)) ?_;refine U104 ?_;refine L.call (bq0  func17 rfl Uy0 rfl) (Hk0 _) ?_;rintro _ w ⟨br,rfl,_,hR2,I1⟩;have M5:=N0 M5 I1;have hM9:=hM9.E0 I1;refine L.on rfl ?_;refine L.call (M0 rfl func44 rfl su0 rfl) (lr0 br _ hR2) ?_;rintro _ w1 ⟨rfl,hw⟩;refine U28 ?_;refine L.va (X6 rfl) ?_;refine U104 ?_;refine L.call (bq0  func36 rfl Vm0 rfl) (ip0 _) ?_;rintro _ w ⟨bs,rfl,_,hS2,I1⟩;have M5:=N0 M5 I1;have hM9:=hM9.E0 I1;refine L.on rfl ?_;refine L.call (M0 rfl func44 rfl su0 rfl) (fx0 bs _ hS2) ?_;rintro _ w1 ⟨rfl,hw⟩;refine U28 ?_;refine L.on rfl ?_;refine L.va (ov0 rfl) ?_;refine L.va (X6 rfl) ?_;refine U41 ?_;refine ZA.ret hZ ?_;refine ZA.Lt0 (t:=0) (fn:=Tryz.f10) (f:=10) rfl func10 rfl rfl (fun fr hfn hlv=>?_);have w9:∀b,wN.heap.size <=b->X'.C4 b= .all:=fun b hb=>by rw[hF.C4];exact hL.C4 b hb
 have hm9:=hM9.le;exact hk (.returned (.bool true)) w fr ⟨rfl,M5⟩ hfn hlv X' ⟨hF.G1,hF.cap,hF.pend,hF.dn,Zx0.mono hm9,fun b hb=>w9 b (by omega),hF.ft0⟩ (by omega) (fun b hb=>by rcases hF.low b hb with z|z;exact h2 b z;omega) (hF.C4.trans h3)
set_option maxRecDepth 20000 in
theorem vy0 {lb:Nat} {pl:Nat->c6} (w0:World):@C prog (J6 lb pl) 33 #[.slice none 0 0] w0 fun v w=>v= .tuple #[]/\Below w0.heap.size w0 w:=by
 rintro Z ⟨Post,rfl⟩ cs hk X hL h1 h2 h3;letI:Ctx prog:=V1 prog true;have hZ:Ctx.Zs prog (Fin prog Post X 0):=V3;have hb:=Z0 33;rw[enter_at _ func33 rfl];refine(?_:ZA (Fin prog Post X 0) 17 (base 33) cs (Vc.k7 #[.slice none 0 0]) [.code (Tryz.f33.body.getD .skip)] w0) _ (I5 _ _ rfl);refine U4 ?_;refine L.alloc (cs:=#[.int .u64 0,.int .u32 0]) Mw0 rfl (fun w1 bG F1=>?_);refine U16 ?_;refine U50 ?_;refine L.va (O8 rfl underlying60 rfl) ?_;refine U138 ?_;refine U67 ?_;refine ZA.q5 hZ rfl ?_;refine ZA.exit hZ rfl ?_;have hbG:bG=w0.heap.size:=F1.here;have hz1:=F1.size;have hl:=hL.under.v9 (Nat.le_of_eq hbG.symm);have hnl:¬X.low bG:=fun h=>by have:=hL.under.low _ h;omega
 have hGb:w1.heap[bG]? =some (.cells (#[] ++ #[.int .u64 0,.int .u32 0]) 141 (0,0)):=F1.blk;intro a ha;refine Fin.we0 (f':=(0,0)) (b:=bG) (c:=#[]) hL.cap hl hnl (hL.C4 bG (Nat.le_of_eq hbG.symm)) hGb (Nat.zero_le _) ?_;revert ha;revert a;generalize hw4:N2 w1 bG (.cells #[] 141 (0,0))=w4;have df0:∀b,b≠bG->w4.heap[b]? =w1.heap[b]?:=fun b hb=>by rw[<- hw4];exact Y4 _ _ (Ne.symm hb)
 have dr1:w4.heap.size=w0.heap.size+1:=by rw[<- hw4];show(w1.heap.setIfInBounds _ _).size=_;rw[Array.size_setIfInBounds];omega
 generalize hX1:({X.lower bG with K2:=some ⟨bG,0⟩,old:=X.K2.toList++X.old}:Gh)=X1;have K7:X1=({X.lower bG with K2:=some ⟨bG,0⟩,old:=X.K2.toList++X.old}:Gh):=hX1.symm;refine U565 ?_;intro hZ1;have n3:X1.K2=some ⟨bG,0⟩:=by rw[K7]
 have e8:∀i,X1.G1 i=none:=by rw[K7];exact hL.G1
 have hp:X1.pend=0:=by rw[K7];exact hL.pend
 have z8:X1.dn=0:=by rw[K7];exact hL.dn
 have cg0:X1.cap<2147483648:=by rw[K7];show X.cap<_;rw[hL.cap];decide
 refine ZA.region hZ1 ?_;refine ZA.call (i:=0) (rest:=[]) hZ1 hb (f:=70) (args:=#[.pointer (some ⟨bG,0,none⟩)]) rfl rfl (M0 rfl func70 rfl Ps0 rfl) (fun a ha=>?_);refine Fin.wait (G:=⟨bG,0⟩) (K:=fun g'=>g'=_) n3 e8 hp z8 (Eo0 ⟨bG,0⟩ (fun g'=>g'=_) rfl X1.cap cg0) (fun g' r6=>?_);subst r6;refine ZA.home (i:=0) rfl rfl ha ?_;have hZ2:Ctx.Zs prog (Fin prog Post {X1 with pend:=0,cap:=0,dn:=0} 0):=V3;refine ZA.Z2 hZ2 ?_;refine ZA.done hZ2 ?_;refine ZA.leaves (fn:=Tryz.f33) (f:=33) rfl func33 rfl (fun fr hfn hlv=>?_);refine hk (.returned (.tuple #[])) w4 fr ⟨rfl,?_⟩ hfn hlv {X1 with pend:=0,cap:=0,dn:=0} ⟨e8,rfl,rfl,rfl,⟨fun i p hp=>?_,fun b o hb=>?_,fun b hb=>?_,fun G hG=>?_,fun b hb=>?_⟩,fun b hb=>?_,?_⟩ (by omega) (fun b hb=>?_) ?_
 ·refine⟨?_,?_,?_,by omega,fun b hb=>(df0 b (by omega)).trans (F1.below.block b hb)⟩
  ·rw[<- hw4];exact F1.below.os
  ·rw[<- hw4];exact F1.below.tape
  ·rw[<- hw4];exact F1.below.output
 ·have hp':p∈X.stay i:=by rw[K7]at hp;exact hp
  have:=hL.under.stay i p hp';omega
 ·have g7:X.X3 b=some o:=by rw[K7]at hb;exact hb
  have:=hL.under.X3 b o g7;omega
 ·have g7:X.A7 b:=by rw[K7]at hb;exact hb
  have:=hL.under.A7 b g7;omega
 ·rw[K7]at hG;rcases hG with hG|hG
  ·have hG:some (⟨bG,0⟩:H4)=some G:=hG;obtain rfl:=Option.some.inj hG;show bG<_;omega
  ·have hG:G∈X.K2.toList++X.old:=hG;rcases List.mem_append.1 hG with h|h
   ·have:=hL.under.K2 G (.inl (by simpa using h));omega
   ·have:=hL.under.K2 G (.inr h);omega
 ·rw[K7]at hb;have hb:X.low b\/b=bG:=hb;rcases hb with h|h
  ·have:=hL.under.low b h;omega
  ·omega
 ·rw[K7];exact hL.C4 b (by omega)
 ·rw[K7];exact hL.ft0
 ·rw[K7]at hb;have hb:X.low b\/b=bG:=hb;rcases hb with h|h
  ·exact h2 b h
  ·omega
 ·rw[K7];exact h3
section
variable [Ctx prog]
theorem Z1 (o:L2) (b:Bool) (h:b=true↔G8 o) (w0:World):C prog 37 #[.agg #[.int .i64 o.z5,.int .i64 o.ga0,.int .i64 o.call,.int .i64 o.val]] w0 fun v w=>v= .bool b/\Below w0.heap.size w0 w :=
 C.mono (Ll0 o w0) fun v w hh=>by
  obtain⟨b',rfl,hb,hw⟩:=hh;have:b'=b:=Bool.eq_iff_iff.2 (hb.trans h.symm);exact⟨by rw[this],hw⟩
end
section
theorem Ly0 (x0:Int) (x1:Int):prog.built 107 [(0,.int .i64 x0),(1,.int .i64 x1)]=some #[.int .i64 x0,.int .i64 x1]:=by kernel_rfl
theorem Lz0 (x0:Int) (x1:Int) (x2:Option Addr) (x3:Int):prog.built 145 [(0,.agg #[.int .i64 x0,.int .i64 x1]),(1,.pointer x2),(2,.int .i64 x3)]=some #[.int .i64 x0,.int .i64 x1,.pointer x2,.int .i64 x3]:=by kernel_rfl
theorem Ma0:prog.built 72 []=some #[.pointer none,.pointer none,.pointer none,.pointer none,.pointer none,.pointer none,.pointer none,.pointer none,.pointer none,.pointer none]:=by kernel_rfl
theorem j2 (x0:Int) (x1:Int) (x2:Int):prog.built 52 [(0,.int .i64 x0),(2,.int .i64 x1),(3,.int .i64 x2)]=some #[.int .i64 x0,.int .i64 0,.int .i64 x1,.int .i64 x2]:=by kernel_rfl
end
section
variable [Ctx prog]
theorem Ao0 (w0:World):C prog 44 #[.pointer none] w0 fun v w=>v= .bool false/\w=w0:=by
 refine U283 ?_;refine U68 ?_;refine U271 ?_;refine U233 ?_;refine U66 ?_;exact⟨rfl,rfl⟩
theorem Zy0 (obj num x:Int) (w0:World):C prog 41 #[.pointer none,.int .i64 obj,.int .i64 num,.int .i64 x] w0 fun v w=>∃cb,v= .pointer (some ⟨cb,0,none⟩)/\w0.heap.size <=cb/\S0 w cb #[.int .i64 obj,.int .i64 num,.pointer none,.int .i64 x] 145/\Below w0.heap.size w0 w:=by
 refine C.enter (n:=16) func41 rfl rfl ?_;refine U3 ?_;intro hb;refine U38 ?_;refine U71 ?_;refine L.va (V0 (parts:=[(0,.tmp 9),(1,.tmp 10)]) rfl (Ly0 obj num)) ?_;refine U45 ?_;refine L.va (V0 (parts:=[(0,.tmp 11),(1,.tmp 12),(2,.tmp 13)]) rfl (Lz0 obj num none x)) ?_;refine L.box (cs:=#[.int .i64 obj,.int .i64 num,.pointer none,.int .i64 x]) rfl rfl (fun w b15 F15=>?_);have Lj0:=F15.lq hb.size;have hb:=N0 hb F15.below;have xw0:=F15.blk;exact U294
theorem Tc0 (b0 b1 cb:Nat) (obj num x x2:Int) (w0:World) (M5:S0 w0 b0 #[.pointer (some ⟨cb,0,none⟩)] 86) (hB1:S0 w0 b1 #[.int .i64 x2] 3) (hC:S0 w0 cb #[.int .i64 obj,.int .i64 num,.pointer none,.int .i64 x] 145) :
  C prog 75 #[.pointer (some ⟨b0,0,none⟩),.pointer (some ⟨b1,0,none⟩)] w0 fun v w=>v= .tuple #[]/\S0 w b1 #[.int .i64 x] 3/\w0.grownBy w (some b1):=by
 refine C.enter (n:=6) func75 rfl rfl ?_;refine W.region rfl ?_;refine L.va (F0 rfl underlying86 rfl (M5.A0 0 (v:=.pointer (some ⟨cb,0,none⟩)) rfl)) ?_;refine U264 ?_;refine L.va (F0 rfl underlying3 rfl (hC.A0 3 (v:=.int .i64 x) rfl)) ?_;refine L.pu 0 [.int .i64 x] #[.int .i64 x] sz3 hB1 (fun w D1 hg n2=>?_);exact U220
theorem Td0 (b0 b1 cb:Nat) (obj num x x2:Int) (w0:World) (M5:S0 w0 b0 #[.int .i64 x] 3) (hB1:S0 w0 b1 #[.pointer (some ⟨cb,0,none⟩)] 86) (hC:S0 w0 cb #[.int .i64 obj,.int .i64 num,.pointer none,.int .i64 x2] 145) :
  C prog 74 #[.pointer (some ⟨b0,0,none⟩),.pointer (some ⟨b1,0,none⟩)] w0 fun v w=>v= .tuple #[]/\S0 w cb #[.int .i64 obj,.int .i64 num,.pointer none,.int .i64 x] 145/\w0.grownBy w (some cb):=by
 refine C.enter (n:=6) func74 rfl rfl ?_;refine W.region rfl ?_;refine L.va (F0 rfl underlying86 rfl (hB1.A0 0 (v:=.pointer (some ⟨cb,0,none⟩)) rfl)) ?_;refine L.va (F0 rfl underlying3 rfl (M5.A0 0 (v:=.int .i64 x) rfl)) ?_;refine U264 ?_;refine L.pu 3 [.int .i64 x] #[.int .i64 obj,.int .i64 num,.pointer none,.int .i64 x] sz3 hC (fun w D1 hg n2=>?_);have B5:=Q7.ef0 hC hg;have hC:=D1;exact U312
theorem Zz0 (cb:Nat) (obj num x:Int) (w0:World) (hC:S0 w0 cb #[.int .i64 obj,.int .i64 num,.pointer none,.int .i64 x] 145) :
  C prog 43 #[.pointer (some ⟨cb,0,none⟩),.pointer none] w0 fun v w=>v= .int .i64 x/\Below w0.heap.size w0 w:=by
 refine C.enter (n:=26) func43 rfl rfl ?_;refine U279 ?_;intro hb w b2 F2;refine U11 ?_;intro lt2 hb;refine U57 ?_;intro hC g6;refine U49 ?_;refine L.alloc (cs:=#[.int .i64 0]) zr3 rfl (fun w b5 F5=>?_);refine U12 ?_;intro E8 hb;have hC:=hC.E0 F5.below;refine U96 ?_;intro g6 C3;refine U33 ?_;refine L.va (F0 rfl underlying86 rfl (g6.A0 0 (v:=.pointer (some ⟨cb,0,none⟩)) rfl)) ?_;refine U570 ?_;refine L.va (F0 rfl underlying86 rfl (g6.A0 0 (v:=.pointer (some ⟨cb,0,none⟩)) rfl)) ?_;refine U260 ?_;refine U412 ?_;rintro _ w1 ⟨rfl,hw⟩;refine U139 ?_;refine L.va (F0 rfl underlying86 rfl (g6.A0 0 (v:=.pointer (some ⟨cb,0,none⟩)) rfl)) ?_;refine U486 ?_;refine U248 ?_;refine L.call (l6 rfl rfl rfl rfl rfl func56 rfl ix0 rfl) (qo0 (ys:=#[.pointer (some ⟨b2,0,none⟩),.pointer (some ⟨b5,0,none⟩)]) func75 rfl bn1 obj num 8 _ w (fun w'=>S0 w' b5 #[.int .i64 x] 3/\w.grownBy w' (some b5)) (fun w1 S4=>(Tc0 b2 b5 cb obj num x _ w1 (g6.E0 S4) (C3.E0 S4) (hC.E0 S4)).mono fun _ w' h=>⟨h.2.1,kg0 (fd0 (Y9 _ _) S4) h.2.2⟩)) ?_;rintro _ w ⟨D1,hg⟩;have B5:=Q7.ef0 C3 hg;have hb:=I4 hb hb.size hg E8;have C3:=D1;refine U59 ?_;refine L.va (F0 rfl underlying3 rfl (C3.A0 0 (v:=.int .i64 x) rfl)) ?_;exact U14
theorem aa1 (cb:Nat) (obj num x x2:Int) (w0:World) (hC:S0 w0 cb #[.int .i64 obj,.int .i64 num,.pointer none,.int .i64 x2] 145) :
  C prog 42 #[.pointer (some ⟨cb,0,none⟩),.pointer none,.int .i64 x] w0 fun _ w=>S0 w cb #[.int .i64 obj,.int .i64 num,.pointer none,.int .i64 x] 145/\w0.grownBy w (some cb):=by
 refine C.enter (n:=26) func42 rfl rfl ?_;have n3:=Y9 w0 (some cb);refine U6 ?_;refine L.box (cs:=#[.pointer (some ⟨cb,0,none⟩)]) rfl rfl (fun w b3 F3=>?_);have lt3:=F3.lq n3.size;have n3:=fd0 n3 F3.below;have hC:=hC.E0 F3.below;refine U114 ?_;intro N9 w b5 F5;have E8:=F5.lq n3.size;have n3:=fd0 n3 F5.below;have hC:=hC.E0 F5.below;have N9:=N9.E0 F5.below;have C3:=F5.blk;refine U91 ?_;refine L.va (F0 rfl underlying86 rfl (N9.A0 0 (v:=.pointer (some ⟨cb,0,none⟩)) rfl)) ?_;refine L.va (H3 rfl rfl underlying86) ?_;refine U8 ?_;refine L.va (F0 rfl underlying86 rfl (N9.A0 0 (v:=.pointer (some ⟨cb,0,none⟩)) rfl)) ?_;refine U260 ?_;refine U412 ?_;rintro _ w1 ⟨rfl,hw⟩;refine U28 ?_;refine U310 ?_;refine L.va (F0 rfl underlying86 rfl (N9.A0 0 (v:=.pointer (some ⟨cb,0,none⟩)) rfl)) ?_;refine U486 ?_;refine U420 ?_;refine L.call (l6 rfl rfl rfl rfl rfl func56 rfl ix0 rfl) (qo0 (ys:=#[.pointer (some ⟨b5,0,none⟩),.pointer (some ⟨b3,0,none⟩)]) func74 rfl bm1 obj num 9 _ w (fun w'=>S0 w' cb #[.int .i64 obj,.int .i64 num,.pointer none,.int .i64 x] 145/\w.grownBy w' (some cb)) (fun w1 S4=>(Td0 b5 b3 cb obj num x x2 w1 (C3.E0 S4) (N9.E0 S4) (hC.E0 S4)).mono fun _ w' h=>⟨h.2.1,kg0 (fd0 (Y9 _ _) S4) h.2.2⟩)) ?_;rintro _ w ⟨D1,hg⟩;refine U126 ?_;intro B5 n3;have hC:=D1;clear B5;refine U181 ?_;refine U69 ?_;exact⟨hC,n3⟩
theorem Il0 (w0:World):C prog 20 #[.pointer none,.pointer none] w0 fun v w=>v= .tuple #[]/\Below w0.heap.size w0 w:=by
 refine C.enter (n:=12) func20 rfl rfl ?_;refine U3 ?_;intro hb;refine U183 ?_;exact U298
theorem yj0 (w0:World):C prog 23 #[.pointer none,.pointer none] w0 fun v w=>v= .tuple #[]/\Below w0.heap.size w0 w:=by
 refine C.enter (n:=12) func23 rfl rfl ?_;refine U3 ?_;intro hb;refine U183 ?_;exact U298
theorem Im0 (w0:World):C prog 25 #[.pointer none,.pointer none] w0 fun v w=>v= .tuple #[]/\Below w0.heap.size w0 w:=by
 refine C.enter (n:=12) func25 rfl rfl ?_;exact U208
theorem yk0 (w0:World):C prog 27 #[.pointer none,.pointer none] w0 fun v w=>v= .tuple #[]/\Below w0.heap.size w0 w:=by
 refine C.enter (n:=12) func27 rfl rfl ?_;exact U208
theorem Cd0 (w0:World):C prog 28 #[.pointer none,.pointer none] w0 fun v w=>v= .tuple #[]/\Below w0.heap.size w0 w:=by
 refine C.enter (n:=12) func28 rfl rfl ?_;exact U208
theorem vz0 (w0:World):C prog 30 #[.pointer none,.pointer none] w0 fun v w=>v= .tuple #[]/\Below w0.heap.size w0 w:=by
 refine C.enter (n:=12) func30 rfl rfl ?_;exact U208
theorem Mb0 (w0:World):C prog 34 #[.pointer none,.pointer none] w0 fun v w=>v= .int .i64 0/\Below w0.heap.size w0 w:=by
 refine C.enter (n:=25) func34 rfl rfl ?_;refine U291 ?_;intro hb w b2 F2;refine U11 ?_;intro lt2 hb;have g6:=F2.blk;refine U134 ?_;refine L.va (F0 rfl underlying65 rfl (g6.A0 0 (v:=.pointer none) rfl)) ?_;refine U568 ?_;exact U14
theorem Mc0 (x:Int) (w0:World):C prog 24 #[.pointer none,.pointer none,.int .i64 x] w0 fun v w=>v= .int .i64 0/\Below w0.heap.size w0 w:=by
 refine C.enter (n:=28) func24 rfl rfl ?_;refine U292 ?_;intro hb w b3 F3;refine U88 ?_;intro lt3 hb;refine U114 ?_;intro N9 w b5 F5;refine U12 ?_;intro E8 hb;have N9:=N9.E0 F5.below;refine U134 ?_;refine L.va (F0 rfl underlying65 rfl (N9.A0 0 (v:=.pointer none) rfl)) ?_;refine U568 ?_;exact U14
theorem Md0 (w0:World):C prog 29 #[.pointer none,.pointer none] w0 fun v w=>v= .int .i64 0/\Below w0.heap.size w0 w:=by
 refine C.enter (n:=28) func29 rfl rfl ?_;refine U291 ?_;intro hb w b2 F2;refine U11 ?_;intro lt2 hb;have g6:=F2.blk;refine U49 ?_;refine U195 ?_;intro w b5 F5 E8 hb;refine U96 ?_;intro g6 C3;refine U33 ?_;refine L.va (F0 rfl underlying67 rfl (g6.A0 0 (v:=.pointer none) rfl)) ?_;refine L.va (H3 rfl rfl underlying67) ?_;refine U52 ?_;exact U502
theorem Me0 (x:Int) (w0:World):C prog 26 #[.pointer none,.pointer none,.int .i64 x] w0 fun v w=>v= .tuple #[]/\Below w0.heap.size w0 w:=by
 refine C.enter (n:=26) func26 rfl rfl ?_;refine U292 ?_;intro hb w b3 F3;refine U88 ?_;intro lt3 hb;refine U114 ?_;intro N9 w b5 F5;refine U12 ?_;intro E8 hb;have N9:=N9.E0 F5.below;refine U91 ?_;refine L.va (F0 rfl underlying67 rfl (N9.A0 0 (v:=.pointer none) rfl)) ?_;refine L.va (H3 rfl rfl underlying67) ?_;refine U58 ?_;refine W.skip ?_;refine B.nrm ?_;exact U269
theorem Mf0 (w0:World):C prog 22 #[.pointer none,.pointer none] w0 fun v w=>v= .int .i64 0/\Below w0.heap.size w0 w:=by
 refine C.enter (n:=26) func22 rfl rfl ?_;refine U291 ?_;intro hb w b2 F2;refine U11 ?_;intro lt2 hb;have g6:=F2.blk;refine U49 ?_;refine U195 ?_;intro w b5 F5 E8 hb;refine U96 ?_;intro g6 C3;refine U33 ?_;refine L.va (F0 rfl underlying69 rfl (g6.A0 0 (v:=.pointer none) rfl)) ?_;refine L.va (H3 rfl rfl underlying69) ?_;refine U52 ?_;exact U502
theorem Mg0 (x:Int) (w0:World):C prog 21 #[.pointer none,.pointer none,.int .i64 x] w0 fun v w=>v= .tuple #[]/\Below w0.heap.size w0 w:=by
 refine C.enter (n:=26) func21 rfl rfl ?_;refine U292 ?_;intro hb w b3 F3;refine U88 ?_;intro lt3 hb;refine U114 ?_;intro N9 w b5 F5;refine U12 ?_;intro E8 hb;have N9:=N9.E0 F5.below;refine U91 ?_;refine L.va (F0 rfl underlying69 rfl (N9.A0 0 (v:=.pointer none) rfl)) ?_;refine L.va (H3 rfl rfl underlying69) ?_;refine U58 ?_;refine W.skip ?_;refine B.nrm ?_;exact U269
abbrev hr0:Array Value:=#[.pointer none,.pointer none,.pointer none,.pointer none,.pointer none,.pointer none,.pointer none,.pointer none,.pointer none,.pointer none]
set_option maxHeartbeats 1000000 in
theorem yl0 (tb:Nat) (w0:World) (hT:S0 w0 tb hr0 72):C prog 39 #[.pointer (some ⟨tb,0,none⟩),.pointer none,.agg #[.int .i64 1,.int .i64 0,.int .i64 1,.int .i64 7]] w0 fun v w=>v= .int .i64 0/\Below w0.heap.size w0 w:=by
 refine U15 ?_;intro hb;refine L.box (cs:=#[.int .i64 1,.int .i64 0,.int .i64 1,.int .i64 7]) rfl rfl (fun w b5 F5=>?_);refine U22 ?_;intro E8 hb hT C3;refine L.va (G0 (cs:=[.int .i64 1,.int .i64 0,.int .i64 1,.int .i64 7]) rfl underlying52 rfl M1 rfl (C3.J1 rfl)) ?_;refine L.call (M0 rfl func15 rfl b9 rfl) (V4 (⟨1,0,1,7⟩:L2) w) ?_;rintro _ w ⟨rfl,I1⟩;refine U18 ?_;intro hb hT C3;refine U173 ?_;refine U92 ?_;refine U170 ?_;refine U512 ?_;refine U63 ?_;refine U167 ?_;refine U401 ?_;refine L.va (Y2 rfl) ?_;refine L.call (l3 rfl rfl func20 rfl Uz0 rfl) (Il0 _) ?_;rintro _ w ⟨rfl,I1⟩;have hb:=N0 hb I1;refine U116 ?_;exact U14
set_option maxHeartbeats 1000000 in
theorem ym0 (tb:Nat) (w0:World) (hT:S0 w0 tb hr0 72):C prog 39 #[.pointer (some ⟨tb,0,none⟩),.pointer none,.agg #[.int .i64 1,.int .i64 0,.int .i64 2,.int .i64 7]] w0 fun v w=>v= .int .i64 0/\Below w0.heap.size w0 w:=by
 refine U15 ?_;intro hb;refine L.box (cs:=#[.int .i64 1,.int .i64 0,.int .i64 2,.int .i64 7]) rfl rfl (fun w b5 F5=>?_);refine U22 ?_;intro E8 hb hT C3;refine L.va (G0 (cs:=[.int .i64 1,.int .i64 0,.int .i64 2,.int .i64 7]) rfl underlying52 rfl M1 rfl (C3.J1 rfl)) ?_;refine L.call (M0 rfl func15 rfl b9 rfl) (V4 (⟨1,0,2,7⟩:L2) w) ?_;rintro _ w ⟨rfl,I1⟩;refine U18 ?_;intro hb hT C3;refine U173 ?_;refine U92 ?_;refine U169 ?_;refine U505 ?_;refine W.q5 rfl ?_;refine U63 ?_;refine U167 ?_;refine U401 ?_;refine L.va (Y2 rfl) ?_;refine L.call (l3 rfl rfl func23 rfl Vc0 rfl) (yj0 _) ?_;rintro _ w ⟨rfl,I1⟩;have hb:=N0 hb I1;refine U116 ?_;exact U14
set_option maxHeartbeats 1000000 in
theorem yn0 (tb:Nat) (w0:World) (hT:S0 w0 tb hr0 72):C prog 39 #[.pointer (some ⟨tb,0,none⟩),.pointer none,.agg #[.int .i64 2,.int .i64 0,.int .i64 1,.int .i64 7]] w0 fun v w=>v= .int .i64 0/\Below w0.heap.size w0 w:=by
 refine U15 ?_;intro hb;refine L.box (cs:=#[.int .i64 2,.int .i64 0,.int .i64 1,.int .i64 7]) rfl rfl (fun w b5 F5=>?_);refine U22 ?_;intro E8 hb hT C3;refine L.va (G0 (cs:=[.int .i64 2,.int .i64 0,.int .i64 1,.int .i64 7]) rfl underlying52 rfl M1 rfl (C3.J1 rfl)) ?_;refine L.call (M0 rfl func15 rfl b9 rfl) (V4 (⟨2,0,1,7⟩:L2) w) ?_;rintro _ w ⟨rfl,I1⟩;refine U18 ?_;intro hb hT C3;refine U56 ?_;refine U170 ?_;refine U9 ?_;refine U92 ?_;refine U55 ?_;refine U203 ?_;refine L.call (l3 rfl rfl func25 rfl Ve0 rfl) (Im0 _) ?_;rintro _ w ⟨rfl,I1⟩;have hb:=N0 hb I1;refine U119 ?_;exact U14
set_option maxHeartbeats 1000000 in
theorem yo0 (tb:Nat) (w0:World) (hT:S0 w0 tb hr0 72):C prog 39 #[.pointer (some ⟨tb,0,none⟩),.pointer none,.agg #[.int .i64 2,.int .i64 0,.int .i64 2,.int .i64 7]] w0 fun v w=>v= .int .i64 0/\Below w0.heap.size w0 w:=by
 refine U15 ?_;intro hb;refine L.box (cs:=#[.int .i64 2,.int .i64 0,.int .i64 2,.int .i64 7]) rfl rfl (fun w b5 F5=>?_);refine U22 ?_;intro E8 hb hT C3;refine L.va (G0 (cs:=[.int .i64 2,.int .i64 0,.int .i64 2,.int .i64 7]) rfl underlying52 rfl M1 rfl (C3.J1 rfl)) ?_;refine L.call (M0 rfl func15 rfl b9 rfl) (V4 (⟨2,0,2,7⟩:L2) w) ?_;rintro _ w ⟨rfl,I1⟩;refine U18 ?_;intro hb hT C3;refine U56 ?_;refine U169 ?_;refine U9 ?_;refine U276 ?_;refine U55 ?_;refine U203 ?_;refine L.call (l3 rfl rfl func27 rfl Vg0 rfl) (yk0 _) ?_;rintro _ w ⟨rfl,I1⟩;have hb:=N0 hb I1;refine U119 ?_;exact U14
set_option maxHeartbeats 1000000 in
theorem yp0 (tb:Nat) (w0:World) (hT:S0 w0 tb hr0 72):C prog 39 #[.pointer (some ⟨tb,0,none⟩),.pointer none,.agg #[.int .i64 2,.int .i64 0,.int .i64 3,.int .i64 7]] w0 fun v w=>v= .int .i64 0/\Below w0.heap.size w0 w:=by
 refine U15 ?_;intro hb;refine L.box (cs:=#[.int .i64 2,.int .i64 0,.int .i64 3,.int .i64 7]) rfl rfl (fun w b5 F5=>?_);refine U22 ?_;intro E8 hb hT C3;refine L.va (G0 (cs:=[.int .i64 2,.int .i64 0,.int .i64 3,.int .i64 7]) rfl underlying52 rfl M1 rfl (C3.J1 rfl)) ?_;refine L.call (M0 rfl func15 rfl b9 rfl) (V4 (⟨2,0,3,7⟩:L2) w) ?_;rintro _ w ⟨rfl,I1⟩;refine U18 ?_;intro hb hT C3;refine U56 ?_;refine U500 ?_;refine U9 ?_;refine U93 ?_;refine U55 ?_;refine U203 ?_;refine L.call (l3 rfl rfl func28 rfl Vh0 rfl) (Cd0 _) ?_;rintro _ w ⟨rfl,I1⟩;have hb:=N0 hb I1;refine U119 ?_;exact U14
set_option maxHeartbeats 1000000 in
theorem yq0 (tb:Nat) (w0:World) (hT:S0 w0 tb hr0 72):C prog 39 #[.pointer (some ⟨tb,0,none⟩),.pointer none,.agg #[.int .i64 2,.int .i64 0,.int .i64 4,.int .i64 7]] w0 fun v w=>v= .int .i64 0/\Below w0.heap.size w0 w:=by
 refine U15 ?_;intro hb;refine L.box (cs:=#[.int .i64 2,.int .i64 0,.int .i64 4,.int .i64 7]) rfl rfl (fun w b5 F5=>?_);refine U22 ?_;intro E8 hb hT C3;refine L.va (G0 (cs:=[.int .i64 2,.int .i64 0,.int .i64 4,.int .i64 7]) rfl underlying52 rfl M1 rfl (C3.J1 rfl)) ?_;refine L.call (M0 rfl func15 rfl b9 rfl) (V4 (⟨2,0,4,7⟩:L2) w) ?_;rintro _ w ⟨rfl,I1⟩;refine U18 ?_;intro hb hT C3;refine U56 ?_;refine U501 ?_;refine U9 ?_;refine U94 ?_;refine U55 ?_;refine U203 ?_;refine L.call (l3 rfl rfl func30 rfl Vj0 rfl) (vz0 _) ?_;rintro _ w ⟨rfl,I1⟩;have hb:=N0 hb I1;refine U119 ?_;exact U14
set_option maxHeartbeats 1000000 in
theorem yr0 (tb:Nat) (w0:World) (hT:S0 w0 tb hr0 72):C prog 39 #[.pointer (some ⟨tb,0,none⟩),.pointer none,.agg #[.int .i64 3,.int .i64 0,.int .i64 5,.int .i64 7]] w0 fun v w=>v= .int .i64 0/\Below w0.heap.size w0 w:=by
 refine U15 ?_;intro hb;refine L.box (cs:=#[.int .i64 3,.int .i64 0,.int .i64 5,.int .i64 7]) rfl rfl (fun w b5 F5=>?_);refine U22 ?_;intro E8 hb hT C3;refine L.va (G0 (cs:=[.int .i64 3,.int .i64 0,.int .i64 5,.int .i64 7]) rfl underlying52 rfl M1 rfl (C3.J1 rfl)) ?_;refine L.call (M0 rfl func15 rfl b9 rfl) (V4 (⟨3,0,5,7⟩:L2) w) ?_;rintro _ w ⟨rfl,I1⟩;refine U18 ?_;intro hb hT C3;refine U171 ?_;refine U93 ?_;refine U509 ?_;refine U198 ?_;refine U549 ?_;refine L.va (C2 (i:=0) (n:=2) rfl rfl underlying66 ur0 (by decide)) ?_;refine L.va (F0 rfl underlying65 rfl (hT.A0 4 (v:=.pointer none) rfl)) ?_;refine L.va (Y2 rfl) ?_;refine L.call (l3 rfl rfl func34 rfl Vl0 rfl) (Mb0 _) ?_;rintro _ w ⟨rfl,I1⟩;exact U206
set_option maxHeartbeats 1000000 in
theorem ys0 (tb:Nat) (w0:World) (hT:S0 w0 tb hr0 72):C prog 39 #[.pointer (some ⟨tb,0,none⟩),.pointer none,.agg #[.int .i64 3,.int .i64 0,.int .i64 7,.int .i64 7]] w0 fun v w=>v= .int .i64 0/\Below w0.heap.size w0 w:=by
 refine U15 ?_;intro hb;refine L.box (cs:=#[.int .i64 3,.int .i64 0,.int .i64 7,.int .i64 7]) rfl rfl (fun w b5 F5=>?_);refine U22 ?_;intro E8 hb hT C3;refine L.va (G0 (cs:=[.int .i64 3,.int .i64 0,.int .i64 7,.int .i64 7]) rfl underlying52 rfl M1 rfl (C3.J1 rfl)) ?_;refine L.call (M0 rfl func15 rfl b9 rfl) (V4 (⟨3,0,7,7⟩:L2) w) ?_;rintro _ w ⟨rfl,I1⟩;refine U18 ?_;intro hb hT C3;refine U171 ?_;refine U93 ?_;refine U25 ?_;refine U405 ?_;refine U44 ?_;refine W.seq ?_;refine U74 ?_;refine U507 ?_;refine D.va (fun w' r3=>(C2 (i:=0) (n:=2) rfl rfl underlying66 ur0 (by decide))) ?_;refine D.va (fun w' r3=>(F0 rfl underlying65 rfl ((hT.E0 r3).A0 4 (v:=.pointer none) rfl))) ?_;refine U253 ?_;refine D.nil (fun w I1=>?_);have hb:=N0 hb I1;clear I1;refine L.call (L3 rfl rfl rfl func24 rfl Vd0 rfl) (Mc0 7 _) ?_;rintro _ w ⟨rfl,I1⟩;exact U206
set_option maxHeartbeats 1000000 in
theorem yt0 (tb:Nat) (w0:World) (hT:S0 w0 tb hr0 72):C prog 39 #[.pointer (some ⟨tb,0,none⟩),.pointer none,.agg #[.int .i64 4,.int .i64 0,.int .i64 5,.int .i64 7]] w0 fun v w=>v= .int .i64 0/\Below w0.heap.size w0 w:=by
 refine U15 ?_;intro hb;refine L.box (cs:=#[.int .i64 4,.int .i64 0,.int .i64 5,.int .i64 7]) rfl rfl (fun w b5 F5=>?_);refine U22 ?_;intro E8 hb hT C3;refine L.va (G0 (cs:=[.int .i64 4,.int .i64 0,.int .i64 5,.int .i64 7]) rfl underlying52 rfl M1 rfl (C3.J1 rfl)) ?_;refine L.call (M0 rfl func15 rfl b9 rfl) (V4 (⟨4,0,5,7⟩:L2) w) ?_;rintro _ w ⟨rfl,I1⟩;refine U18 ?_;intro hb hT C3;refine U174 ?_;refine U94 ?_;refine U513 ?_;refine U52 ?_;refine U550 ?_;refine L.va (C2 (i:=0) (n:=2) rfl rfl underlying68 us0 (by decide)) ?_;refine L.va (F0 rfl underlying67 rfl (hT.A0 6 (v:=.pointer none) rfl)) ?_;refine L.va (Y2 rfl) ?_;refine L.call (l3 rfl rfl func29 rfl Vi0 rfl) (Md0 _) ?_;rintro _ w ⟨rfl,I1⟩;exact U206
set_option maxHeartbeats 1000000 in
theorem yu0 (tb:Nat) (w0:World) (hT:S0 w0 tb hr0 72):C prog 39 #[.pointer (some ⟨tb,0,none⟩),.pointer none,.agg #[.int .i64 4,.int .i64 0,.int .i64 6,.int .i64 7]] w0 fun v w=>v= .int .i64 0/\Below w0.heap.size w0 w:=by
 refine U15 ?_;intro hb;refine L.box (cs:=#[.int .i64 4,.int .i64 0,.int .i64 6,.int .i64 7]) rfl rfl (fun w b5 F5=>?_);refine U22 ?_;intro E8 hb hT C3;refine L.va (G0 (cs:=[.int .i64 4,.int .i64 0,.int .i64 6,.int .i64 7]) rfl underlying52 rfl M1 rfl (C3.J1 rfl)) ?_;refine L.call (M0 rfl func15 rfl b9 rfl) (V4 (⟨4,0,6,7⟩:L2) w) ?_;rintro _ w ⟨rfl,I1⟩;refine U18 ?_;intro hb hT C3;refine U174 ?_;refine U94 ?_;refine U25 ?_;refine U402 ?_;refine U120 ?_;refine U74 ?_;refine U506 ?_;refine D.va (fun w' r3=>(C2 (i:=0) (n:=2) rfl rfl underlying68 us0 (by decide))) ?_;refine D.va (fun w' r3=>(F0 rfl underlying67 rfl ((hT.E0 r3).A0 6 (v:=.pointer none) rfl))) ?_;refine U253 ?_;refine D.nil (fun w I1=>?_);have hb:=N0 hb I1;clear I1;refine L.call (L3 rfl rfl rfl func26 rfl Vf0 rfl) (Me0 7 _) ?_;rintro _ w ⟨rfl,I1⟩;have hb:=N0 hb I1;refine U116 ?_;exact U14
set_option maxHeartbeats 1000000 in
theorem yv0 (tb:Nat) (w0:World) (hT:S0 w0 tb hr0 72):C prog 39 #[.pointer (some ⟨tb,0,none⟩),.pointer none,.agg #[.int .i64 5,.int .i64 0,.int .i64 8,.int .i64 7]] w0 fun v w=>v= .int .i64 0/\Below w0.heap.size w0 w:=by
 refine U15 ?_;intro hb;refine L.box (cs:=#[.int .i64 5,.int .i64 0,.int .i64 8,.int .i64 7]) rfl rfl (fun w b5 F5=>?_);refine U22 ?_;intro E8 hb hT C3;refine L.va (G0 (cs:=[.int .i64 5,.int .i64 0,.int .i64 8,.int .i64 7]) rfl underlying52 rfl M1 rfl (C3.J1 rfl)) ?_;refine L.call (M0 rfl func15 rfl b9 rfl) (V4 (⟨5,0,8,7⟩:L2) w) ?_;rintro _ w ⟨rfl,I1⟩;refine U18 ?_;intro hb hT C3;refine U172 ?_;refine U175 ?_;refine U8 ?_;refine U176 ?_;refine U177 ?_;refine U178 ?_;refine U179 ?_;refine U25 ?_;refine U406 ?_;refine U52 ?_;refine U551 ?_;refine L.va (C2 (i:=0) (n:=2) rfl rfl underlying70 ut0 (by decide)) ?_;refine L.va (F0 rfl underlying69 rfl (hT.A0 8 (v:=.pointer none) rfl)) ?_;refine L.va (Y2 rfl) ?_;refine L.call (l3 rfl rfl func22 rfl Vb0 rfl) (Mf0 _) ?_;rintro _ w ⟨rfl,I1⟩;exact U206
set_option maxHeartbeats 1000000 in
theorem yw0 (tb:Nat) (w0:World) (hT:S0 w0 tb hr0 72):C prog 39 #[.pointer (some ⟨tb,0,none⟩),.pointer none,.agg #[.int .i64 5,.int .i64 0,.int .i64 9,.int .i64 7]] w0 fun v w=>v= .int .i64 0/\Below w0.heap.size w0 w:=by
 refine U15 ?_;intro hb;refine L.box (cs:=#[.int .i64 5,.int .i64 0,.int .i64 9,.int .i64 7]) rfl rfl (fun w b5 F5=>?_);refine U22 ?_;intro E8 hb hT C3;refine L.va (G0 (cs:=[.int .i64 5,.int .i64 0,.int .i64 9,.int .i64 7]) rfl underlying52 rfl M1 rfl (C3.J1 rfl)) ?_;refine L.call (M0 rfl func15 rfl b9 rfl) (V4 (⟨5,0,9,7⟩:L2) w) ?_;rintro _ w ⟨rfl,I1⟩;refine U18 ?_;intro hb hT C3;refine U172 ?_;refine U175 ?_;refine U8 ?_;refine U176 ?_;refine U177 ?_;refine U178 ?_;refine U179 ?_;refine U25 ?_;refine U403 ?_;refine U120 ?_;refine U74 ?_;refine U508 ?_;refine D.va (fun w' r3=>(C2 (i:=0) (n:=2) rfl rfl underlying70 ut0 (by decide))) ?_;refine D.va (fun w' r3=>(F0 rfl underlying69 rfl ((hT.E0 r3).A0 8 (v:=.pointer none) rfl))) ?_;refine U253 ?_;refine D.nil (fun w I1=>?_);have hb:=N0 hb I1;clear I1;refine L.call (L3 rfl rfl rfl func21 rfl Va0 rfl) (Mg0 7 _) ?_;rintro _ w ⟨rfl,I1⟩;have hb:=N0 hb I1;refine U116 ?_;exact U14
end
set_option maxHeartbeats 8000000 in
set_option maxRecDepth 40000 in
theorem dy1 {lb:Nat} {pl:Nat->c6} (w0:World):@C prog (J6 lb pl) 8 #[] w0 fun v w=>v= .bool true/\Below w0.heap.size w0 w:=by
 letI:Ctx prog:=J6 lb pl;refine C.enter (n:=44) func8 rfl rfl ?_;refine U3 ?_;intro hb;refine U68 ?_;refine L.va (V0 (parts:=[]) rfl Ma0) ?_;refine L.box (cs:=#[.pointer none,.pointer none,.pointer none,.pointer none,.pointer none,.pointer none,.pointer none,.pointer none,.pointer none,.pointer none]) rfl rfl (fun w b8 F8=>?_);have lt8:=F8.lq hb.size;have hb:=N0 hb F8.below;have hB8:=F8.blk;have hT:S0 w b8 hr0 72:=hB8;clear hB8;refine U38 ?_;refine U80 ?_;refine U193 ?_;refine W.rounds 6 ?_;refine U149 ?_;refine L.va (B2 (r:=true) (by decide) (D7 (m:=1) (k:=5) rfl rfl)) ?_;refine U141 ?_;refine L.va (V0 (parts:=[(0,.tmp 17),(2,.tmp 18),(3,.const (.int .i64 7))]) rfl (j2 1 1 7)) ?_;refine U0 ?_;intro w b4 F4 D8 hb hT L1;refine L.pu 0 [.int .i64 1,.int .i64 0,.int .i64 1,.int .i64 7] #[.int .i64 1,.int .i64 0,.int .i64 1,.int .i64 7] M1 L1 (fun w D1 hg n2=>?_);refine U1 ?_;intro hb hT L1;refine L.va (G0 (cs:=[.int .i64 1,.int .i64 0,.int .i64 1,.int .i64 7]) rfl underlying52 rfl M1 rfl (L1.J1 rfl)) ?_;refine L.call (M0 rfl func37 rfl e5 rfl) (Z1 (⟨1,0,1,7⟩:L2) true (by simp[G8]) _) ?_;rintro _ w ⟨rfl,I1⟩;refine U20 ?_;intro hb hT L1;refine L.va (G0 (cs:=[.int .i64 1,.int .i64 0,.int .i64 1,.int .i64 7]) rfl underlying52 rfl M1 rfl (L1.J1 rfl)) ?_;refine L.on rfl ?_;refine L.call (L3 rfl rfl rfl func39 rfl go0 rfl) (yl0 b8 _ hT) ?_;rintro _ w ⟨rfl,I1⟩;refine U29 ?_;intro hb hT;refine U132 ?_;refine L.va (V0 (parts:=[(0,.tmp 17),(2,.tmp 18),(3,.const (.int .i64 7))]) rfl (j2 1 2 7)) ?_;refine U0 ?_;intro w b4 F4 D8 hb hT L1;refine L.pu 0 [.int .i64 1,.int .i64 0,.int .i64 2,.int .i64 7] #[.int .i64 1,.int .i64 0,.int .i64 2,.int .i64 7] M1 L1 (fun w D1 hg n2=>?_);refine U1 ?_;intro hb hT L1;refine L.va (G0 (cs:=[.int .i64 1,.int .i64 0,.int .i64 2,.int .i64 7]) rfl underlying52 rfl M1 rfl (L1.J1 rfl)) ?_;refine L.call (M0 rfl func37 rfl e5 rfl) (Z1 (⟨1,0,2,7⟩:L2) true (by simp[G8]) _) ?_;rintro _ w ⟨rfl,I1⟩;refine U20 ?_;intro hb hT L1;refine L.va (G0 (cs:=[.int .i64 1,.int .i64 0,.int .i64 2,.int .i64 7]) rfl underlying52 rfl M1 rfl (L1.J1 rfl)) ?_;refine L.on rfl ?_;refine L.call (L3 rfl rfl rfl func39 rfl go0 rfl) (ym0 b8 _ hT) ?_;rintro _ w ⟨rfl,I1⟩;refine U29 ?_;intro hb hT;refine U131 ?_;refine L.va (V0 (parts:=[(0,.tmp 17),(2,.tmp 18),(3,.const (.int .i64 7))]) rfl (j2 1 3 7)) ?_;refine U0 ?_;intro w b4 F4 D8 hb hT L1;refine L.pu 0 [.int .i64 1,.int .i64 0,.int .i64 3,.int .i64 7] #[.int .i64 1,.int .i64 0,.int .i64 3,.int .i64 7] M1 L1 (fun w D1 hg n2=>?_);refine U1 ?_;intro hb hT L1;refine L.va (G0 (cs:=[.int .i64 1,.int .i64 0,.int .i64 3,.int .i64 7]) rfl underlying52 rfl M1 rfl (L1.J1 rfl)) ?_;refine L.call (M0 rfl func37 rfl e5 rfl) (Z1 (⟨1,0,3,7⟩:L2) false (by simp[G8]) _) ?_;rintro _ w ⟨rfl,I1⟩;refine U5 ?_;intro hb hT;refine U130 ?_;refine L.va (V0 (parts:=[(0,.tmp 17),(2,.tmp 18),(3,.const (.int .i64 7))]) rfl (j2 1 4 7)) ?_;refine U0 ?_;intro w b4 F4 D8 hb hT L1;refine L.pu 0 [.int .i64 1,.int .i64 0,.int .i64 4,.int .i64 7] #[.int .i64 1,.int .i64 0,.int .i64 4,.int .i64 7] M1 L1 (fun w D1 hg n2=>?_);refine U1 ?_;intro hb hT L1;refine L.va (G0 (cs:=[.int .i64 1,.int .i64 0,.int .i64 4,.int .i64 7]) rfl underlying52 rfl M1 rfl (L1.J1 rfl)) ?_;refine L.call (M0 rfl func37 rfl e5 rfl) (Z1 (⟨1,0,4,7⟩:L2) false (by simp[G8]) _) ?_;rintro _ w ⟨rfl,I1⟩;refine U5 ?_;intro hb hT;refine U129 ?_;refine L.va (V0 (parts:=[(0,.tmp 17),(2,.tmp 18),(3,.const (.int .i64 7))]) rfl (j2 1 5 7)) ?_;refine U0 ?_;intro w b4 F4 D8 hb hT L1;refine L.pu 0 [.int .i64 1,.int .i64 0,.int .i64 5,.int .i64 7] #[.int .i64 1,.int .i64 0,.int .i64 5,.int .i64 7] M1 L1 (fun w D1 hg n2=>?_);refine U1 ?_;intro hb hT L1;refine L.va (G0 (cs:=[.int .i64 1,.int .i64 0,.int .i64 5,.int .i64 7]) rfl underlying52 rfl M1 rfl (L1.J1 rfl)) ?_;refine L.call (M0 rfl func37 rfl e5 rfl) (Z1 (⟨1,0,5,7⟩:L2) false (by simp[G8]) _) ?_;rintro _ w ⟨rfl,I1⟩;refine U5 ?_;intro hb hT;refine U133 ?_;refine L.va (V0 (parts:=[(0,.tmp 17),(2,.tmp 18),(3,.const (.int .i64 7))]) rfl (j2 1 6 7)) ?_;refine U0 ?_;intro w b4 F4 D8 hb hT L1;refine L.pu 0 [.int .i64 1,.int .i64 0,.int .i64 6,.int .i64 7] #[.int .i64 1,.int .i64 0,.int .i64 6,.int .i64 7] M1 L1 (fun w D1 hg n2=>?_);refine U1 ?_;intro hb hT L1;refine L.va (G0 (cs:=[.int .i64 1,.int .i64 0,.int .i64 6,.int .i64 7]) rfl underlying52 rfl M1 rfl (L1.J1 rfl)) ?_;refine L.call (M0 rfl func37 rfl e5 rfl) (Z1 (⟨1,0,6,7⟩:L2) false (by simp[G8]) _) ?_;rintro _ w ⟨rfl,I1⟩;refine U5 ?_;intro hb hT;refine U136 ?_;refine L.va (V0 (parts:=[(0,.tmp 17),(2,.tmp 18),(3,.const (.int .i64 7))]) rfl (j2 1 7 7)) ?_;refine U0 ?_;intro w b4 F4 D8 hb hT L1;refine L.pu 0 [.int .i64 1,.int .i64 0,.int .i64 7,.int .i64 7] #[.int .i64 1,.int .i64 0,.int .i64 7,.int .i64 7] M1 L1 (fun w D1 hg n2=>?_);refine U1 ?_;intro hb hT L1;refine L.va (G0 (cs:=[.int .i64 1,.int .i64 0,.int .i64 7,.int .i64 7]) rfl underlying52 rfl M1 rfl (L1.J1 rfl)) ?_;refine L.call (M0 rfl func37 rfl e5 rfl) (Z1 (⟨1,0,7,7⟩:L2) false (by simp[G8]) _) ?_;rintro _ w ⟨rfl,I1⟩;refine U5 ?_;intro hb hT;refine U137 ?_;refine L.va (V0 (parts:=[(0,.tmp 17),(2,.tmp 18),(3,.const (.int .i64 7))]) rfl (j2 1 8 7)) ?_;refine U0 ?_;intro w b4 F4 D8 hb hT L1;refine L.pu 0 [.int .i64 1,.int .i64 0,.int .i64 8,.int .i64 7] #[.int .i64 1,.int .i64 0,.int .i64 8,.int .i64 7] M1 L1 (fun w D1 hg n2=>?_);refine U1 ?_;intro hb hT L1;refine L.va (G0 (cs:=[.int .i64 1,.int .i64 0,.int .i64 8,.int .i64 7]) rfl underlying52 rfl M1 rfl (L1.J1 rfl)) ?_;refine L.call (M0 rfl func37 rfl e5 rfl) (Z1 (⟨1,0,8,7⟩:L2) false (by simp[G8]) _) ?_;rintro _ w ⟨rfl,I1⟩;refine U5 ?_;intro hb hT;refine U135 ?_;refine L.va (V0 (parts:=[(0,.tmp 17),(2,.tmp 18),(3,.const (.int .i64 7))]) rfl (j2 1 9 7)) ?_;refine U0 ?_;intro w b4 F4 D8 hb hT L1;refine L.pu 0 [.int .i64 1,.int .i64 0,.int .i64 9,.int .i64 7] #[.int .i64 1,.int .i64 0,.int .i64 9,.int .i64 7] M1 L1 (fun w D1 hg n2=>?_);refine U1 ?_;intro hb hT L1;refine L.va (G0 (cs:=[.int .i64 1,.int .i64 0,.int .i64 9,.int .i64 7]) rfl underlying52 rfl M1 rfl (L1.J1 rfl)) ?_;refine L.call (M0 rfl func37 rfl e5 rfl) (Z1 (⟨1,0,9,7⟩:L2) false (by simp[G8]) _) ?_;rintro _ w ⟨rfl,I1⟩;refine U5 ?_;intro hb hT;refine U140 ?_;refine U236 ?_;refine L.va (B2 (r:=true) (by decide) (D7 (m:=2) (k:=5) rfl rfl)) ?_;refine U141 ?_;refine L.va (V0 (parts:=[(0,.tmp 17),(2,.tmp 18),(3,.const (.int .i64 7))]) rfl (j2 2 1 7)) ?_;refine U0 ?_;intro w b4 F4 D8 hb hT L1;refine L.pu 0 [.int .i64 2,.int .i64 0,.int .i64 1,.int .i64 7] #[.int .i64 2,.int .i64 0,.int .i64 1,.int .i64 7] M1 L1 (fun w D1 hg n2=>?_);refine U1 ?_;intro hb hT L1;refine L.va (G0 (cs:=[.int .i64 2,.int .i64 0,.int .i64 1,.int .i64 7]) rfl underlying52 rfl M1 rfl (L1.J1 rfl)) ?_;refine L.call (M0 rfl func37 rfl e5 rfl) (Z1 (⟨2,0,1,7⟩:L2) true (by simp[G8]) _) ?_;rintro _ w ⟨rfl,I1⟩;refine U20 ?_;intro hb hT L1;refine L.va (G0 (cs:=[.int .i64 2,.int .i64 0,.int .i64 1,.int .i64 7]) rfl underlying52 rfl M1 rfl (L1.J1 rfl)) ?_;refine L.on rfl ?_;refine L.call (L3 rfl rfl rfl func39 rfl go0 rfl) (yn0 b8 _ hT) ?_;rintro _ w ⟨rfl,I1⟩;refine U29 ?_;intro hb hT;refine U132 ?_;refine L.va (V0 (parts:=[(0,.tmp 17),(2,.tmp 18),(3,.const (.int .i64 7))]) rfl (j2 2 2 7)) ?_;refine U0 ?_;intro w b4 F4 D8 hb hT L1;refine L.pu 0 [.int .i64 2,.int .i64 0,.int .i64 2,.int .i64 7] #[.int .i64 2,.int .i64 0,.int .i64 2,.int .i64 7] M1 L1 (fun w D1 hg n2=>?_);refine U1 ?_;intro hb hT L1;refine L.va (G0 (cs:=[.int .i64 2,.int .i64 0,.int .i64 2,.int .i64 7]) rfl underlying52 rfl M1 rfl (L1.J1 rfl)) ?_;refine L.call (M0 rfl func37 rfl e5 rfl) (Z1 (⟨2,0,2,7⟩:L2) true (by simp[G8]) _) ?_;rintro _ w ⟨rfl,I1⟩;refine U20 ?_;intro hb hT L1;refine L.va (G0 (cs:=[.int .i64 2,.int .i64 0,.int .i64 2,.int .i64 7]) rfl underlying52 rfl M1 rfl (L1.J1 rfl)) ?_;refine L.on rfl ?_;refine L.call (L3 rfl rfl rfl func39 rfl go0 rfl) (yo0 b8 _ hT) ?_;rintro _ w ⟨rfl,I1⟩;refine U29 ?_;intro hb hT;refine U131 ?_;refine L.va (V0 (parts:=[(0,.tmp 17),(2,.tmp 18),(3,.const (.int .i64 7))]) rfl (j2 2 3 7)) ?_;refine U0 ?_;intro w b4 F4 D8 hb hT L1;refine L.pu 0 [.int .i64 2,.int .i64 0,.int .i64 3,.int .i64 7] #[.int .i64 2,.int .i64 0,.int .i64 3,.int .i64 7] M1 L1 (fun w D1 hg n2=>?_);refine U1 ?_;intro hb hT L1;refine L.va (G0 (cs:=[.int .i64 2,.int .i64 0,.int .i64 3,.int .i64 7]) rfl underlying52 rfl M1 rfl (L1.J1 rfl)) ?_;refine L.call (M0 rfl func37 rfl e5 rfl) (Z1 (⟨2,0,3,7⟩:L2) true (by simp[G8]) _) ?_;rintro _ w ⟨rfl,I1⟩;refine U20 ?_;intro hb hT L1;refine L.va (G0 (cs:=[.int .i64 2,.int .i64 0,.int .i64 3,.int .i64 7]) rfl underlying52 rfl M1 rfl (L1.J1 rfl)) ?_;refine L.on rfl ?_;refine L.call (L3 rfl rfl rfl func39 rfl go0 rfl) (yp0 b8 _ hT) ?_;rintro _ w ⟨rfl,I1⟩;refine U29 ?_;intro hb hT;refine U130 ?_;refine L.va (V0 (parts:=[(0,.tmp 17),(2,.tmp 18),(3,.const (.int .i64 7))]) rfl (j2 2 4 7)) ?_;refine U0 ?_;intro w b4 F4 D8 hb hT L1;refine L.pu 0 [.int .i64 2,.int .i64 0,.int .i64 4,.int .i64 7] #[.int .i64 2,.int .i64 0,.int .i64 4,.int .i64 7] M1 L1 (fun w D1 hg n2=>?_);refine U1 ?_;intro hb hT L1;refine L.va (G0 (cs:=[.int .i64 2,.int .i64 0,.int .i64 4,.int .i64 7]) rfl underlying52 rfl M1 rfl (L1.J1 rfl)) ?_;refine L.call (M0 rfl func37 rfl e5 rfl) (Z1 (⟨2,0,4,7⟩:L2) true (by simp[G8]) _) ?_;rintro _ w ⟨rfl,I1⟩;refine U20 ?_;intro hb hT L1;refine L.va (G0 (cs:=[.int .i64 2,.int .i64 0,.int .i64 4,.int .i64 7]) rfl underlying52 rfl M1 rfl (L1.J1 rfl)) ?_;refine L.on rfl ?_;refine L.call (L3 rfl rfl rfl func39 rfl go0 rfl) (yq0 b8 _ hT) ?_;rintro _ w ⟨rfl,I1⟩;refine U29 ?_;intro hb hT;refine U129 ?_;refine L.va (V0 (parts:=[(0,.tmp 17),(2,.tmp 18),(3,.const (.int .i64 7))]) rfl (j2 2 5 7)) ?_;refine U0 ?_;intro w b4 F4 D8 hb hT L1;refine L.pu 0 [.int .i64 2,.int .i64 0,.int .i64 5,.int .i64 7] #[.int .i64 2,.int .i64 0,.int .i64 5,.int .i64 7] M1 L1 (fun w D1 hg n2=>?_);refine U1 ?_;intro hb hT L1;refine L.va (G0 (cs:=[.int .i64 2,.int .i64 0,.int .i64 5,.int .i64 7]) rfl underlying52 rfl M1 rfl (L1.J1 rfl)) ?_;refine L.call (M0 rfl func37 rfl e5 rfl) (Z1 (⟨2,0,5,7⟩:L2) false (by simp[G8]) _) ?_;rintro _ w ⟨rfl,I1⟩;refine U5 ?_;intro hb hT;refine U133 ?_;refine L.va (V0 (parts:=[(0,.tmp 17),(2,.tmp 18),(3,.const (.int .i64 7))]) rfl (j2 2 6 7)) ?_;refine U0 ?_;intro w b4 F4 D8 hb hT L1;refine L.pu 0 [.int .i64 2,.int .i64 0,.int .i64 6,.int .i64 7] #[.int .i64 2,.int .i64 0,.int .i64 6,.int .i64 7] M1 L1 (fun w D1 hg n2=>?_);refine U1 ?_;intro hb hT L1;refine L.va (G0 (cs:=[.int .i64 2,.int .i64 0,.int .i64 6,.int .i64 7]) rfl underlying52 rfl M1 rfl (L1.J1 rfl)) ?_;refine L.call (M0 rfl func37 rfl e5 rfl) (Z1 (⟨2,0,6,7⟩:L2) false (by simp[G8]) _) ?_;rintro _ w ⟨rfl,I1⟩;refine U5 ?_;intro hb hT;refine U136 ?_;refine L.va (V0 (parts:=[(0,.tmp 17),(2,.tmp 18),(3,.const (.int .i64 7))]) rfl (j2 2 7 7)) ?_;refine U0 ?_;intro w b4 F4 D8 hb hT L1;refine L.pu 0 [.int .i64 2,.int .i64 0,.int .i64 7,.int .i64 7] #[.int .i64 2,.int .i64 0,.int .i64 7,.int .i64 7] M1 L1 (fun w D1 hg n2=>?_);refine U1 ?_;intro hb hT L1;refine L.va (G0 (cs:=[.int .i64 2,.int .i64 0,.int .i64 7,.int .i64 7]) rfl underlying52 rfl M1 rfl (L1.J1 rfl)) ?_;refine L.call (M0 rfl func37 rfl e5 rfl) (Z1 (⟨2,0,7,7⟩:L2) false (by simp[G8]) _) ?_;rintro _ w ⟨rfl,I1⟩;refine U5 ?_;intro hb hT;refine U137 ?_;refine L.va (V0 (parts:=[(0,.tmp 17),(2,.tmp 18),(3,.const (.int .i64 7))]) rfl (j2 2 8 7)) ?_;refine U0 ?_;intro w b4 F4 D8 hb hT L1;refine L.pu 0 [.int .i64 2,.int .i64 0,.int .i64 8,.int .i64 7] #[.int .i64 2,.int .i64 0,.int .i64 8,.int .i64 7] M1 L1 (fun w D1 hg n2=>?_);refine U1 ?_;intro hb hT L1;refine L.va (G0 (cs:=[.int .i64 2,.int .i64 0,.int .i64 8,.int .i64 7]) rfl underlying52 rfl M1 rfl (L1.J1 rfl)) ?_;refine L.call (M0 rfl func37 rfl e5 rfl) (Z1 (⟨2,0,8,7⟩:L2) false (by simp[G8]) _) ?_;rintro _ w ⟨rfl,I1⟩;refine U5 ?_;intro hb hT;refine U135 ?_;refine L.va (V0 (parts:=[(0,.tmp 17),(2,.tmp 18),(3,.const (.int .i64 7))]) rfl (j2 2 9 7)) ?_;refine U0 ?_;intro w b4 F4 D8 hb hT L1;refine L.pu 0 [.int .i64 2,.int .i64 0,.int .i64 9,.int .i64 7] #[.int .i64 2,.int .i64 0,.int .i64 9,.int .i64 7] M1 L1 (fun w D1 hg n2=>?_);refine U1 ?_;intro hb hT L1;refine L.va (G0 (cs:=[.int .i64 2,.int .i64 0,.int .i64 9,.int .i64 7]) rfl underlying52 rfl M1 rfl (L1.J1 rfl)) ?_;refine L.call (M0 rfl func37 rfl e5 rfl) (Z1 (⟨2,0,9,7⟩:L2) false (by simp[G8]) _) ?_;rintro _ w ⟨rfl,I1⟩;refine U5 ?_;intro hb hT;refine U140 ?_;refine U334 ?_;refine L.va (B2 (r:=true) (by decide) (D7 (m:=3) (k:=5) rfl rfl)) ?_;refine U141 ?_;refine L.va (V0 (parts:=[(0,.tmp 17),(2,.tmp 18),(3,.const (.int .i64 7))]) rfl (j2 3 1 7)) ?_;refine U0 ?_;intro w b4 F4 D8 hb hT L1;refine L.pu 0 [.int .i64 3,.int .i64 0,.int .i64 1,.int .i64 7] #[.int .i64 3,.int .i64 0,.int .i64 1,.int .i64 7] M1 L1 (fun w D1 hg n2=>?_);refine U1 ?_;intro hb hT L1;refine L.va (G0 (cs:=[.int .i64 3,.int .i64 0,.int .i64 1,.int .i64 7]) rfl underlying52 rfl M1 rfl (L1.J1 rfl)) ?_;refine L.call (M0 rfl func37 rfl e5 rfl) (Z1 (⟨3,0,1,7⟩:L2) false (by simp[G8]) _) ?_;rintro _ w ⟨rfl,I1⟩;refine U5 ?_;intro hb hT;refine U132 ?_;refine L.va (V0 (parts:=[(0,.tmp 17),(2,.tmp 18),(3,.const (.int .i64 7))]) rfl (j2 3 2 7)) ?_;refine U0 ?_;intro w b4 F4 D8 hb hT L1;refine L.pu 0 [.int .i64 3,.int .i64 0,.int .i64 2,.int .i64 7] #[.int .i64 3,.int .i64 0,.int .i64 2,.int .i64 7] M1 L1 (fun w D1 hg n2=>?_);refine U1 ?_;intro hb hT L1;refine L.va (G0 (cs:=[.int .i64 3,.int .i64 0,.int .i64 2,.int .i64 7]) rfl underlying52 rfl M1 rfl (L1.J1 rfl)) ?_;refine L.call (M0 rfl func37 rfl e5 rfl) (Z1 (⟨3,0,2,7⟩:L2) false (by simp[G8]) _) ?_;rintro _ w ⟨rfl,I1⟩;refine U5 ?_;intro hb hT;refine U131 ?_;refine L.va (V0 (parts:=[(0,.tmp 17),(2,.tmp 18),(3,.const (.int .i64 7))]) rfl (j2 3 3 7)) ?_;refine U0 ?_;intro w b4 F4 D8 hb hT L1;refine L.pu 0 [.int .i64 3,.int .i64 0,.int .i64 3,.int .i64 7] #[.int .i64 3,.int .i64 0,.int .i64 3,.int .i64 7] M1 L1 (fun w D1 hg n2=>?_);refine U1 ?_;intro hb hT L1;refine L.va (G0 (cs:=[.int .i64 3,.int .i64 0,.int .i64 3,.int .i64 7]) rfl underlying52 rfl M1 rfl (L1.J1 rfl)) ?_;refine L.call (M0 rfl func37 rfl e5 rfl) (Z1 (⟨3,0,3,7⟩:L2) false (by simp[G8]) _) ?_;rintro _ w ⟨rfl,I1⟩;refine U5 ?_;intro hb hT;refine U130 ?_;refine L.va (V0 (parts:=[(0,.tmp 17),(2,.tmp 18),(3,.const (.int .i64 7))]) rfl (j2 3 4 7)) ?_;refine U0 ?_;intro w b4 F4 D8 hb hT L1;refine L.pu 0 [.int .i64 3,.int .i64 0,.int .i64 4,.int .i64 7] #[.int .i64 3,.int .i64 0,.int .i64 4,.int .i64 7] M1 L1 (fun w D1 hg n2=>?_);refine U1 ?_;intro hb hT L1;refine L.va (G0 (cs:=[.int .i64 3,.int .i64 0,.int .i64 4,.int .i64 7]) rfl underlying52 rfl M1 rfl (L1.J1 rfl)) ?_;refine L.call (M0 rfl func37 rfl e5 rfl) (Z1 (⟨3,0,4,7⟩:L2) false (by simp[G8]) _) ?_;rintro _ w ⟨rfl,I1⟩;refine U5 ?_;intro hb hT;refine U129 ?_;refine L.va (V0 (parts:=[(0,.tmp 17),(2,.tmp 18),(3,.const (.int .i64 7))]) rfl (j2 3 5 7)) ?_;refine U0 ?_;intro w b4 F4 D8 hb hT L1;refine L.pu 0 [.int .i64 3,.int .i64 0,.int .i64 5,.int .i64 7] #[.int .i64 3,.int .i64 0,.int .i64 5,.int .i64 7] M1 L1 (fun w D1 hg n2=>?_);refine U1 ?_;intro hb hT L1;refine L.va (G0 (cs:=[.int .i64 3,.int .i64 0,.int .i64 5,.int .i64 7]) rfl underlying52 rfl M1 rfl (L1.J1 rfl)) ?_;refine L.call (M0 rfl func37 rfl e5 rfl) (Z1 (⟨3,0,5,7⟩:L2) true (by simp[G8]) _) ?_;rintro _ w ⟨rfl,I1⟩;refine U20 ?_;intro hb hT L1;refine L.va (G0 (cs:=[.int .i64 3,.int .i64 0,.int .i64 5,.int .i64 7]) rfl underlying52 rfl M1 rfl (L1.J1 rfl)) ?_;refine L.on rfl ?_;refine L.call (L3 rfl rfl rfl func39 rfl go0 rfl) (yr0 b8 _ hT) ?_;rintro _ w ⟨rfl,I1⟩;refine U29 ?_;intro hb hT;refine U133 ?_;refine L.va (V0 (parts:=[(0,.tmp 17),(2,.tmp 18),(3,.const (.int .i64 7))]) rfl (j2 3 6 7)) ?_;refine U0 ?_;intro w b4 F4 D8 hb hT L1;refine L.pu 0 [.int .i64 3,.int .i64 0,.int .i64 6,.int .i64 7] #[.int .i64 3,.int .i64 0,.int .i64 6,.int .i64 7] M1 L1 (fun w D1 hg n2=>?_);refine U1 ?_;intro hb hT L1;refine L.va (G0 (cs:=[.int .i64 3,.int .i64 0,.int .i64 6,.int .i64 7]) rfl underlying52 rfl M1 rfl (L1.J1 rfl)) ?_;refine L.call (M0 rfl func37 rfl e5 rfl) (Z1 (⟨3,0,6,7⟩:L2) false (by simp[G8]) _) ?_;rintro _ w ⟨rfl,I1⟩;refine U5 ?_;intro hb hT;refine U136 ?_;refine L.va (V0 (parts:=[(0,.tmp 17),(2,.tmp 18),(3,.const (.int .i64 7))]) rfl (j2 3 7 7)) ?_;refine U0 ?_;intro w b4 F4 D8 hb hT L1;refine L.pu 0 [.int .i64 3,.int .i64 0,.int .i64 7,.int .i64 7] #[.int .i64 3,.int .i64 0,.int .i64 7,.int .i64 7] M1 L1 (fun w D1 hg n2=>?_);refine U1 ?_;intro hb hT L1;refine L.va (G0 (cs:=[.int .i64 3,.int .i64 0,.int .i64 7,.int .i64 7]) rfl underlying52 rfl M1 rfl (L1.J1 rfl)) ?_;refine L.call (M0 rfl func37 rfl e5 rfl) (Z1 (⟨3,0,7,7⟩:L2) true (by simp[G8]) _) ?_;rintro _ w ⟨rfl,I1⟩;refine U20 ?_;intro hb hT L1;refine L.va (G0 (cs:=[.int .i64 3,.int .i64 0,.int .i64 7,.int .i64 7]) rfl underlying52 rfl M1 rfl (L1.J1 rfl)) ?_;refine L.on rfl ?_;refine L.call (L3 rfl rfl rfl func39 rfl go0 rfl) (ys0 b8 _ hT) ?_;rintro _ w ⟨rfl,I1⟩;refine U29 ?_;intro hb hT;refine U137 ?_;refine L.va (V0 (parts:=[(0,.tmp 17),(2,.tmp 18),(3,.const (.int .i64 7))]) rfl (j2 3 8 7)) ?_;refine U0 ?_;intro w b4 F4 D8 hb hT L1;refine L.pu 0 [.int .i64 3,.int .i64 0,.int .i64 8,.int .i64 7] #[.int .i64 3,.int .i64 0,.int .i64 8,.int .i64 7] M1 L1 (fun w D1 hg n2=>?_);refine U1 ?_;intro hb hT L1;refine L.va (G0 (cs:=[.int .i64 3,.int .i64 0,.int .i64 8,.int .i64 7]) rfl underlying52 rfl M1 rfl (L1.J1 rfl)) ?_;refine L.call (M0 rfl func37 rfl e5 rfl) (Z1 (⟨3,0,8,7⟩:L2) false (by simp[G8]) _) ?_;rintro _ w ⟨rfl,I1⟩;refine U5 ?_;intro hb hT;refine U135 ?_;refine L.va (V0 (parts:=[(0,.tmp 17),(2,.tmp 18),(3,.const (.int .i64 7))]) rfl (j2 3 9 7)) ?_;refine U0 ?_;intro w b4 F4 D8 hb hT L1;refine L.pu 0 [.int .i64 3,.int .i64 0,.int .i64 9,.int .i64 7] #[.int .i64 3,.int .i64 0,.int .i64 9,.int .i64 7] M1 L1 (fun w D1 hg n2=>?_);refine U1 ?_;intro hb hT L1;refine L.va (G0 (cs:=[.int .i64 3,.int .i64 0,.int .i64 9,.int .i64 7]) rfl underlying52 rfl M1 rfl (L1.J1 rfl)) ?_;refine L.call (M0 rfl func37 rfl e5 rfl) (Z1 (⟨3,0,9,7⟩:L2) false (by simp[G8]) _) ?_;rintro _ w ⟨rfl,I1⟩;refine U5 ?_;intro hb hT;refine U140 ?_;refine U336 ?_;refine L.va (B2 (r:=true) (by decide) (D7 (m:=4) (k:=5) rfl rfl)) ?_;refine U141 ?_;refine L.va (V0 (parts:=[(0,.tmp 17),(2,.tmp 18),(3,.const (.int .i64 7))]) rfl (j2 4 1 7)) ?_;refine U0 ?_;intro w b4 F4 D8 hb hT L1;refine L.pu 0 [.int .i64 4,.int .i64 0,.int .i64 1,.int .i64 7] #[.int .i64 4,.int .i64 0,.int .i64 1,.int .i64 7] M1 L1 (fun w D1 hg n2=>?_);refine U1 ?_;intro hb hT L1;refine L.va (G0 (cs:=[.int .i64 4,.int .i64 0,.int .i64 1,.int .i64 7]) rfl underlying52 rfl M1 rfl (L1.J1 rfl)) ?_;refine L.call (M0 rfl func37 rfl e5 rfl) (Z1 (⟨4,0,1,7⟩:L2) false (by simp[G8]) _) ?_;rintro _ w ⟨rfl,I1⟩;refine U5 ?_;intro hb hT;refine U132 ?_;refine L.va (V0 (parts:=[(0,.tmp 17),(2,.tmp 18),(3,.const (.int .i64 7))]) rfl (j2 4 2 7)) ?_;refine U0 ?_;intro w b4 F4 D8 hb hT L1;refine L.pu 0 [.int .i64 4,.int .i64 0,.int .i64 2,.int .i64 7] #[.int .i64 4,.int .i64 0,.int .i64 2,.int .i64 7] M1 L1 (fun w D1 hg n2=>?_);refine U1 ?_;intro hb hT L1;refine L.va (G0 (cs:=[.int .i64 4,.int .i64 0,.int .i64 2,.int .i64 7]) rfl underlying52 rfl M1 rfl (L1.J1 rfl)) ?_;refine L.call (M0 rfl func37 rfl e5 rfl) (Z1 (⟨4,0,2,7⟩:L2) false (by simp[G8]) _) ?_;rintro _ w ⟨rfl,I1⟩;refine U5 ?_;intro hb hT;refine U131 ?_;refine L.va (V0 (parts:=[(0,.tmp 17),(2,.tmp 18),(3,.const (.int .i64 7))]) rfl (j2 4 3 7)) ?_;refine U0 ?_;intro w b4 F4 D8 hb hT L1;refine L.pu 0 [.int .i64 4,.int .i64 0,.int .i64 3,.int .i64 7] #[.int .i64 4,.int .i64 0,.int .i64 3,.int .i64 7] M1 L1 (fun w D1 hg n2=>?_);refine U1 ?_;intro hb hT L1;refine L.va (G0 (cs:=[.int .i64 4,.int .i64 0,.int .i64 3,.int .i64 7]) rfl underlying52 rfl M1 rfl (L1.J1 rfl)) ?_;refine L.call (M0 rfl func37 rfl e5 rfl) (Z1 (⟨4,0,3,7⟩:L2) false (by simp[G8]) _) ?_;rintro _ w ⟨rfl,I1⟩;refine U5 ?_;intro hb hT;refine U130 ?_;refine L.va (V0 (parts:=[(0,.tmp 17),(2,.tmp 18),(3,.const (.int .i64 7))]) rfl (j2 4 4 7)) ?_;refine U0 ?_;intro w b4 F4 D8 hb hT L1;refine L.pu 0 [.int .i64 4,.int .i64 0,.int .i64 4,.int .i64 7] #[.int .i64 4,.int .i64 0,.int .i64 4,.int .i64 7] M1 L1 (fun w D1 hg n2=>?_);refine U1 ?_;intro hb hT L1;refine L.va (G0 (cs:=[.int .i64 4,.int .i64 0,.int .i64 4,.int .i64 7]) rfl underlying52 rfl M1 rfl (L1.J1 rfl)) ?_;refine L.call (M0 rfl func37 rfl e5 rfl) (Z1 (⟨4,0,4,7⟩:L2) false (by simp[G8]) _) ?_;rintro _ w ⟨rfl,I1⟩;refine U5 ?_;intro hb hT;refine U129 ?_;refine L.va (V0 (parts:=[(0,.tmp 17),(2,.tmp 18),(3,.const (.int .i64 7))]) rfl (j2 4 5 7)) ?_;refine U0 ?_;intro w b4 F4 D8 hb hT L1;refine L.pu 0 [.int .i64 4,.int .i64 0,.int .i64 5,.int .i64 7] #[.int .i64 4,.int .i64 0,.int .i64 5,.int .i64 7] M1 L1 (fun w D1 hg n2=>?_);refine U1 ?_;intro hb hT L1;refine L.va (G0 (cs:=[.int .i64 4,.int .i64 0,.int .i64 5,.int .i64 7]) rfl underlying52 rfl M1 rfl (L1.J1 rfl)) ?_;refine L.call (M0 rfl func37 rfl e5 rfl) (Z1 (⟨4,0,5,7⟩:L2) true (by simp[G8]) _) ?_;rintro _ w ⟨rfl,I1⟩;refine U20 ?_;intro hb hT L1;refine L.va (G0 (cs:=[.int .i64 4,.int .i64 0,.int .i64 5,.int .i64 7]) rfl underlying52 rfl M1 rfl (L1.J1 rfl)) ?_;refine L.on rfl ?_;refine L.call (L3 rfl rfl rfl func39 rfl go0 rfl) (yt0 b8 _ hT) ?_;rintro _ w ⟨rfl,I1⟩;refine U29 ?_;intro hb hT;refine U133 ?_;refine L.va (V0 (parts:=[(0,.tmp 17),(2,.tmp 18),(3,.const (.int .i64 7))]) rfl (j2 4 6 7)) ?_;refine U0 ?_;intro w b4 F4 D8 hb hT L1;refine L.pu 0 [.int .i64 4,.int .i64 0,.int .i64 6,.int .i64 7] #[.int .i64 4,.int .i64 0,.int .i64 6,.int .i64 7] M1 L1 (fun w D1 hg n2=>?_);refine U1 ?_;intro hb hT L1;refine L.va (G0 (cs:=[.int .i64 4,.int .i64 0,.int .i64 6,.int .i64 7]) rfl underlying52 rfl M1 rfl (L1.J1 rfl)) ?_;refine L.call (M0 rfl func37 rfl e5 rfl) (Z1 (⟨4,0,6,7⟩:L2) true (by simp[G8]) _) ?_;rintro _ w ⟨rfl,I1⟩;refine U20 ?_;intro hb hT L1;refine L.va (G0 (cs:=[.int .i64 4,.int .i64 0,.int .i64 6,.int .i64 7]) rfl underlying52 rfl M1 rfl (L1.J1 rfl)) ?_;refine L.on rfl ?_;refine L.call (L3 rfl rfl rfl func39 rfl go0 rfl) (yu0 b8 _ hT) ?_;rintro _ w ⟨rfl,I1⟩;refine U29 ?_;intro hb hT;refine U136 ?_;refine L.va (V0 (parts:=[(0,.tmp 17),(2,.tmp 18),(3,.const (.int .i64 7))]) rfl (j2 4 7 7)) ?_;refine U0 ?_;intro w b4 F4 D8 hb hT L1;refine L.pu 0 [.int .i64 4,.int .i64 0,.int .i64 7,.int .i64 7] #[.int .i64 4,.int .i64 0,.int .i64 7,.int .i64 7] M1 L1 (fun w D1 hg n2=>?_);refine U1 ?_;intro hb hT L1;refine L.va (G0 (cs:=[.int .i64 4,.int .i64 0,.int .i64 7,.int .i64 7]) rfl underlying52 rfl M1 rfl (L1.J1 rfl)) ?_;refine L.call (M0 rfl func37 rfl e5 rfl) (Z1 (⟨4,0,7,7⟩:L2) false (by simp[G8]) _) ?_;rintro _ w ⟨rfl,I1⟩;refine U5 ?_;intro hb hT;refine U137 ?_;refine L.va (V0 (parts:=[(0,.tmp 17),(2,.tmp 18),(3,.const (.int .i64 7))]) rfl (j2 4 8 7)) ?_;refine U0 ?_;intro w b4 F4 D8 hb hT L1;refine L.pu 0 [.int .i64 4,.int .i64 0,.int .i64 8,.int .i64 7] #[.int .i64 4,.int .i64 0,.int .i64 8,.int .i64 7] M1 L1 (fun w D1 hg n2=>?_);refine U1 ?_;intro hb hT L1;refine L.va (G0 (cs:=[.int .i64 4,.int .i64 0,.int .i64 8,.int .i64 7]) rfl underlying52 rfl M1 rfl (L1.J1 rfl)) ?_;refine L.call (M0 rfl func37 rfl e5 rfl) (Z1 (⟨4,0,8,7⟩:L2) false (by simp[G8]) _) ?_;rintro _ w ⟨rfl,I1⟩;refine U5 ?_;intro hb hT;refine U135 ?_;refine L.va (V0 (parts:=[(0,.tmp 17),(2,.tmp 18),(3,.const (.int .i64 7))]) rfl (j2 4 9 7)) ?_;refine U0 ?_;intro w b4 F4 D8 hb hT L1;refine L.pu 0 [.int .i64 4,.int .i64 0,.int .i64 9,.int .i64 7] #[.int .i64 4,.int .i64 0,.int .i64 9,.int .i64 7] M1 L1 (fun w D1 hg n2=>?_);refine U1 ?_;intro hb hT L1;refine L.va (G0 (cs:=[.int .i64 4,.int .i64 0,.int .i64 9,.int .i64 7]) rfl underlying52 rfl M1 rfl (L1.J1 rfl)) ?_;refine L.call (M0 rfl func37 rfl e5 rfl) (Z1 (⟨4,0,9,7⟩:L2) false (by simp[G8]) _) ?_;rintro _ w ⟨rfl,I1⟩;refine U5 ?_;intro hb hT;refine U140 ?_;refine U333 ?_;refine L.va (B2 (r:=true) (by decide) (D7 (m:=5) (k:=5) rfl rfl)) ?_;refine U141 ?_;refine L.va (V0 (parts:=[(0,.tmp 17),(2,.tmp 18),(3,.const (.int .i64 7))]) rfl (j2 5 1 7)) ?_;refine U0 ?_;intro w b4 F4 D8 hb hT L1;refine L.pu 0 [.int .i64 5,.int .i64 0,.int .i64 1,.int .i64 7] #[.int .i64 5,.int .i64 0,.int .i64 1,.int .i64 7] M1 L1 (fun w D1 hg n2=>?_);refine U1 ?_;intro hb hT L1;refine L.va (G0 (cs:=[.int .i64 5,.int .i64 0,.int .i64 1,.int .i64 7]) rfl underlying52 rfl M1 rfl (L1.J1 rfl)) ?_;refine L.call (M0 rfl func37 rfl e5 rfl) (Z1 (⟨5,0,1,7⟩:L2) false (by simp[G8]) _) ?_;rintro _ w ⟨rfl,I1⟩;refine U5 ?_;intro hb hT;refine U132 ?_;refine L.va (V0 (parts:=[(0,.tmp 17),(2,.tmp 18),(3,.const (.int .i64 7))]) rfl (j2 5 2 7)) ?_;refine U0 ?_;intro w b4 F4 D8 hb hT L1;refine L.pu 0 [.int .i64 5,.int .i64 0,.int .i64 2,.int .i64 7] #[.int .i64 5,.int .i64 0,.int .i64 2,.int .i64 7] M1 L1 (fun w D1 hg n2=>?_);refine U1 ?_;intro hb hT L1;refine L.va (G0 (cs:=[.int .i64 5,.int .i64 0,.int .i64 2,.int .i64 7]) rfl underlying52 rfl M1 rfl (L1.J1 rfl)) ?_;refine L.call (M0 rfl func37 rfl e5 rfl) (Z1 (⟨5,0,2,7⟩:L2) false (by simp[G8]) _) ?_;rintro _ w ⟨rfl,I1⟩;refine U5 ?_;intro hb hT;refine U131 ?_;refine L.va (V0 (parts:=[(0,.tmp 17),(2,.tmp 18),(3,.const (.int .i64 7))]) rfl (j2 5 3 7)) ?_;refine U0 ?_;intro w b4 F4 D8 hb hT L1;refine L.pu 0 [.int .i64 5,.int .i64 0,.int .i64 3,.int .i64 7] #[.int .i64 5,.int .i64 0,.int .i64 3,.int .i64 7] M1 L1 (fun w D1 hg n2=>?_);refine U1 ?_;intro hb hT L1;refine L.va (G0 (cs:=[.int .i64 5,.int .i64 0,.int .i64 3,.int .i64 7]) rfl underlying52 rfl M1 rfl (L1.J1 rfl)) ?_;refine L.call (M0 rfl func37 rfl e5 rfl) (Z1 (⟨5,0,3,7⟩:L2) false (by simp[G8]) _) ?_;rintro _ w ⟨rfl,I1⟩;refine U5 ?_;intro hb hT;refine U130 ?_;refine L.va (V0 (parts:=[(0,.tmp 17),(2,.tmp 18),(3,.const (.int .i64 7))]) rfl (j2 5 4 7)) ?_;refine U0 ?_;intro w b4 F4 D8 hb hT L1;refine L.pu 0 [.int .i64 5,.int .i64 0,.int .i64 4,.int .i64 7] #[.int .i64 5,.int .i64 0,.int .i64 4,.int .i64 7] M1 L1 (fun w D1 hg n2=>?_);refine U1 ?_;intro hb hT L1;refine L.va (G0 (cs:=[.int .i64 5,.int .i64 0,.int .i64 4,.int .i64 7]) rfl underlying52 rfl M1 rfl (L1.J1 rfl)) ?_;refine L.call (M0 rfl func37 rfl e5 rfl) (Z1 (⟨5,0,4,7⟩:L2) false (by simp[G8]) _) ?_;rintro _ w ⟨rfl,I1⟩;refine U5 ?_;intro hb hT;refine U129 ?_;refine L.va (V0 (parts:=[(0,.tmp 17),(2,.tmp 18),(3,.const (.int .i64 7))]) rfl (j2 5 5 7)) ?_;refine U0 ?_;intro w b4 F4 D8 hb hT L1;refine L.pu 0 [.int .i64 5,.int .i64 0,.int .i64 5,.int .i64 7] #[.int .i64 5,.int .i64 0,.int .i64 5,.int .i64 7] M1 L1 (fun w D1 hg n2=>?_);refine U1 ?_;intro hb hT L1;refine L.va (G0 (cs:=[.int .i64 5,.int .i64 0,.int .i64 5,.int .i64 7]) rfl underlying52 rfl M1 rfl (L1.J1 rfl)) ?_;refine L.call (M0 rfl func37 rfl e5 rfl) (Z1 (⟨5,0,5,7⟩:L2) false (by simp[G8]) _) ?_;rintro _ w ⟨rfl,I1⟩;refine U5 ?_;intro hb hT;refine U133 ?_;refine L.va (V0 (parts:=[(0,.tmp 17),(2,.tmp 18),(3,.const (.int .i64 7))]) rfl (j2 5 6 7)) ?_;refine U0 ?_;intro w b4 F4 D8 hb hT L1;refine L.pu 0 [.int .i64 5,.int .i64 0,.int .i64 6,.int .i64 7] #[.int .i64 5,.int .i64 0,.int .i64 6,.int .i64 7] M1 L1 (fun w D1 hg n2=>?_);refine U1 ?_;intro hb hT L1;refine L.va (G0 (cs:=[.int .i64 5,.int .i64 0,.int .i64 6,.int .i64 7]) rfl underlying52 rfl M1 rfl (L1.J1 rfl)) ?_;refine L.call (M0 rfl func37 rfl e5 rfl) (Z1 (⟨5,0,6,7⟩:L2) false (by simp[G8]) _) ?_;rintro _ w ⟨rfl,I1⟩;refine U5 ?_;intro hb hT;refine U136 ?_;refine L.va (V0 (parts:=[(0,.tmp 17),(2,.tmp 18),(3,.const (.int .i64 7))]) rfl (j2 5 7 7)) ?_;refine U0 ?_;intro w b4 F4 D8 hb hT L1;refine L.pu 0 [.int .i64 5,.int .i64 0,.int .i64 7,.int .i64 7] #[.int .i64 5,.int .i64 0,.int .i64 7,.int .i64 7] M1 L1 (fun w D1 hg n2=>?_);refine U1 ?_;intro hb hT L1;refine L.va (G0 (cs:=[.int .i64 5,.int .i64 0,.int .i64 7,.int .i64 7]) rfl underlying52 rfl M1 rfl (L1.J1 rfl)) ?_;refine L.call (M0 rfl func37 rfl e5 rfl) (Z1 (⟨5,0,7,7⟩:L2) false (by simp[G8]) _) ?_;rintro _ w ⟨rfl,I1⟩;refine U5 ?_;intro hb hT;refine U137 ?_;refine L.va (V0 (parts:=[(0,.tmp 17),(2,.tmp 18),(3,.const (.int .i64 7))]) rfl (j2 5 8 7)) ?_;refine U0 ?_;intro w b4 F4 D8 hb hT L1;refine L.pu 0 [.int .i64 5,.int .i64 0,.int .i64 8,.int .i64 7] #[.int .i64 5,.int .i64 0,.int .i64 8,.int .i64 7] M1 L1 (fun w D1 hg n2=>?_);refine U1 ?_;intro hb hT L1;refine L.va (G0 (cs:=[.int .i64 5,.int .i64 0,.int .i64 8,.int .i64 7]) rfl underlying52 rfl M1 rfl (L1.J1 rfl)) ?_;refine L.call (M0 rfl func37 rfl e5 rfl) (Z1 (⟨5,0,8,7⟩:L2) true (by simp[G8]) _) ?_;rintro _ w ⟨rfl,I1⟩;refine U20 ?_;intro hb hT L1;refine L.va (G0 (cs:=[.int .i64 5,.int .i64 0,.int .i64 8,.int .i64 7]) rfl underlying52 rfl M1 rfl (L1.J1 rfl)) ?_;refine L.on rfl ?_;refine L.call (L3 rfl rfl rfl func39 rfl go0 rfl) (yv0 b8 _ hT) ?_;rintro _ w ⟨rfl,I1⟩;refine U29 ?_;intro hb hT;refine U135 ?_;refine L.va (V0 (parts:=[(0,.tmp 17),(2,.tmp 18),(3,.const (.int .i64 7))]) rfl (j2 5 9 7)) ?_;refine U0 ?_;intro w b4 F4 D8 hb hT L1;refine L.pu 0 [.int .i64 5,.int .i64 0,.int .i64 9,.int .i64 7] #[.int .i64 5,.int .i64 0,.int .i64 9,.int .i64 7] M1 L1 (fun w D1 hg n2=>?_);refine U1 ?_;intro hb hT L1;refine L.va (G0 (cs:=[.int .i64 5,.int .i64 0,.int .i64 9,.int .i64 7]) rfl underlying52 rfl M1 rfl (L1.J1 rfl)) ?_;refine L.call (M0 rfl func37 rfl e5 rfl) (Z1 (⟨5,0,9,7⟩:L2) true (by simp[G8]) _) ?_;rintro _ w ⟨rfl,I1⟩;refine U20 ?_;intro hb hT L1;refine L.va (G0 (cs:=[.int .i64 5,.int .i64 0,.int .i64 9,.int .i64 7]) rfl underlying52 rfl M1 rfl (L1.J1 rfl)) ?_;refine L.on rfl ?_;refine L.call (L3 rfl rfl rfl func39 rfl go0 rfl) (yw0 b8 _ hT) ?_;rintro _ w ⟨rfl,I1⟩;have hb:=N0 hb I1;refine U407 ?_;refine U140 ?_;refine U335 ?_;refine L.va (B2 (r:=false) (by decide) (D7 (m:=6) (k:=5) rfl rfl)) ?_;refine U7 ?_;refine U288 ?_;refine U81 ?_;refine U27 ?_;refine L.va (Y2 rfl) ?_;refine L.call (Y6 rfl rfl rfl rfl func41 rfl Vn0 rfl) (Zy0 1 1 5 _) ?_;rintro _ w ⟨cb,rfl,lc,hC,I1⟩;have lc:=Nat.le_trans hb.size lc;have hb:=N0 hb I1;refine U27 ?_;refine L.va (Y2 rfl) ?_;refine L.call (L3 rfl rfl rfl func42 rfl Vo0 rfl) (aa1 cb 1 1 6 5 _ hC) ?_;rintro _ w ⟨D1,hg⟩;have B5:=Q7.ef0 hC hg;have hb:=I4 hb hb.size hg lc;have hC:=D1;refine U59 ?_;refine L.call (M0 rfl func33 rfl Vk0 rfl) (vy0 _) ?_;rintro _ w ⟨rfl,I1⟩;have hb:=N0 hb I1;have hC:=hC.E0 I1;refine U36 ?_;refine L.va (Y2 rfl) ?_;refine L.call (l3 rfl rfl func43 rfl Vp0 rfl) (Zz0 cb 1 1 6 _ hC) ?_;rintro _ w ⟨rfl,I1⟩;have hb:=N0 hb I1;refine L.va (B2 (r:=true) (by decide) (M4 (m:=6) (k:=6) rfl rfl)) ?_;refine U168 ?_;refine L.call (M0 rfl func44 rfl su0 rfl) (Ao0 _) ?_;rintro _ w1 ⟨rfl,hw⟩;refine U28 ?_;refine L.on rfl ?_;refine L.va (ov0 rfl) ?_;refine L.va (X6 rfl) ?_;refine U104 ?_;refine L.call (bq0  func10 rfl bb1 rfl) (Tb0 _) ?_;rintro _ w ⟨rfl,I1⟩;have hb:=N0 hb I1;refine U303 ?_;exact⟨rfl,hb⟩
end Go.Vy.Sc
end
