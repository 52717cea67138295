/- What the claim leans on, part 5. Laws. -/
import Derived.Test.YtnifpkopeheodaaGreatKP4
import Derived.ChangeKeysEq
set_option linter.unusedVariables false
section
namespace Go.Yc
open Go Go.Conc Go.Wg Go.Vy
open Go.Vc (Env upd j3 ev I4 W2 g7)
section
attribute [local irreducible] KK
abbrev PM:=List (Nat×Obj)
def lp0 (pm:PM) (b:Nat) (o:Obj):PM:=pm.map fun x=>if x.1=b then(b,o) else x
structure os0 (gr:j5) (L:m4) (pm:PM) (w:World):Prop where
 l3:∃st sm,m8 gr st sm w
 stay:∀p∈L,w.cell? p.1=some p.2
 own:∀x∈pm,w.heap[x.1]? =some x.2
def EvM (L:m4) (pm:PM) (e:Event):Prop:=∃a,e=⟨.cell a,false,false⟩/\((∃v,(a,v)∈L)\/∃o,(a.block,o)∈pm)
def MP (P:Program) (main:Bool) (gr:j5) (L:m4) (E:Nat->PM->Goroutine->Prop):Nat->PM->Goroutine->Prop
 |0,_,_=>False
 |n+1,pm,g=>E n pm g\/(g.status= .running/\(
   (∃g' es,g'.status= .running/\(∀e∈es,EvM L pm e)/\(∀w,os0 gr L pm w->stepG P main g w= .go g' w es)/\MP P main gr L E n pm g') \/
   (∃g' b cs T i v es,g'.status= .running/\(b,.cells cs T (0,0))∈pm/\(∀e∈es,e=⟨.cell ⟨b,i,none⟩,true,false⟩)/\(∀w,os0 gr L pm w->stepG P main g w= .go g' (w.setCell ⟨b,i,none⟩ v) es)/\MP P main gr L E n (lp0 pm b (.cells (cs.setIfInBounds i v) T (0,0))) g') \/
   ∃gf:Nat->Goroutine,∃cs T,(∀b,(gf b).status= .running)/\(∀w,stepG P main g w= .go (gf w.heap.size) (w.alloc (.cells cs T (0,0))) #[])/\∀b,MP P main gr L E n ((b,.cells cs T (0,0))::pm) (gf b)))
section
variable {P:Program}{main:Bool}{gr:j5}{L:m4}{E:Nat->PM->Goroutine->Prop}{pm:PM}
abbrev YM (P:Program) (main:Bool) (gr:j5) (L:m4) (E:Nat->PM->Goroutine->Prop) (pm:PM):Nat->Nat->Goroutine->Prop:=fun m d g=>d=0->MP P main gr L E m pm g
theorem R2:HF P main (fun _=>False) (YM P main gr L E pm) :=
 ⟨fun m d g g' es h1 h2 h3 h4 h5 hd=>.inr ⟨h1,.inl ⟨g',es,h2,fun e he=>(h3 e he).elim,fun w _=>h4 w,h5 (by
  have:es=#[]:=by
   obtain⟨l⟩:=es;cases l with
   |nil=>rfl
   |cons e l=>exact(h3 e (by simp)).elim
  subst this;exact hd)⟩⟩⟩
theorem lz1:StG P main gr (YM P main gr L E pm):=fun m d g g' h1 h2 h3 h4 hd=>.inr ⟨h1,.inl ⟨g',#[],h2,fun e he=>by simp at he,fun w hw=>by obtain⟨st,sm,h⟩:=hw.l3;exact h3 w st sm h,h4 hd⟩⟩
variable {ft n:Nat}{b:Frame}{cs:List Frame}{ds:List Deferred}{e:Env}{k:List Item}{ops:Array Oper}{i:Nat}{l:List Oper}{dst:Option Nat}{ty:TypeId}{ps:String}{af:Array Edge}{T:TypeId}{x y:Operand}
def Src (L:m4) (pm:PM) (p:Addr) (v:Value):Prop:=(p,v)∈L\/∃cs T,(p.block,.cells cs T (0,0))∈pm/\p.spot=none/\cs[p.off]? =some v
theorem Src.cell {p:Addr} {v:Value} {w:World} (h:Src L pm p v) (hw:os0 gr L pm w):w.cell? p=some v:=by
 rcases h with h|⟨cs,T,h1,h2,h3⟩
 ·exact hw.stay _ h
 ·have:=hw.own _ h1;unfold World.cell?;rw[this];simp[h2,h3]
theorem Src.evm {p:Addr} {v:Value} (h:Src L pm p v):EvM L pm ⟨.cell p,false,false⟩:=by
 rcases h with h|⟨cs,T,h1,_⟩
 ·exact⟨p,rfl,.inl ⟨v,h⟩⟩
 ·exact⟨p,rfl,.inr ⟨_,h1⟩⟩
theorem I0.Mk0 {g:Option (Nat×Bool)} {p:Addr} {v:Value} {u:TypeDesc} (hg:∀a,fe0 n a e ds->Region.wanted (⟨dst,.load T x,ty,ps,af,g⟩:Oper) (yielded ops a.tmps)=true) (hk:b.kind≠.early) (hd:I4 n dst=true) (hx:ev e x= .pointer (some p)) (hT:P.underlying T=some u) (hu:g7 u=true) (hp:Src L pm p v)
  (h:I0 (YM P main gr L E pm) ft n b cs ds 0 (j3 e dst v) ops (i+1) l k):I0 (YM P main gr L E pm) (ft+1) n b cs ds 0 e ops i (⟨dst,.load T x,ty,ps,af,g⟩::l) k:=by
 intro hl a ha _;obtain⟨ho,P5⟩:=J3 hl;refine .inr ⟨rfl,.inl ⟨_,seen P b.fn #[⟨.cell p,false,false⟩],rfl,fun ev' he=>?_,fun w C1=>?_,h P5 _ (ha.put hd v) rfl⟩⟩
 ·have:=mem_seen he;have:ev'=⟨.cell p,false,false⟩:=by simpa using this
  subst this;exact hp.evm
 ·have hc:=hp.cell C1;show stepG P main (G (b.at a (.inRegion ops (i::List.range' (i+1) l.length)::k)) cs) w=_;rw[stepG_value ho (hg a ha) hk (by rw[ha.eval];exact Go.Vc.A0 hx hT hu hc),listed];have he:∀es,(isAgg T).events P w es=es:=fun es=>by
   cases u <;> simp[isAgg,go_sem,run_underlying hT]
  have hq:(execOp a.eval ⟨dst,.load T x,ty,ps,af,g⟩).events P w #[]=#[⟨.cell p,false,false⟩]:=by
   rw[ha.eval];simp[execOp,Instr.loadAt,hx,Instr.sureAddr,loadVar,Go.Vc.W8 hT,hu,hc,he]
  rw[hq]
theorem I0.lq0 {p:Addr} {v:Value} {u:TypeDesc} (hk:b.kind≠.early) (hd:I4 n dst=true) (hx:ev e x= .pointer (some p)) (hT:P.underlying T=some u) (hu:g7 u=true) (hp:Src L pm p v)
  (h:I0 (YM P main gr L E pm) ft n b cs ds 0 (j3 e dst v) ops (i+1) l k):I0 (YM P main gr L E pm) (ft+1) n b cs ds 0 e ops i (⟨dst,.load T x,ty,ps,af,none⟩::l) k:=I0.Mk0 (fun _a _=>rfl) hk hd hx hT hu hp h
theorem I0.Yn0 {g:Nat×Bool} {p:Addr} {v:Value} {u:TypeDesc} (hk:b.kind≠.early) (hw:W2 ops e g.1=some g.2) (hd:I4 n dst=true) (hx:ev e x= .pointer (some p)) (hT:P.underlying T=some u) (hu:g7 u=true) (hp:Src L pm p v)
  (h:I0 (YM P main gr L E pm) ft n b cs ds 0 (j3 e dst v) ops (i+1) l k):I0 (YM P main gr L E pm) (ft+1) n b cs ds 0 e ops i (⟨dst,.load T x,ty,ps,af,some g⟩::l) k :=
 I0.Mk0 (fun a ha=>by rw[ha.yielded];simp[Region.wanted,hw]) hk hd hx hT hu hp h
theorem I0.fu1 {o:Oper} {cs0:List Value} {T0:TypeId} (hg:o.guard=none) (hk:b.kind≠.early) (hd:I4 n o.dst=true) (hr:∀w,(execOp (ev e) o).run P w= .ok (.value (.pointer (some ⟨w.heap.size,0,none⟩))) (w.alloc (.cells cs0.toArray T0 (0,0)))) (hv:∀w,(execOp (ev e) o).events P w #[]=#[])
  (h:∀bl,I0 (YM P main gr L E ((bl,.cells cs0.toArray T0 (0,0))::pm)) ft n b cs ds 0 (j3 e o.dst (.pointer (some ⟨bl,0,none⟩))) ops (i+1) l k):I0 (YM P main gr L E pm) (ft+1) n b cs ds 0 e ops i (o::l) k:=by
 intro hl a ha _;obtain⟨ho,P5⟩:=J3 hl;refine .inr ⟨rfl,.inr (.inr ⟨fun bl=>G (b.at (a.put o.dst (.pointer (some ⟨bl,0,none⟩))) (.inRegion ops (List.range' (i+1) l.length)::k)) cs,cs0.toArray,T0,fun _=>rfl,fun w=>?_,fun bl=>h bl P5 _ (ha.put hd _) rfl⟩)⟩;rw[show stepG P main (G (b.at a (.inRegion ops (List.range' i (o::l).length)::k)) cs) w=stepG P main (G (b.at a (.inRegion ops (i::List.range' (i+1) l.length)::k)) cs) w from rfl];rw[stepG_value ho (by obtain⟨d,op,ty,ps,af,g⟩:=o;cases hg;rfl) hk (by rw[ha.eval];exact hr w),listed,ha.eval,hv,seen_none]
theorem I0.fv1 {v:Value} {cs0:List Value} (hk:b.kind≠.early) (hd:I4 n dst=true) (hx:ev e x=v) (hc:v.cells=cs0.toArray)
  (h:∀bl,I0 (YM P main gr L E ((bl,.cells cs0.toArray T (0,0))::pm)) ft n b cs ds 0 (j3 e dst (.pointer (some ⟨bl,0,none⟩))) ops (i+1) l k):I0 (YM P main gr L E pm) (ft+1) n b cs ds 0 e ops i (⟨dst,.box T x,ty,ps,af,none⟩::l) k :=
 I0.fu1 rfl hk hd (fun w=>by rw[<- hc];exact Go.Vc.De0 hx) (fun w=>by simp[execOp,Instr.box,newVar,newRow,hx]) h
theorem I0.Yo0 {v:Value} {cs0:List Value} (hk:b.kind≠.early) (hd:I4 n dst=true) (hz:(P.info? T).bind (·.zero)=some v) (hc:v.cells=cs0.toArray)
  (h:∀bl,I0 (YM P main gr L E ((bl,.cells cs0.toArray T (0,0))::pm)) ft n b cs ds 0 (j3 e dst (.pointer (some ⟨bl,0,none⟩))) ops (i+1) l k):I0 (YM P main gr L E pm) (ft+1) n b cs ds 0 e ops i (⟨dst,.alloc T,ty,ps,af,none⟩::l) k :=
 I0.fu1 rfl hk hd (fun w=>by rw[<- hc];exact Go.Vc.io0 hz) (fun w=>by
  obtain⟨inf,hi,hz'⟩:=Option.bind_eq_some_iff.1 hz;simp[execOp,Instr.alloc,newVar,newRow,zeroValue,typeInfo,hi,hz',go_sem]) h
theorem I0.Ml0 {bl o:Nat} {v v0:Value} {cs0:Array Value} {T0:TypeId} (hk:b.kind≠.early) (hx:ev e x= .pointer (some ⟨bl,o,none⟩)) (hy:ev e y=v) (hs:(P.info? T).map (·.size)=some 1) (h1:v.oneCell'=true) (hm:(bl,.cells cs0 T0 (0,0))∈pm) (hc:cs0[o]? =some v0)
  (h:I0 (YM P main gr L E (lp0 pm bl (.cells (cs0.setIfInBounds o v) T0 (0,0)))) ft n b cs ds 0 e ops (i+1) l k):I0 (YM P main gr L E pm) (ft+1) n b cs ds 0 e ops i (⟨none,.store T x y,ty,ps,af,none⟩::l) k:=by
 intro hl a ha _;obtain⟨ho,P5⟩:=J3 hl;refine .inr ⟨rfl,.inr (.inl ⟨_,bl,cs0,T0,o,v,seen P b.fn #[⟨.cell ⟨bl,o,none⟩,true,false⟩],rfl,hm,fun ev' he=>?_,fun w C1=>?_,h P5 a ha rfl⟩)⟩
 ·have:=mem_seen he;simpa using this
 ·have hb:=C1.own _ hm;have ba0:w.cell? ⟨bl,o,none⟩=some v0:=by unfold World.cell?;rw[hb];simp[hc]
  have hfr:w.frozen? ⟨bl,o,none⟩=false:=by simp[World.frozen?,hb]
  show stepG P main (G (b.at a (.inRegion ops (i::List.range' (i+1) l.length)::k)) cs) w=_;rw[stepG_none ho (by rw[ha.yielded];rfl) hk (by rw[ha.eval];exact Go.Vc.md0 hx hy hs h1 ba0 hfr),listed];have hv:v.cells=#[v]:=by cases v <;> first|rfl|(simp[Value.oneCell']at h1)
  have ha0:(⟨bl,o,none⟩:Addr).add 0=⟨bl,o,none⟩:=by simp[Addr.add]
  have hq:(execOp a.eval ⟨none,.store T x y,ty,ps,af,none⟩).events P w #[]=#[⟨.cell ⟨bl,o,none⟩,true,false⟩]:=by
   rw[ha.eval];simp[execOp,Instr.storeAt,hx,hy,Instr.sureAddr,storeVar,Go.Vc.run_sizeOf hs,hv,storeCells,ha0,events_store P w #[] ⟨bl,o,none⟩ v .plain h1,ba0,hfr]
  rw[hq];rfl
end
end
end Go.Yc
end
section
namespace Go.Yc
open Go Go.Conc Go.Wg Go.Vy
open Go.ConcN (sumTo upd sumTo_upd upd_ne upd_same sumTo_congr)
section
attribute [local irreducible] KK
def Rh0 (G:j5) (w:World):Array Value×TypeId:=((let c:=w.heap[G.blk]?;match c with|some (.cells c _ _)=>c.extract 0 G.off|_=>#[]),(match w.heap[G.blk]? with|some (.cells _ T _)=>T|_=>0))
structure WF (G:j5) (bx:Nat) (w0 w:World):Prop where
 os:w.os=w0.os
 output:w.output=w0.output
 size:w0.heap.size <=w.heap.size
 old:∀b,b<w0.heap.size->b≠G.blk->b≠bx->w.heap[b]? =w0.heap[b]?
 pre:Rh0 G w=Rh0 G w0
section
variable {G:j5}{bx:Nat}{w0 w:World}
theorem WF.refl:WF G bx w w:=⟨rfl,rfl,Nat.le_refl _,fun _ _ _ _=>rfl,rfl⟩
theorem WF.at (h:WF G bx w0 w) (d:Nat):WF G bx w0 (w.at d):=⟨h.os,h.output,h.size,h.old,h.pre⟩
theorem size_setCell (w:World) (a:Addr) (v:Value):(w.setCell a v).heap.size=w.heap.size:=by simp[World.setCell]
theorem WF.cell (h:WF G bx w0 w) {b i:Nat} (v:Value) (hb:b=bx\/w0.heap.size <=b) (hg:b≠G.blk):WF G bx w0 (w.setCell ⟨b,i,none⟩ v):=by
 refine⟨h.os,h.output,by rw[size_setCell];exact h.size,fun k hk h1 h2=>?_,?_⟩
 ·have:k≠b:=by rintro rfl;rcases hb with e|e;exact h2 e;omega
  rw[K1 w v (a:=⟨b,i,none⟩) this];exact h.old k hk h1 h2
 ·rw[<- h.pre];unfold Rh0;rw[K1 w v (a:=⟨b,i,none⟩) (Ne.symm hg)]
theorem WF.alloc (h:WF G bx w0 w) (o:Obj) (hg:G.blk<w0.heap.size):WF G bx w0 (w.alloc o):=by
 have hh:∀k,k<w0.heap.size->(w.alloc o).heap[k]? =w.heap[k]?:=fun k hk=>by
  have:=h.size;show(w.heap.push o)[k]? =_;rw[Array.getElem?_push,if_neg (by omega)]
 refine⟨h.os,h.output,by have:=h.size;show _ <=(w.heap.push o).size;rw[Array.size_push];omega,fun k hk h1 h2=>by rw[hh k hk];exact h.old k hk h1 h2,?_⟩;rw[<- h.pre];unfold Rh0;rw[hh _ hg]
theorem WF.Mm0 (h:WF G bx w0 w) {st sm:Int} (hg:m8 G st sm w) {a:Addr} (ha:a.block=G.blk) (hs:a.spot=none) (ho:G.off <=a.off) (v:Value):WF G bx w0 (w.setCell a v):=by
 refine⟨h.os,h.output,by rw[size_setCell];exact h.size,fun k hk h1 h2=>?_,?_⟩
 ·rw[K1 w v (by rw[ha];exact h1)];exact h.old k hk h1 h2
 ·rw[<- h.pre];have:=et0 hg ha hs ho v;exact Prod.ext this.1 this.2
end
inductive Bd where
 |up (wt:Bool)
 |out
 |last (s:Nat)
 |done
def bst:Bd->Int×Int
 | .up wt=>((((0+1)*KK+(if wt then 1 else 0):Nat):Int),0)
 | .out=>(0,0)
 | .last 0=>(0,0)
 | .last (_+1)=>(1,0)
 | .done=>(0,1)
def frB:Bd->Bool
 | .up false=>true
 | .out=>true
 |_=>false
def UsB (c:Nat) (σ:Bd) (g:Nat):Prop:=g=0\/(g=c/\(match σ with| .up _=>True| .last _=>True|_=>False))
def Cl0 (P:Program) (G:j5) (A:Addr) (Fp:PM->Prop) (n:Nat) (pm:PM) (g:Goroutine):Prop :=
 g.status= .running/\Fp pm/\∃g',(∀w,stepG P false g w= .go g' w #[⟨.mark (.releaseMerge A),false,true⟩])/\Lt P G n 0 g'
def fm0 (P:Program) (G:j5) (Lc:m4) (A:Addr) (Fp:PM->Prop) (σ:Bd) (r:Option Nat) (pm:PM) (d n:Nat) (g:Goroutine):Prop:=match σ with
 | .up _=>(r=none/\d=0/\MP P false G Lc (Cl0 P G A Fp) n pm g)\/(r≠none/\Lt P G n d g)
 | .last s=>r≠none/\s <=2/\Lst P G n s d g
 |_=>r≠none/\QuitsD P n d g
def GB (X:Gh) (b:Nat):Prop:=∃G,(X.l3=some G\/G∈X.old)/\b=G.blk
structure StB (X:Gh) (G:j5) (c bx:Nat) (w0:World) (L0 Lc:m4):Prop where
 l3:X.l3=some G
 c0:c≠0
 st:∀p,p∈L0\/p∈Lc->w0.cell? p.1=some p.2/\p.1.block<w0.heap.size/\p.1.block≠bx/\¬GB X p.1.block
 bx:bx<w0.heap.size/\¬GB X bx
 gb:∀b,GB X b->b<w0.heap.size
abbrev BM (pm:PM) (b:Nat):Prop:=∃o,(b,o)∈pm
structure Rb (P:Program) (X:Gh) (G:j5) (c bx n0:Nat) (w0:World) (L0 Lc:m4) (A:Addr) (Fp:PM->Prop) (N:Nat) (σ:Bd) (r:Option Nat) (k8 E7:PM) (d:Nat) (T:Trace) (gs:Array Goroutine) (w:World) (q:Nat->Nat):Prop where
 wf:WF G bx w0 w
 tb:TB X.Sh (UsB c σ) c n0 L0 Lc (BM k8) (BM E7) A r T
 n0:n0 <=T.size
 d0:Deaf T 0=d
 own:∀x,x∈k8\/x∈E7->(x.1=bx\/w0.heap.size <=x.1)/\w.heap[x.1]? =some x.2
 apart:Apart L0 Lc (BM k8) (BM E7)
 child:∀g,gs[c]? =some g->fm0 P G Lc A Fp σ r E7 (Deaf T c) (q c) g
 rest:∀i g,i≠0->i≠c->gs[i]? =some g->QuitsD P (q i) (Deaf T i) g
 W6:m8 G (bst σ).1 (bst σ).2 w
 size:c<gs.size/\gs.size=N
 above:∀j,gs.size <=j->Deaf T j=0
 fin:r≠none->Fp E7
theorem zy0 {e:Event} {a:Addr} (h:MemAct.ofEvent e= .mark (.release a)):e.loc= .mark (.release a):=by
 obtain⟨l,w,s⟩:=e;cases l with
 |mark m=>cases m <;> simp[MemAct.ofEvent]at h⊢<;> exact h
 |_=>cases w <;> cases s <;> simp[MemAct.ofEvent]at h
section
variable {P:Program}{X:Gh}{G:j5}{c bx n0:Nat}{w0:World}{L0 Lc:m4}{A:Addr}{Fp:PM->Prop}{N:Nat}{σ σ':Bd}{r r':Option Nat}{k8 E7 pmc':PM}{d:Nat}{T:Trace}{gs:Array Goroutine}{w w':World}{q:Nat->Nat}
theorem norel_of {x:Nat} {fn:FuncId} {pos:String} {es:Array Event} (h:∀e∈es,∀a,e.loc≠.mark (.release a)):ux0 (MemOp.ofEvents x fn pos es):=fun op W5 a e=>by
 obtain⟨ev,he,rfl⟩:=Go.Conc.mem_ofEvents W5;exact h ev he a (zy0 e)
theorem TB.l3 {Us:Nat->Prop} {B0 Bc:Nat->Prop} (H:TB X.Sh Us c n0 L0 Lc B0 Bc A r T) (hn0:n0 <=T.size) (hG:X.l3=some G) {x:Nat} {fn:FuncId} {pos:String} {es:Array Event} (hes:∀e∈es,GEv G x e) (hu:(∀e∈es,(MemAct.ofEvent e).touch? =none)\/(Us x/\(x≠0->∀k,k<es.size->deafBehind (Deaf T x) (es.extract 0 k)≠0))) :
  TB X.Sh Us c n0 L0 Lc B0 Bc A r (T++MemOp.ofEvents x fn pos es):=by
 have hnr:=norel_of (x:=x) (fn:=fn) (pos:=pos) fun e he=>(hes e he).2;rcases hu with hu|⟨hU,hdf⟩
 ·exact H.mute hn0 (fun op W5=>by obtain⟨e,he,rfl⟩:=Go.Conc.mem_ofEvents W5;exact hu e he) fun _=>hnr
 ·refine H.sh hn0 hU G2 (fun op W5 b hb=>?_) (fun o3 i hi1 hi2=>?_) fun _=>hnr
  ·obtain⟨e,he,rfl⟩:=Go.Conc.mem_ofEvents W5;obtain⟨⟨a,h1,h2,h3⟩,h4⟩:=(hes e he).1 b hb;exact⟨⟨a,G,.inl hG,h1,h2,h3⟩,h4⟩
  ·obtain⟨m,rfl⟩:∃m,i=T.size+m:=⟨i-T.size,by omega⟩
   have hm:m<es.size:=by
    have I2:(MemOp.ofEvents x fn pos es).size=es.size:=by rw[ofEvents_eq];simp
    omega
   rw[Go.Conc.deaf_inside T x fn pos es m (Nat.le_of_lt hm)];exact hdf o3 m hm
theorem StB.on0 (S:StB X G c bx w0 L0 Lc) (Y7:∀b,BM k8 b->b=bx\/w0.heap.size <=b) {a:Touch} (h:On L0 (BM k8) a):¬X.Sh a.loc:=by
 rintro⟨ad,G',hG',e,hb,_⟩;have hgb:GB X ad.block:=⟨G',hG',hb⟩
 rcases h with⟨_,p,hp,h2⟩|⟨ad',h1,h2⟩
 ·rw[e]at h2;cases h2;exact(S.st p (.inl hp)).2.2.2 hgb
 ·rw[e]at h1;cases h1;rcases Y7 _ h2 with e|e
  ·rw[e]at hgb;exact S.bx.2 hgb
  ·have:=S.gb _ hgb;omega
theorem StB.onc (S:StB X G c bx w0 L0 Lc) (Y7:∀b,BM E7 b->b=bx\/w0.heap.size <=b) {a:Touch} (h:On Lc (BM E7) a):¬X.Sh a.loc:=by
 rintro⟨ad,G',hG',e,hb,_⟩;have hgb:GB X ad.block:=⟨G',hG',hb⟩
 rcases h with⟨_,p,hp,h2⟩|⟨ad',h1,h2⟩
 ·rw[e]at h2;cases h2;exact(S.st p (.inr hp)).2.2.2 hgb
 ·rw[e]at h1;cases h1;rcases Y7 _ h2 with e|e
  ·rw[e]at hgb;exact S.bx.2 hgb
  ·have:=S.gb _ hgb;omega
theorem StB.cell (S:StB X G c bx w0 L0 Lc) (hw:WF G bx w0 w) {p:Addr×Value} (hp:p∈L0\/p∈Lc):w.cell? p.1=some p.2:=by
 obtain⟨h1,h2,h3,h4⟩:=S.st p hp;have:=(R5 (u:=w0) (u':=w) (a:=p.1) (hw.old _ h2 (fun e=>h4 ⟨G,.inl S.l3,e⟩) h3)).1;rw[this];exact h1
theorem EvM.on {L:m4} {pm:PM} {e:Event} (h:EvM L pm e):(∀b,(MemAct.ofEvent e).touch? =some b->On L (BM pm) b)/\(∀a,e.loc≠.mark (.release a))/\e.loc≠.mark .disable/\e.loc≠.mark .enable:=by
 obtain⟨a,rfl,h⟩:=h;refine⟨fun b hb=>?_,by simp,by simp,by simp⟩;simp only[ofEvent_cell0,MemAct.touch?,Option.some.injEq]at hb;subst hb;rcases h with⟨v,hv⟩|⟨o,ho⟩
 ·exact .inl ⟨rfl,_,hv,rfl⟩
 ·exact .inr ⟨a,rfl,o,ho⟩
theorem fn0 {L:m4} {pm:PM} {bl i:Nat} {o:Obj} (h:(bl,o)∈pm) {e:Event} (he:e=⟨.cell ⟨bl,i,none⟩,true,false⟩):(∀b,(MemAct.ofEvent e).touch? =some b->On L (BM pm) b)/\(∀a,e.loc≠.mark (.release a))/\e.loc≠.mark .disable/\e.loc≠.mark .enable:=by
 subst he;refine⟨fun b hb=>?_,by simp,by simp,by simp⟩;simp only[MemAct.ofEvent,MemAct.touch?,Option.some.injEq]at hb;subst hb;exact .inr ⟨_,rfl,o,h⟩
theorem Rb.fw1 (C:Rb P X G c bx n0 w0 L0 Lc A Fp N σ r k8 E7 d T gs w q):∀b,BM k8 b->b=bx\/w0.heap.size <=b:=fun _b ⟨_o,h⟩=>(C.own _ (.inl h)).1
theorem Rb.fx1 (C:Rb P X G c bx n0 w0 L0 Lc A Fp N σ r k8 E7 d T gs w q):∀b,BM E7 b->b=bx\/w0.heap.size <=b:=fun _b ⟨_o,h⟩=>(C.own _ (.inr h)).1
theorem Rb.Mn0 (C:Rb P X G c bx n0 w0 L0 Lc A Fp N σ r k8 E7 d T gs w q) (S:StB X G c bx w0 L0 Lc):os0 G L0 k8 w:=⟨⟨_,_,C.W6⟩,fun _p hp=>S.cell C.wf (.inl hp),fun x hx=>(C.own x (.inl hx)).2⟩
theorem Rb.Mo0 (C:Rb P X G c bx n0 w0 L0 Lc A Fp N σ r k8 E7 d T gs w q) (S:StB X G c bx w0 L0 Lc):os0 G Lc E7 w:=⟨⟨_,_,C.W6⟩,fun _p hp=>S.cell C.wf (.inr hp),fun x hx=>(C.own x (.inr hx)).2⟩
theorem Rb.at (C:Rb P X G c bx n0 w0 L0 Lc A Fp N σ r k8 E7 d T gs w q) (k:Nat):Rb P X G c bx n0 w0 L0 Lc A Fp N σ r k8 E7 d T gs (w.at k) q :=
 ⟨C.wf.at k,C.tb,C.n0,C.d0,C.own,C.apart,C.child,C.rest,C.W6,C.size,C.above,C.fin⟩
theorem MP.running {main:Bool} {gr:j5} {L:m4} {E:Nat->PM->Goroutine->Prop} (hE:∀n pm g,E n pm g->g.status= .running):∀{n:Nat} {pm:PM} {g:Goroutine},MP P main gr L E n pm g->g.status= .running
 |0,_,_,h=>h.elim
 |_+1,_,_,h=>h.elim (hE _ _ _) fun z=>z.1
theorem fm0.status {n:Nat} {g:Goroutine} (h:fm0 P G Lc A Fp σ r E7 d n g):g.status= .running\/g.status= .finished:=by
 cases σ with
 |up wt=>rcases h with⟨_,_,h⟩|⟨_,h⟩;exact .inl (h.running fun _ _ _ z=>z.1);exact .inl h.running
 |last s=>exact .inl h.2.2.running
 |out=>exact h.2.status
 |done=>exact h.2.status
theorem Rb.status (C:Rb P X G c bx n0 w0 L0 Lc A Fp N σ r k8 E7 d T gs w q) {i:Nat} {g:Goroutine} (hi:i≠0) (hg:gs[i]? =some g):g.status= .running\/g.status= .finished:=by
 by_cases e:i=c
 ·subst e;exact(C.child g hg).status
 ·exact(C.rest i g hi e hg).status
theorem Rb.move (C:Rb P X G c bx n0 w0 L0 Lc A Fp N σ r k8 E7 d T gs w q) {i n:Nat} {g g':Goroutine} {es:Array Event} {sl:Option (Nat×Nat)} (hi:gs[i]? =some g) (o3:i≠0) (T2:stepG P false g w= .go g' w' es) (hq:q i=n+1)
  (tb':TB X.Sh (UsB c σ') c n0 L0 Lc (BM k8) (BM pmc') A r' (T++MemOp.ofEvents i g.frame.fn g.frame.place es)) (wf':WF G bx w0 w') (Fa0:∀x,x∈k8\/x∈pmc'->(x.1=bx\/w0.heap.size <=x.1)/\w'.heap[x.1]? =some x.2) (Cm0:Apart L0 Lc (BM k8) (BM pmc')) (Mp0:m8 G (bst σ').1 (bst σ').2 w') (ma1:r'≠none->Fp pmc')
  (mm0:(i=c->fm0 P G Lc A Fp σ' r' pmc' (deafBehind (Deaf T c) es) n g')/\(i≠c->σ'=σ/\r'=r/\pmc'=E7/\QuitsD P n (deafBehind (Deaf T i) es) g')) :
  ∃c5 ops q',runT P (crowd gs w sl) i=(.next (crowd c5 w' sl),ops)/\c5.size=gs.size/\(∀g0,gs[0]? =some g0->c5[0]? =some (woken P g g' w' g0))/\Rb P X G c bx n0 w0 L0 Lc A Fp N σ' r' k8 pmc' d (T++ops) c5 w' q'/\sumTo c5.size q'<sumTo gs.size q:=by
 have Y1:i<gs.size:=(Array.getElem?_eq_some_iff.1 hi).1;have hi0:(i==0)=false:=by simpa using o3
 have I2:((gs.map (woken P g g' w')).setIfInBounds i g').size=gs.size:=by simp
 have hdo:∀x,x≠i->Deaf (T++MemOp.ofEvents i g.frame.fn g.frame.place es) x=Deaf T x:=fun x hx=>Deaf_other T (Ne.symm hx) _ G2;have zl0:∀x y,x≠0->((gs.map (woken P g g' w')).setIfInBounds i g')[x]? =some y->(x=i/\y=g')\/(x≠i/\gs[x]? =some y):=fun x y hx hy=>by
  by_cases e:x=i
  ·subst e;rw[Array.getElem?_setIfInBounds_self_of_lt (by simpa using Y1)]at hy;exact .inl ⟨rfl,(Option.some.inj hy).symm⟩
  ·rw[Array.getElem?_setIfInBounds_ne (fun z=>e z.symm),Array.getElem?_map]at hy;obtain⟨y₀,hy₀,rfl⟩:=Option.map_eq_some_iff.1 hy;rw[woken_of_again (again_of_running (C.status hx hy₀) w')];exact .inr ⟨e,hy₀⟩
 refine⟨_,_,upd q i n,runT_crowd_go (sl:=sl) hi (by rw[hi0];exact T2),I2,fun g0 h0=>?_,⟨wf',tb',by rw[Array.size_append];have:=C.n0;omega,(hdo 0 (Ne.symm o3)).trans C.d0,Fa0,Cm0,fun y hy=>?_,fun x y hx hxc hy=>?_,Mp0,by rw[I2];exact C.size,fun j hj=>?_,ma1⟩,?_⟩
 ·rw[Array.getElem?_setIfInBounds_ne o3,Array.getElem?_map,h0];rfl
 ·have hc0:c≠0\/c=0:=(Decidable.em (c=0)).symm;by_cases e:i=c
  ·subst e;rw[Array.getElem?_setIfInBounds_self_of_lt (by simpa using Y1)]at hy;obtain rfl:=Option.some.inj hy;rw[Deaf_own,upd_same];exact mm0.1 rfl
  ·obtain⟨rfl,rfl,rfl,_⟩:=mm0.2 e;have hy':gs[c]? =some y:=by
    rw[Array.getElem?_setIfInBounds_ne e,Array.getElem?_map]at hy;obtain⟨y₀,hy₀,rfl⟩:=Option.map_eq_some_iff.1 hy;rw[woken_of_again (again_of_running (C.child y₀ hy₀).status w')];exact hy₀
   rw[hdo c (Ne.symm e),upd_ne q n (Ne.symm e)];exact C.child y hy'
 ·rcases zl0 x y hx hy with⟨rfl,rfl⟩|⟨e,hy'⟩
  ·rw[Deaf_own,upd_same];exact(mm0.2 hxc).2.2.2
  ·rw[hdo x e,upd_ne q n e];exact C.rest x y hx hxc hy'
 ·rw[I2]at hj;rw[hdo j (by omega)];exact C.above j hj
 ·have h2:sumTo gs.size (upd q i n)+(n+1)=sumTo gs.size q+n:=by
   have:=sumTo_upd q n id Y1;simpa [hq]using this
  rw[I2];omega
end
end
section
attribute [local irreducible] KK
theorem gl0 {x:Nat} {fn:FuncId} {pos:String} {m:Mark}:MemOp.ofEvents x fn pos #[⟨.mark m,false,true⟩]=#[{g:=x,fn,pos,act:=.mark m}]:=by
 rw[ofEvents_eq];simp[MemAct.ofEvent]
theorem xf0 {pm:PM} {b k:Nat} {o:Obj} (h:BM (lp0 pm b o) k):BM pm k:=by
 obtain⟨x,hx⟩:=h;obtain⟨y,hy,e⟩:=List.mem_map.1 hx;by_cases e1:y.1=b
 ·rw[if_pos e1]at e;cases e;exact⟨y.2,by rw[<- e1];exact hy⟩
 ·rw[if_neg e1]at e;cases e;exact⟨_,hy⟩
theorem mem_set {pm:PM} {b:Nat} {o:Obj} {x:Nat×Obj} (h:x∈lp0 pm b o):(x=(b,o)/\BM pm b)\/(x∈pm/\x.1≠b):=by
 obtain⟨y,hy,e⟩:=List.mem_map.1 h;by_cases e1:y.1=b
 ·rw[if_pos e1]at e;exact .inl ⟨e.symm,y.2,by rw[<- e1];exact hy⟩
 ·rw[if_neg e1]at e;subst e;exact .inr ⟨hy,e1⟩
theorem heap_put {w:World} {b i:Nat} {cs:Array Value} {T:TypeId} {v:Value} (h:w.heap[b]? =some (.cells cs T (0,0))):(w.setCell ⟨b,i,none⟩ v).heap[b]? =some (.cells (cs.setIfInBounds i v) T (0,0)):=by
 rw[heap_setCell,h];simp
theorem xg0 {w:World} {b:Nat} {o:Obj} (h:w.heap[b]? =some o):b<w.heap.size:=(Array.getElem?_eq_some_iff.1 h).1
theorem heap_alloc {w:World} {b:Nat} {o x:Obj} (h:w.heap[b]? =some x):(w.alloc o).heap[b]? =some x:=by
 show(w.heap.push o)[b]? =_;rw[Array.getElem?_push,if_neg (by have:=xg0 h;omega)];exact h
theorem heap_alloc_new {w:World} {o:Obj}:(w.alloc o).heap[w.heap.size]? =some o:=by
 show(w.heap.push o)[w.heap.size]? =_;rw[Array.getElem?_push,if_pos rfl]
section
variable {P:Program}{X:Gh}{G:j5}{c bx n0:Nat}{w0:World}{L0 Lc:m4}{A:Addr}{Fp:PM->Prop}{N:Nat}{σ:Bd}{r:Option Nat}{k8 E7:PM}{d:Nat}{T:Trace}{gs:Array Goroutine}{w:World}{q:Nat->Nat}
theorem StB.Gc0 (S:StB X G c bx w0 L0 Lc):G.blk<w0.heap.size/\G.blk≠bx:=⟨S.gb _ ⟨G,.inl S.l3,rfl⟩,fun e=>S.bx.2 ⟨G,.inl S.l3,e.symm⟩⟩
theorem StB.ng (S:StB X G c bx w0 L0 Lc) {b:Nat} (h:b=bx\/w0.heap.size <=b):b≠G.blk:=by
 have:=S.Gc0;rintro rfl;rcases h with e|e
 ·exact this.2 e
 ·omega
def ByB (P:Program) (X:Gh) (G:j5) (c bx n0:Nat) (w0:World) (L0 Lc:m4) (A:Addr) (Fp:PM->Prop) (N:Nat) (σ:Bd) (k8:PM) (d:Nat) (T:Trace) (gs:Array Goroutine) (w:World) (q:Nat->Nat) (i:Nat) (sl:Option (Nat×Nat)):Prop :=
 ∃c5 ops q' w' σ' r' pmc',runT P (crowd gs w sl) i=(.next (crowd c5 w' sl),ops)/\c5.size=gs.size/\(∀g0,gs[0]? =some g0->c5[0]? =some g0\/c5[0]? =some (g0.again w'))/\Rb P X G c bx n0 w0 L0 Lc A Fp N σ' r' k8 pmc' d (T++ops) c5 w' q'/\sumTo c5.size q'<sumTo gs.size q/\frB σ'=frB σ /\
   (σ'= .done->σ= .done\/∀g0,gs[0]? =some g0->c5[0]? =some (g0.again w'))/\(σ= .out->σ'= .out)
theorem Rb.by (C:Rb P X G c bx n0 w0 L0 Lc A Fp N σ r k8 E7 d T gs w q) (S:StB X G c bx w0 L0 Lc) {i:Nat} {g:Goroutine} {sl:Option (Nat×Nat)} (hi:gs[i]? =some g) (o3:i≠0) (H4:g.status= .running):ByB P X G c bx n0 w0 L0 Lc A Fp N σ k8 d T gs w q i sl:=by
 have pack:∀{g':Goroutine} {w':World} {σ':Bd} {r':Option Nat} {pmc':PM},(∃c5 ops q',runT P (crowd gs w sl) i=(.next (crowd c5 w' sl),ops)/\c5.size=gs.size/\(∀g0,gs[0]? =some g0->c5[0]? =some (woken P g g' w' g0))/\Rb P X G c bx n0 w0 L0 Lc A Fp N σ' r' k8 pmc' d (T++ops) c5 w' q'/\sumTo c5.size q'<sumTo gs.size q) ->
   frB σ'=frB σ->((σ'= .done->σ= .done\/∀g0,woken P g g' w' g0=g0.again w')/\(σ= .out->σ'= .out))->ByB P X G c bx n0 w0 L0 Lc A Fp N σ k8 d T gs w q i sl:=by
  rintro g' w' σ' r' pmc' ⟨c5,ops,q',h1,h2,h3,h4,h5⟩ hf hd;refine⟨c5,ops,q',w',σ',r',pmc',h1,h2,fun g0 h0=>?_,h4,h5,hf,fun e=>(hd.1 e).imp id fun z g0 h0=>?_,hd.2⟩
  ·rw[h3 g0 h0];rcases xz0 P g g' w' g0 with e|e <;> rw[e]
   ·exact .inl rfl
   ·exact .inr rfl
  ·rw[h3 g0 h0,z g0]
 have quit:QuitsD P (q i) (Deaf T i) g->(i=c->(σ= .out\/σ= .done)/\r≠none)->ByB P X G c bx n0 w0 L0 Lc A Fp N σ k8 d T gs w q i sl:=fun hQ hc=>by
  cases hq:q i with
  |zero=>rw[hq]at hQ;rw[hQ.1]at H4;cases H4
  |succ k=>
   rw[hq]at hQ;rcases hQ with⟨hf,_⟩|⟨_,g',es,hm,A3,hQ⟩
   ·rw[hf]at H4;cases H4
   ·refine pack (C.move (sl:=sl) hi o3 (A3 w) hq (C.tb.l3 C.n0 S.l3 (fun e he=>xy0 (hm e he)) (.inl fun e he=>touch_mute (hm e he))) C.wf C.own C.apart C.W6 C.fin ⟨fun e=>?_,fun e=>⟨rfl,rfl,rfl,hQ⟩⟩) rfl ⟨fun e=>.inl e,id⟩;subst e;obtain⟨h1,h2⟩:=hc rfl;rcases h1 with rfl|rfl
    ·exact⟨h2,hQ⟩
    ·exact⟨h2,hQ⟩
 by_cases hic:i=c
 case neg=>exact quit (C.rest i g o3 hic hi) fun e=>absurd e hic
 subst hic;have G6:=C.child g hi;cases hq:q i with
 |zero=>
  rw[hq]at G6;cases σ with
  |up wt=>rcases G6 with⟨_,_,h⟩|⟨_,h⟩ <;> exact h.elim
  |last s=>exact G6.2.2.elim
  |out=>rw[G6.2.1]at H4;cases H4
  |done=>rw[G6.2.1]at H4;cases H4
 |succ k=>
 cases σ with
 |out=>exact quit G6.2 fun _=>⟨.inl rfl,G6.1⟩
 |done=>exact quit G6.2 fun _=>⟨.inr rfl,G6.1⟩
 |up wt=>
  rw[hq]at G6;rcases G6 with⟨hr,hd0,hM⟩|⟨hr,hL⟩
  ·subst hr;unfold MP at hM;rcases hM with⟨hr,hF,g',T2,hL⟩|⟨_,⟨g',es,hr',hes,T2,hM⟩|⟨g',b,cs,T1,o,v,es,hr',hm,hes,T2,hM⟩|⟨gf,cs,T1,hr',T2,hM⟩⟩
   ·
    refine pack (C.move (sl:=sl) (σ':=.up wt) (r':=some T.size) (pmc':=E7) hi o3 (T2 w) hq (by rw[gl0];exact C.tb.release C.n0 hd0) C.wf C.own C.apart C.W6 (fun _=>hF) ⟨fun _=>.inr ⟨by simp,?_⟩,fun e=>absurd rfl e⟩) rfl ⟨fun e=>(by cases e),fun e=>(by cases e)⟩;rw[hd0];exact hL
   ·have hd:deafBehind (Deaf T i) es=Deaf T i:=deafBehind_still (fun e he=>(hes e he).on.2.2) _;refine pack (C.move (sl:=sl) (σ':=.up wt) (r':=none) (pmc':=E7) hi o3 (T2 w (C.Mo0 S)) hq (C.tb.own C.apart C.n0 G2 (fun op W5 bb hb=>?_) fun h=>absurd rfl h) C.wf C.own C.apart C.W6 C.fin ⟨fun _=>.inl ⟨rfl,hd.trans hd0,hM⟩,fun e=>absurd rfl e⟩) rfl ⟨fun e=>(by cases e),fun e=>(by cases e)⟩;obtain⟨e,he,rfl⟩:=Go.Conc.mem_ofEvents W5;have:=(hes e he).on.1 bb hb;exact⟨S.onc C.fx1 this,.inr ⟨rfl,this,rfl⟩⟩
   ·have hd:deafBehind (Deaf T i) es=Deaf T i:=deafBehind_still (fun e he=>(fn0 (L:=Lc) hm (hes e he)).2.2) _;have hob:=(C.own _ (.inr hm))
    have hng:=S.ng hob.1;have C1:∀x,x∈k8\/x∈lp0 E7 b (.cells (cs.setIfInBounds o v) T1 (0,0))->(x.1=bx\/w0.heap.size <=x.1)/\(w.setCell ⟨b,o,none⟩ v).heap[x.1]? =some x.2:=fun x hx=>by
     rcases hx with hx|hx
     ·have h1:=C.own x (.inl hx);have:x.1≠b:=fun e=>C.apart.own x.1 ⟨x.2,hx⟩ ⟨_,by rw[e];exact hm⟩;exact⟨h1.1,by rw[K1 w v (a:=⟨b,o,none⟩) this];exact h1.2⟩
     ·rcases mem_set hx with⟨rfl,_⟩|⟨hx,hxb⟩
      ·exact⟨hob.1,heap_put hob.2⟩
      ·have h1:=C.own x (.inr hx);exact⟨h1.1,by rw[K1 w v (a:=⟨b,o,none⟩) hxb];exact h1.2⟩
    refine pack (C.move (sl:=sl) (σ':=.up wt) (r':=none) (pmc':=lp0 E7 b (.cells (cs.setIfInBounds o v) T1 (0,0))) hi o3 (T2 w (C.Mo0 S)) hq ?_ (C.wf.cell v hob.1 hng) C1 ⟨fun p hp h=>C.apart.l0 p hp (xf0 h),C.apart.lc,fun bb h h'=>C.apart.own bb h (xf0 h')⟩
     (C.W6.of_block (K1 w v (a:=⟨b,o,none⟩) (Ne.symm hng))) (fun h=>absurd rfl h) ⟨fun _=>.inl ⟨rfl,hd.trans hd0,hM⟩,fun e=>absurd rfl e⟩) rfl ⟨fun e=>(by cases e),fun e=>(by cases e)⟩
    refine(C.tb.own C.apart C.n0 G2 (fun op W5 bb hb=>?_) fun h=>absurd rfl h).grow (fun _ h=>h) fun k hk=>?_
    ·obtain⟨e,he,rfl⟩:=Go.Conc.mem_ofEvents W5;have:=(fn0 (L:=Lc) hm (hes e he)).1 bb hb;exact⟨S.onc C.fx1 this,.inr ⟨rfl,this,rfl⟩⟩
    ·obtain⟨x,hx⟩:=hk;by_cases e:k=b
     ·exact⟨.cells (cs.setIfInBounds o v) T1 (0,0),List.mem_map.2 ⟨(k,x),hx,by rw[if_pos e,e]⟩⟩
     ·exact⟨x,List.mem_map.2 ⟨(k,x),hx,by rw[if_neg e]⟩⟩
   ·have I2:=C.wf.size;have hd:deafBehind (Deaf T i) #[]=Deaf T i:=rfl;refine pack (C.move (sl:=sl) (σ':=.up wt) (r':=none) (pmc':=(w.heap.size,.cells cs T1 (0,0))::E7) hi o3 (T2 w) hq ?_ (C.wf.alloc _ S.Gc0.1) (fun x hx=>?_) ⟨fun p hp h=>?_,C.apart.lc,fun bb h h'=>?_⟩ (C.W6.of_block ?_) (fun h=>absurd rfl h) ⟨fun _=>.inl ⟨rfl,hd.trans hd0,hM w.heap.size⟩,fun e=>absurd rfl e⟩) rfl ⟨fun e=>(by cases e),fun e=>(by cases e)⟩
    ·refine(C.tb.mute C.n0 (fun op W5=>?_) fun h=>absurd rfl h).grow (fun _ h=>h) fun k ⟨x,hx⟩=>⟨x,List.mem_cons_of_mem _ hx⟩
     obtain⟨e,he,rfl⟩:=Go.Conc.mem_ofEvents W5;simp at he
    ·rcases hx with hx|hx
     ·have:=C.own x (.inl hx);exact⟨this.1,heap_alloc this.2⟩
     ·rcases List.mem_cons.1 hx with rfl|hx
      ·exact⟨.inr I2,heap_alloc_new⟩
      ·have:=C.own x (.inr hx);exact⟨this.1,heap_alloc this.2⟩
    ·obtain⟨x,hx⟩:=h;rcases List.mem_cons.1 hx with e|hx
     ·have:=(S.st p (.inl hp)).2.1;have e:=congrArg Prod.fst e;simp only at e;omega
     ·exact C.apart.l0 p hp ⟨x,hx⟩
    ·obtain⟨x,hx⟩:=h';rcases List.mem_cons.1 hx with e|hx
     ·obtain⟨y,hy⟩:=h;have:=xg0 (C.own _ (.inl hy)).2;cases e;simp at this
     ·exact C.apart.own bb h ⟨x,hx⟩
    ·show(w.heap.push _)[G.blk]? =_;rw[Array.getElem?_push,if_neg (by have:=S.Gc0.1;omega)]
  ·unfold Lt at hL;have hUs:UsB i (.up wt) i:=.inr ⟨rfl,trivial⟩;rcases hL with⟨g',es,⟨_,hsy,A3⟩,hL⟩|⟨_,hd0,xw0⟩
   ·exact pack (C.move (sl:=sl) (σ':=.up wt) (r':=r) (pmc':=E7) hi o3 (A3 w _ _ C.W6) hq (C.tb.l3 C.n0 S.l3 (fun e he=>eu0 (hsy e he)) (.inl fun e he=>S8 (hsy e he))) C.wf C.own C.apart C.W6 C.fin ⟨fun _=>.inr ⟨hr,hL⟩,fun e=>absurd rfl e⟩) rfl ⟨fun e=>(by cases e),fun e=>(by cases e)⟩
   ·have ga0:=C.W6;obtain⟨g',A3,ia0,Hf0⟩:=xw0 0 (if wt then 1 else 0) (by split <;> omega) (by omega);have T2:=A3 w ga0;have hdd:deafBehind (Deaf T i) #[rdA (stA G),wrA (stA G)]=Deaf T i:=deafBehind_still ma0 _;have htb:TB X.Sh (UsB i (.up wt)) i n0 L0 Lc (BM k8) (BM E7) A r (T++MemOp.ofEvents i g.frame.fn g.frame.place #[rdA (stA G),wrA (stA G)]):=C.tb.l3 C.n0 S.l3 ar0 (.inr ⟨hUs,fun _ j _=>by rw[T8 ma0];omega⟩);have Y7:∀x,x∈k8\/x∈E7->(x.1=bx\/w0.heap.size <=x.1)/\(w.setCell (stA G) (.int .u64 ((0*KK+(if wt then 1 else 0):Nat):Int))).heap[x.1]? =some x.2:=fun x hx=>by
     have:=C.own x hx;exact⟨this.1,by rw[K1 w _ (a:=stA G) (S.ng this.1)];exact this.2⟩
    have hg2:=ga0.setSt ((0*KK+(if wt then 1 else 0):Nat):Int);cases wt with
    |false=>
     refine pack (C.move (sl:=sl) (σ':=.out) (r':=r) (pmc':=E7) hi o3 T2 hq (htb.leave fun x hx=>?_) (C.wf.Mm0 ga0 rfl rfl (Nat.le_refl _) _) Y7 C.apart ?_ C.fin ⟨fun _=>⟨hr,by rw[hdd];exact ia0 (by simp)⟩,fun e=>absurd rfl e⟩) rfl ⟨fun e=>(by cases e),fun e=>(by cases e)⟩
     ·rcases hx with e|⟨_,h⟩
      ·exact .inl e
      ·exact h.elim
     ·have e1:((0*KK+(if false=true then 1 else 0):Nat):Int)=0:=by rw[Nat.zero_mul];rfl
      rw[e1]at hg2⊢;exact hg2
    |true=>
     refine pack (C.move (sl:=sl) (σ':=.last 2) (r':=r) (pmc':=E7) hi o3 T2 hq (htb.leave fun x hx=>?_) (C.wf.Mm0 ga0 rfl rfl (Nat.le_refl _) _) Y7 C.apart ?_ C.fin ⟨fun _=>⟨hr,Nat.le_refl _,by rw[hdd];exact Hf0 ⟨rfl,rfl⟩⟩,fun e=>absurd rfl e⟩) rfl ⟨fun e=>(by cases e),fun e=>(by cases e)⟩
     ·rcases hx with e|⟨e,_⟩
      ·exact .inl e
      ·exact .inr ⟨e,trivial⟩
     ·have e1:((0*KK+(if true=true then 1 else 0):Nat):Int)=1:=by rw[Nat.zero_mul];rfl
      rw[e1]at hg2⊢;exact hg2
 |last s=>
  rw[hq]at G6;obtain⟨hr,hs2,hL⟩:=G6;unfold Lst at hL;obtain⟨hd0,hL⟩:=hL;have hUs:UsB i (.last s) i:=.inr ⟨rfl,trivial⟩;have Y7:∀(a:Addr) (v:Value),a.block=G.blk->∀x,x∈k8\/x∈E7->(x.1=bx\/w0.heap.size <=x.1)/\(w.setCell a v).heap[x.1]? =some x.2:=fun a v ha x hx=>by
   have:=C.own x hx;exact⟨this.1,by rw[K1 w _ (by rw[ha];exact S.ng this.1)];exact this.2⟩
  rcases hL with⟨g',es,⟨_,hsy,A3⟩,hnm,hL⟩|⟨_,hL⟩
  ·exact pack (C.move (sl:=sl) (σ':=.last s) (r':=r) (pmc':=E7) hi o3 (A3 w _ _ C.W6) hq (C.tb.l3 C.n0 S.l3 (fun e he=>eu0 (hsy e he)) (.inl fun e he=>S8 (hsy e he))) C.wf C.own C.apart C.W6 C.fin ⟨fun _=>⟨hr,hs2,by rw[deafBehind_still hnm];exact hL⟩,fun e=>absurd rfl e⟩) rfl ⟨fun e=>(by cases e),fun e=>(by cases e)⟩
  ·rcases s with _|_|_|s
   ·simp only at hL;obtain⟨hwk,g',A3,hQ⟩:=hL;have T2:=A3 w C.W6;refine pack (C.move (sl:=sl) (σ':=.done) (r':=r) (pmc':=E7) hi o3 T2 hq ((C.tb.l3 C.n0 S.l3 lz0 (.inr ⟨hUs,fun _=>kz0 hd0⟩)).leave fun x hx=>?_) (C.wf.Mm0 C.W6 rfl rfl (Nat.le_succ _) _) (Y7 (smA G) _ rfl) C.apart (C.W6.setSm _) C.fin ⟨fun _=>⟨hr,by rw[ic0];exact hQ⟩,fun e=>absurd rfl e⟩) rfl ⟨fun _=>.inr fun g0=>?_,fun e=>(by cases e)⟩
    ·rcases hx with e|⟨_,h⟩
     ·exact .inl e
     ·exact h.elim
    ·unfold woken;rw[if_pos];rw[hwk];rcases hQ.status with e|e <;> rw[e] <;> rfl
   ·simp only at hL;obtain⟨g',A3,hL⟩:=hL;have T2:=A3 w C.W6;exact pack (C.move (sl:=sl) (σ':=.last 0) (r':=r) (pmc':=E7) hi o3 T2 hq ((C.tb.l3 C.n0 S.l3 Hc0 (.inr ⟨hUs,fun _ j _=>by rw[T8 id0];omega⟩)).leave fun x hx=>hx) (C.wf.Mm0 C.W6 rfl rfl (Nat.le_refl _) _) (Y7 (stA G) _ rfl) C.apart (C.W6.setSt _) C.fin ⟨fun _=>⟨hr,by omega,by rw[deafBehind_still id0];exact hL⟩,fun e=>absurd rfl e⟩) rfl ⟨fun e=>(by cases e),fun e=>(by cases e)⟩
   ·simp only at hL;obtain⟨g',A3,hL⟩:=hL;have T2:=A3 w C.W6;exact pack (C.move (sl:=sl) (σ':=.last 1) (r':=r) (pmc':=E7) hi o3 T2 hq ((C.tb.l3 C.n0 S.l3 jv0 (.inr ⟨hUs,fun _ j _=>by rw[T8 v9];omega⟩)).leave fun x hx=>hx) C.wf C.own C.apart C.W6 C.fin ⟨fun _=>⟨hr,by omega,by rw[deafBehind_still v9];exact hL⟩,fun e=>absurd rfl e⟩) rfl ⟨fun e=>(by cases e),fun e=>(by cases e)⟩
   ·omega
end
end
section
attribute [local irreducible] KK
def fo0 (u:World) (bx:Nat) (ox:Obj) (k:Nat):World:={u with heap:=u.heap.setIfInBounds bx ox++Array.replicate k nothing}
def Gh.jk0 (X:Gh) (u:World) (bx k:Nat):Gh:={X with n:=X.n+1,pend:=0,cap:=0,dn:=0,low:=fun b=>X.low b\/b=bx\/(u.heap.size <=b/\b<u.heap.size+k)}
theorem jl0 {u:World} {bx k:Nat} {ox:Obj} {b:Nat} (h:b<u.heap.size) (hb:b≠bx):(fo0 u bx ox k).heap[b]? =u.heap[b]?:=by
 show(u.heap.setIfInBounds bx ox++_)[b]? =_;rw[Array.getElem?_append_left (by simpa using h),Array.getElem?_setIfInBounds_ne (Ne.symm hb)]
theorem xh0 {u:World} {bx k:Nat} {ox:Obj} (h:bx<u.heap.size):(fo0 u bx ox k).heap[bx]? =some ox:=by
 show(u.heap.setIfInBounds bx ox++_)[bx]? =_;rw[Array.getElem?_append_left (by simpa using h),Array.getElem?_setIfInBounds_self_of_lt h]
theorem zz0 {u:World} {bx k:Nat} {ox:Obj} {b:Nat} (h:u.heap.size <=b):(fo0 u bx ox k).heap[b]? =if b<u.heap.size+k then some nothing else none:=by
 show(u.heap.setIfInBounds bx ox++_)[b]? =_;rw[Array.getElem?_append_right (by simpa using h),Array.getElem?_replicate];simp only[Array.size_setIfInBounds];split <;> split <;> first|rfl|omega
theorem kq0 {u:World} {bx k:Nat} {ox:Obj}:(fo0 u bx ox k).heap.size=u.heap.size+k:=by
 show(u.heap.setIfInBounds bx ox++_).size=_;simp
theorem Mq0 {u w0 w:World} {G:j5} {bx k:Nat} {ρ:Nat->V6} {st sm:Int} {cs:Array Value} {T:TypeId} {f:Nat×Nat} (hs:l6 ρ (N2 u w0.tape w0.drawn) w0) (hc:Cut u G) (F9:m8 G st sm w0) (hg:m8 G 0 0 w) (hw:WF G bx w0 w) (hgx:G.blk≠bx) (hbx:bx<u.heap.size) (hk:w.heap.size=u.heap.size+k) (ho:w.heap[bx]? =some (.cells cs T f)) :
  ∃ρ',l6 ρ' (N2 (fo0 u bx (.cells cs T f) k) w.tape w.drawn) w/\(∀b,b<u.heap.size->b≠bx->b≠G.blk->ρ' b=ρ b)/\∀b,u.heap.size+k <=b->ρ' b= .all:=by
 have I2:w0.heap.size=u.heap.size:=hs.size;have pu1:G.blk<u.heap.size:=by
  obtain⟨c,T,f,hb,_⟩:=hc;exact(Array.getElem?_eq_some_iff.1 hb).1
 have hy:=hg.extract;obtain⟨y,hyG⟩:∃y,w.heap[G.blk]? =some y:=⟨_,hy⟩
 have hw1:({w0 with heap:=w0.heap.setIfInBounds G.blk y}:World).heap[G.blk]? =some y:=by
  show(w0.heap.setIfInBounds G.blk y)[G.blk]? =_;rw[Array.getElem?_setIfInBounds_self_of_lt (by omega)]
 obtain⟨ρ1,h1,h2⟩:=l6.l3 (w':={w0 with heap:=w0.heap.setIfInBounds G.blk y}) hs hc F9 0 0 (by
   rw[hw1,<- hyG,hy];exact congrArg (fun z:Array Value×TypeId=>some (Obj.cells (z.1 ++ #[.int .u64 0,.int .u32 0]) z.2 (0,0))) hw.pre) (fun b hb=>by
   show(w0.heap.setIfInBounds G.blk y)[b]? =_;rw[Array.getElem?_setIfInBounds_ne (Ne.symm hb)]) (by simp) rfl rfl
 refine⟨fun b=>if b=bx then .all else if u.heap.size <=b/\b<u.heap.size+k then .gone ((w.heap[b]?).getD nothing) else ρ1 b,⟨hw.os.trans h1.os,hw.output.trans h1.output,rfl,rfl,hk.trans kq0.symm,fun b x hx=>?_,fun b hb=>?_,fun b x hx=>?_⟩,fun b h3 h4 h5=>?_,fun b hb=>?_⟩
 ·have D4:(fo0 u bx (.cells cs T f) k).heap[b]? =some x:=hx;by_cases e:b=bx
  ·subst e;rw[xh0 hbx]at D4;obtain rfl:=Option.some.inj D4;exact⟨_,ho,by rw[if_pos rfl];exact .same _⟩
  ·rw[if_neg e];rcases Nat.lt_or_ge b u.heap.size with hb|hb
   ·rw[jl0 hb e]at D4;rw[if_neg (by omega)];obtain⟨z,hz,hl⟩:=h1.obj b x D4;refine⟨z,?_,hl⟩;by_cases eG:b=G.blk
    ·subst eG;rw[hw1]at hz;rw[hyG,hz]
    ·have hz':(w0.heap.setIfInBounds G.blk y)[b]? =some z:=hz;rw[Array.getElem?_setIfInBounds_ne (Ne.symm eG)]at hz';rw[hw.old b (by omega) eG e];exact hz'
   ·rw[zz0 hb]at D4;split at D4
    ·rename_i Y1;obtain rfl:=Option.some.inj D4;obtain⟨z,hz⟩:∃z,w.heap[b]? =some z:=⟨_,Array.getElem?_eq_getElem (by omega)⟩
     refine⟨z,hz,?_⟩;rw[if_pos ⟨hb,Y1⟩,hz];exact .gone _ _ _
    ·cases D4
 ·have D8:(fo0 u bx (.cells cs T f) k).heap.size <=b:=hb;rw[kq0]at D8;show(if b=bx then _ else if _ then _ else _)=_;exact U523
 ·have D4:(fo0 u bx (.cells cs T f) k).heap[b]? =some x:=hx;by_cases e:b=bx
  ·subst e;rw[xh0 hbx]at D4;obtain rfl:=Option.some.inj D4;rfl
  ·rcases Nat.lt_or_ge b u.heap.size with hb|hb
   ·rw[jl0 hb e]at D4;exact h1.Y6 b x D4
   ·rw[zz0 hb]at D4;split at D4
    ·obtain rfl:=Option.some.inj D4;rfl
    ·cases D4
 ·show(if b=bx then _ else if _ then _ else _)=_;rw[if_neg h4,if_neg (by omega)];exact h2 b h5
 ·show(if b=bx then _ else if _ then _ else _)=_;exact U523
section
variable {P:Program}{X:Gh}{G:j5}{c bx n0:Nat}{u w0:World}{L0 Lc:m4}{A:Addr}{Fp:PM->Prop}{N:Nat}{r:Option Nat}{k8 E7:PM}{T T0:Trace}{gs gs0:Array Goroutine}{w:World}{q q0:Nat->Nat}{live:Nat->Bool}
theorem ring_end (C0:Ring P X 0 u live T0 gs0 w0 q0) (l9:∀i,X.N1 i=none) (hl:aq0 X bx) (hbx:bx<u.heap.size) (S:StB X G c bx w0 L0 Lc) (hN:N=X.n+1) (C:Rb P X G c bx n0 w0 L0 Lc A Fp N .out r k8 E7 0 T gs w q) {cs:Array Value} {Ty:TypeId} {f:Nat×Nat} (ho:(bx,.cells cs Ty f)∈E7) {g g':Goroutine} (hg:gs[0]? =some g) :
  ∃k,Ring P (X.jk0 u bx k) 0 (fo0 u bx (.cells cs Ty f) k) (fun _=>false) (T++MemOp.ofEvents 0 g.frame.fn g.frame.place #[⟨.mark (.acquire A),false,true⟩]) ((gs.map (woken P g g' w)).setIfInBounds 0 g') w q/\((gs.map (woken P g g' w)).setIfInBounds 0 g')[0]? =some g':=by
 obtain⟨ρ,hs,hlw⟩:=C0.sim;have pv1:w0.heap.size=u.heap.size:=hs.size;obtain⟨k,hk⟩:∃k,w.heap.size=u.heap.size+k:=⟨w.heap.size-u.heap.size,by have:=C.wf.size;omega⟩
 obtain⟨pj0,F9⟩:=C0.l3 G S.l3;have ga0:m8 G 0 0 w:=C.W6;obtain⟨ρ',hs',hold,Z0⟩:=Mq0 (k:=k) hs pj0 F9 ga0 C.wf S.Gc0.2 hbx hk (C.own _ (.inr ho)).2;have Mr0:0<gs.size:=(Array.getElem?_eq_some_iff.1 hg).1;have G6:∃gc,gs[c]? =some gc:=⟨_,Array.getElem?_eq_getElem C.size.1⟩
 obtain⟨gc,hgc⟩:=G6;have hr:=(C.child gc hgc).1;obtain⟨r0,rfl⟩:∃r0,r=some r0:=Option.ne_none_iff_exists'.1 hr;obtain⟨p1,p2,p3⟩:=C.tb.acquire (fn:=g.frame.fn) (ps:=g.frame.place) C.n0 C.d0;have ia0:∀i y,i≠0->gs[i]? =some y->QuitsD P (q i) (Deaf T i) y:=fun i y hi hy=>by
  by_cases e:i=c
  ·subst e;exact(C.child y hy).2
  ·exact C.rest i y hi e hy
 have hD:∀i,Deaf (T ++ #[{g:=0,fn:=g.frame.fn,pos:=g.frame.place,act:=MemAct.mark (.acquire A)}]) i=Deaf T i:=fun i=>Deaf_quiet (fun op W5 d=>by simp at W5;subst W5;rfl);have M8:∀b,b<u.heap.size->b≠bx->(fo0 u bx (.cells cs Ty f) k).heap[b]? =u.heap[b]?:=fun b h1 h2=>jl0 h1 h2;have Uf0:∀G',(X.l3=some G'\/G'∈X.old)->Cut u G'->Cut (fo0 u bx (.cells cs Ty f) k) G':=fun G' hG' ⟨c',T',f',p7,mb1⟩=>⟨c',T',f',by rw[M8 _ (Array.getElem?_eq_some_iff.1 p7).1 (hl.l3 G' hG')];exact p7,mb1⟩
 have Ms0:∀b,b≠bx->dr0 u b->dr0 (fo0 u bx (.cells cs Ty f) k) b:=fun b hb ⟨T',f',p7⟩=>⟨T',f',by rw[M8 b (Array.getElem?_eq_some_iff.1 p7).1 hb];exact p7⟩
 have hwk:∀b,b≠bx->(X.B8 b\/X.G4 b≠none)->dr0 u b->w.heap[b]? =w0.heap[b]?:=fun b hb G6 hgn=>C.wf.old b (by
  obtain⟨T',f',p7⟩:=hgn;have:=(Array.getElem?_eq_some_iff.1 p7).1;omega) (fun e=>by
  subst e;have:=C0.C8.2 G (.inl S.l3);exact G6.elim this.1 fun z=>z this.2) hb
 rw[gl0];refine⟨k,⟨⟨ρ',hs',fun b hb=>?_⟩,fun i y hi hy=>?_,l9 0,by simpa using Mr0,(by simp only[Array.size_setIfInBounds,Array.size_map];rw[C.size.2,hN];rfl),fun i p hp=>?_,fun ch hc=>?_,fun i s e=>(by have e':X.N1 i=some s:=e;rw[l9 i]at e';cases e'),fun i j s s' e=>(by have e':X.N1 i=some s:=e;rw[l9 i]at e';cases e'),
  fun b o e=>?_,fun G' e=>.inl (C0.bi0 G' e),⟨fun ch e=>.inl (C0.C8.1 ch e),C0.C8.2⟩,fun G' e=>⟨Uf0 G' (.inl e) (C0.l3 G' e).1,?_⟩,fun G' e=>Uf0 G' (.inr e) (C0.old G' e),fun j hj=>?_,?_,fun i h=>(by cases h),fun i hi h=>?_,(hD 0).trans C.d0,?_⟩,Array.getElem?_setIfInBounds_self_of_lt (by simpa using Mr0)⟩
 ·have Y5:¬X.low b:=fun z=>hb (.inl z);have hb2:b≠bx:=fun z=>hb (.inr (.inl z));have hb3:¬(u.heap.size <=b/\b<u.heap.size+k):=fun z=>hb (.inr (.inr z));show ρ' b=X.k5 b;rcases Nat.lt_or_ge b u.heap.size with h|h
  ·rw[hold b h hb2 fun e=>Y5 (e▸C0.bi0 G S.l3)];exact hlw b Y5
  ·rw[Z0 b (by omega),<- hlw b Y5];exact(hs.new b h).symm
 ·rw[Array.getElem?_setIfInBounds_ne (fun e=>hi e.symm),Array.getElem?_map]at hy;obtain⟨y₀,hy₀,rfl⟩:=Option.map_eq_some_iff.1 hy;have h1:=ia0 i y₀ hi hy₀;rw[woken_of_again (again_of_running h1.status w)];unfold Idle;rw[show(X.jk0 u bx k).N1 i=none from l9 i];exact⟨by omega,by rw[if_neg (by simp),hD];exact h1⟩
 ·have h1:=C0.stays i p hp;obtain⟨c',T',f',p7,_,_⟩:=Z4 h1.1;have:=R5 (u:=u) (u':=fo0 u bx (.cells cs Ty f) k) (a:=p.1) (M8 _ (Array.getElem?_eq_some_iff.1 p7).1 (hl.stay i p hp));rw[this.1,this.2];exact h1
 ·obtain⟨h1,h2,kk,h3⟩:=C0.chans ch hc;have o3:ch≠bx:=fun e=>hl.B8 (e▸hc);exact⟨Ms0 ch o3 h1,h2,kk,by rw[hwk ch o3 (.inl hc) h1];exact h3⟩
 ·obtain⟨h1,h2,p,y,h3,h4⟩:=C0.G4 b o e;have o3:b≠bx:=fun z=>by subst z;have e2:X.G4 b=some o:=e;rw[hl.G4]at e2;cases e2
  exact⟨Ms0 b o3 h1,h2,p,y,by rw[hwk b o3 (.inr (by have e':X.G4 b=some o:=e;rw[e'];simp)) h1];exact h3,h4⟩
 ·have e':X.l3=some G':=e;rw[S.l3]at e';obtain rfl:=Option.some.inj e';have hz:count (fun _=>false) ((gs.map (woken P g g' w)).setIfInBounds 0 g').size=0:=by
   unfold count;generalize ((gs.map (woken P g g' w)).setIfInBounds 0 g').size=m
   induction m with
   |zero=>rfl
   |succ m ih=>show sumTo m _+_=0;rw[ih];rfl
  have hz':(((count (fun _=>false) ((gs.map (woken P g g' w)).setIfInBounds 0 g').size+(X.jk0 u bx k).pend)*KK:Nat):Int)=0:=by
   rw[hz];show(((0+0)*KK:Nat):Int)=0;rw[Nat.zero_add,Nat.zero_mul];rfl
  rw[hz'];exact ga0
 ·simp only[Array.size_setIfInBounds,Array.size_map]at hj;have h2:=C0.above j (by have:=C0.num;have:=C.size.2;omega);exact⟨(hD j).trans (C.above j hj),l9 j,rfl,h2.2.2.2⟩
 ·refine⟨?_,by show(0:Nat) <=65536;omega⟩;have hz:count (fun _=>false) ((gs.map (woken P g g' w)).setIfInBounds 0 g').size=0:=by
   unfold count;generalize ((gs.map (woken P g g' w)).setIfInBounds 0 g').size=m
   induction m with
   |zero=>rfl
   |succ m ih=>show sumTo m _+_=0;rw[ih];rfl
  rw[hz];exact Nat.le_refl _
 ·rcases h with h|h
  ·exact absurd (l9 i) h
  ·exact absurd h hi
 ·have hM:∀x,(X.jk0 u bx k).Mem 0 x->x=0:=fun x hx=>by
   rcases hx with⟨e,_⟩|h
   ·exact e
   ·exact absurd (l9 x) h
  refine⟨p1,fun i a ha hm hns=>.inl (p2 i a ha hm hns),fun i a ha _ x hx hS=>?_,fun x hx=>?_,fun i a x ha hsh hx=>?_⟩
  ·obtain rfl:=hM x hx;obtain⟨h1,h2⟩:=C0.base.Gy0 (l:=a.loc) (i:=0) hS;exact p2 i a ha h1 h2
  ·obtain rfl:=hM x hx;rw[hD];exact C.d0
  ·refine(p3 i a x ha hsh hx).imp (fun z x' D4=>?_) id;rcases D4 with e|e
   ·exact z x' (.inl e)
   ·cases e
end
end
section
attribute [local irreducible] KK
section
variable (P:Program)(G:j5)(A:Addr)(K:Goroutine->Prop)
def WA:Nat->Nat->Goroutine->Prop
 |0,_,_=>False
 |n+1,d,g=>g.status= .running/\((∃g' es,(∀e∈es,GEv G 0 e)/\(∀w,m8 G 0 0 w->stepG P true g w= .go g' w es)/\WA n (deafBehind d es) g')\/(d=0/\∃g',(∀w,stepG P true g w= .go g' w #[⟨.mark (.acquire A),false,true⟩])/\WE P G K n 0 g'))
theorem WA.mono:∀{n m d:Nat} {g:Goroutine},WA P G A K n d g->n <=m->WA P G A K m d g
 |0,_,_,_,h,_=>h.elim
 |n+1,0,_,_,_,hm=>absurd hm (by omega)
 |n+1,m+1,_,_,⟨hr,h⟩,hm=>⟨hr,h.imp (fun⟨g',es,h1,h2,h3⟩=>⟨g',es,h1,h2,WA.mono h3 (by omega)⟩) fun⟨hd,g',h1,h2⟩=>⟨hd,g',h1,WE.mono h2 (by omega)⟩⟩
def Ri0 (n:Nat) (_:PM) (g:Goroutine):Prop:=WH P G (WA P G A K) n none 1 0 g
end
theorem WH.running {P:Program} {G:j5} {E:Nat->Nat->Goroutine->Prop} {n:Nat} {o:Option Nat} {V d:Nat} {g:Goroutine} (h:WH P G E n o V d g):g.status= .running:=by
 cases n with
 |zero=>exact h.elim
 |succ n=>
  unfold WH at h;rcases h with⟨_,_,hh,_⟩|hh
  ·exact hh.1
  ·exact hh.1
theorem WS.running {P:Program} {G:j5} {E:Nat->Nat->Goroutine->Prop} {n d:Nat} {g:Goroutine} (h:WS P G E n d g):g.status= .running:=by
 cases n with
 |zero=>exact h.elim
 |succ n=>
  rcases h with⟨_,_,hh,_⟩|⟨_,hh⟩
  ·exact hh.1
  ·exact hh.1
def kr0:Bd->Nat
 | .up _=>1
 |_=>0
theorem Mt0 {σ:Bd} (h:frB σ=true):bst σ=(((kr0 σ*KK:Nat):Int),0):=by
 cases σ with
 |up wt=>
  cases wt with
  |false=>show((((0+1)*KK+0:Nat):Int),(0:Int))=_;rw[Nat.add_zero,Nat.zero_add];rfl
  |true=>cases h
 |out=>show((0:Int),(0:Int))=(((0*KK:Nat):Int),0);rw[Nat.zero_mul];rfl
 |last s=>cases h
 |done=>cases h
structure xi0 (P:Program) (Post:Value->World->Prop) (X:Gh) (G:j5) (c bx:Nat) (u w0:World) (L0 Lc:m4) (A:Addr) (ox:Obj) (N:Nat) (K:Goroutine->Prop):Prop where
 ring:∃live T0 gs0 q0,Ring P X 0 u live T0 gs0 w0 q0
 no:∀i,X.N1 i=none
 ca0:aq0 X bx
 blt:bx<u.heap.size
 st:StB X G c bx w0 L0 Lc
 num:N=X.n+1
 isx:∃cs T f,ox= .cells cs T f
 k:∀k g,K g->Fin P Post (X.jk0 u bx k) 0 g (fo0 u bx ox k)
section
variable {P:Program}{Post:Value->World->Prop}{X:Gh}{G:j5}{c bx n0:Nat}{u w0:World}{L0 Lc:m4}{A:Addr}{ox:Obj}{N:Nat}{K:Goroutine->Prop}{σ σ':Bd}{r:Option Nat}{k8 pm0' E7:PM}{d:Nat}{T:Trace}{gs:Array Goroutine}{w w':World}{q:Nat->Nat}
theorem Rb.awake {Fp:PM->Prop} (C:Rb P X G c bx n0 w0 L0 Lc A Fp N σ r k8 E7 d T gs w q) {a:Goroutine} (ha:gs[0]? =some a) (hs:a.status= .running\/a.status= .blocked):∀g∈gs,awake g:=by
 intro g hg;obtain⟨i,hi,rfl⟩:=Array.mem_iff_getElem.1 hg;by_cases e:i=0
 ·subst e;have:gs[0]=a:=by simpa [Array.getElem?_eq_getElem hi]using ha
  rw[this];exact awake_of (hs.elim .inl fun x=>.inr (.inl x))
 ·exact awake_of ((C.status e (Array.getElem?_eq_getElem hi)).elim .inl fun x=>.inr (.inr x))
theorem Rb.main {Fp:PM->Prop} (C:Rb P X G c bx n0 w0 L0 Lc A Fp N σ r k8 E7 d T gs w q) (hc0:c≠0) {g g':Goroutine} {es:Array Event} (tb':TB X.Sh (UsB c σ') c n0 L0 Lc (BM pm0') (BM E7) A r (T++MemOp.ofEvents 0 g.frame.fn g.frame.place es)) (wf':WF G bx w0 w') (Fa0:∀x,x∈pm0'\/x∈E7->(x.1=bx\/w0.heap.size <=x.1)/\w'.heap[x.1]? =some x.2) (Cm0:Apart L0 Lc (BM pm0') (BM E7)) (Mp0:m8 G (bst σ').1 (bst σ').2 w')
  (G6:∀d n y,fm0 P G Lc A Fp σ r E7 d n y->fm0 P G Lc A Fp σ' r E7 d n y):Rb P X G c bx n0 w0 L0 Lc A Fp N σ' r pm0' E7 (deafBehind d es) (T++MemOp.ofEvents 0 g.frame.fn g.frame.place es) ((gs.map (woken P g g' w')).setIfInBounds 0 g') w' q/\((gs.map (woken P g g' w')).setIfInBounds 0 g')[0]? =some g':=by
 have I2:((gs.map (woken P g g' w')).setIfInBounds 0 g').size=gs.size:=by simp
 have hs0:0<gs.size:=by have:=C.size.1;omega
 have hdo:∀x,x≠0->Deaf (T++MemOp.ofEvents 0 g.frame.fn g.frame.place es) x=Deaf T x:=fun x hx=>Deaf_other T (Ne.symm hx) _ G2;have zl0:∀x y,x≠0->((gs.map (woken P g g' w')).setIfInBounds 0 g')[x]? =some y->gs[x]? =some y:=fun x y hx hy=>by
  rw[Array.getElem?_setIfInBounds_ne (fun z=>hx z.symm),Array.getElem?_map]at hy;obtain⟨y₀,hy₀,rfl⟩:=Option.map_eq_some_iff.1 hy;rw[woken_of_again (again_of_running (C.status hx hy₀) w')];exact hy₀
 refine⟨⟨wf',tb',by rw[Array.size_append];have:=C.n0;omega,by rw[Deaf_own,C.d0],Fa0,Cm0,fun y hy=>?_,fun x y hx hxc hy=>?_,Mp0,by rw[I2];exact C.size,fun j hj=>?_,C.fin⟩,Array.getElem?_setIfInBounds_self_of_lt (by simpa using hs0)⟩
 ·rw[hdo c hc0];exact G6 _ _ _ (C.child y (zl0 c y hc0 hy))
 ·rw[hdo x hx];exact C.rest x y hx hxc (zl0 x y hx hy)
 ·rw[I2]at hj;rw[hdo j (by omega)];exact C.above j hj
theorem Rb.ot0 {Fp:PM->Prop} (C:Rb P X G c bx n0 w0 L0 Lc A Fp N σ r k8 E7 d T gs w q) (S:StB X G c bx w0 L0 Lc) {g g':Goroutine} {es:Array Event} (hes:∀e∈es,GEv G 0 e) (hU:∀x,UsB c σ' x->UsB c σ x) (hw:w'=w\/∃a v,a.block=G.blk/\a.spot=none/\G.off <=a.off/\w'=w.setCell a v) (Mp0:m8 G (bst σ').1 (bst σ').2 w')
  (G6:∀d n y,fm0 P G Lc A Fp σ r E7 d n y->fm0 P G Lc A Fp σ' r E7 d n y):Rb P X G c bx n0 w0 L0 Lc A Fp N σ' r k8 E7 (deafBehind d es) (T++MemOp.ofEvents 0 g.frame.fn g.frame.place es) ((gs.map (woken P g g' w')).setIfInBounds 0 g') w' q/\((gs.map (woken P g g' w')).setIfInBounds 0 g')[0]? =some g':=by
 refine C.main S.c0 ((C.tb.l3 C.n0 S.l3 hes (.inr ⟨.inl rfl,fun h=>absurd rfl h⟩)).leave hU) ?_ ?_ C.apart Mp0 G6
 ·rcases hw with rfl|⟨a,v,h1,h2,h3,rfl⟩
  ·exact C.wf
  ·exact C.wf.Mm0 C.W6 h1 h2 h3 v
 ·intro x hx;have:=C.own x hx;refine⟨this.1,?_⟩;rcases hw with rfl|⟨a,v,h1,h2,h3,rfl⟩
  ·exact this.2
  ·rw[K1 w _ (by rw[h1];exact S.ng this.1)];exact this.2
theorem xi0.wa (B:xi0 P Post X G c bx u w0 L0 Lc A ox N K):∀(μ n d:Nat) (g:Goroutine) r k8 E7 T gs w sl q,μ=n+sumTo gs.size q->Rb P X G c bx n0 w0 L0 Lc A (fun pm=>(bx,ox)∈pm) N .out r k8 E7 d T gs w q->gs[0]? =some g->WA P G A K n d g->Ends P Post (crowd gs w sl) T:=by
 intro μ
 induction μ using Nat.strongRecOn with
 |_ μ ih=>
  intro n d g r k8 E7 T gs w sl q hμ C h0 hW;cases n with
  |zero=>exact hW.elim
  |succ n=>
   obtain⟨hr,hW'⟩:=hW;obtain⟨i,gi,dd,z5,hi,hgi,T2⟩:=crowd_pick (P:=P) (w:=w) (sl:=sl) (C.awake h0 (.inl hr)) ⟨0,g,h0,hr⟩;have Cd:=C.at dd;by_cases e:i=0
   ·subst e;rcases hW' with⟨g',es,hes,A3,hW'⟩|⟨rfl,g',A3,hE⟩
    ·obtain⟨C',P2⟩:=Cd.ot0 B.st (g:=g) (g':=g') (σ':=.out) (w':=w.at dd) hes (fun _ h=>h) (.inl rfl) Cd.W6 (fun _ _ _ h=>h);exact Ends.step (T2.trans (runT_crowd_go (sl:=z5) (i:=0) h0 (A3 _ Cd.W6))) (ih _ (by simp only[Array.size_setIfInBounds,Array.size_map];omega) n _ g' _ _ _ _ _ _ z5 q rfl C' P2 hW')
    ·obtain⟨live,T0,gs0,q0,R0⟩:=B.ring;obtain⟨cs,Ty,f,rfl⟩:=B.isx;have G6:∃gc,gs[c]? =some gc:=⟨_,Array.getElem?_eq_getElem C.size.1⟩
     obtain⟨gc,hgc⟩:=G6;obtain⟨k,R,P2⟩:=ring_end R0 B.no B.ca0 B.blt B.st B.num Cd (C.fin (C.child gc hgc).1) (g':=g') h0;exact Ends.step (T2.trans (runT_crowd_go (sl:=z5) (i:=0) h0 (A3 _))) (Fin.we (X:=X.jk0 u bx k) B.st.l3 (fun g hg=>B.k k g hg) n 0 g' hE _ _ _ _ _ _ P2 R)
   ·obtain⟨c5,ops,q',w',σ',r',pmc',hrt,I2,h0',C',Y1,_,_,bk0⟩:=Cd.by (sl:=z5) B.st hi e hgi
    have hσ:=bk0 rfl;subst hσ;refine Ends.step (T2.trans hrt) (ih _ (by omega) (n+1) d g r' k8 pmc' _ c5 w' z5 q' rfl C' ?_ ⟨hr,hW'⟩);rcases h0' g h0 with z|z
    ·exact z
    ·rw[again_of_running (.inl hr)]at z;exact z
theorem xi0.sem (B:xi0 P Post X G c bx u w0 L0 Lc A ox N K):∀(μ n d:Nat) (g:Goroutine) (b:Bool) σ r k8 E7 T gs w sl q,μ=3*sumTo gs.size q+3*n+(if b then 1 else 0)->Rb P X G c bx n0 w0 L0 Lc A (fun pm=>(bx,ox)∈pm) N σ r k8 E7 d T gs w q->frB σ=false ->
  (if b then gs[0]? =some g/\WS P G (WA P G A K) n d g else σ≠.done/\gs[0]? =some {g with status:=.blocked}/\∃k,n=k+1/\0<d/\Hb0 P G (WA P G A K) k d g)->Ends P Post (crowd gs w sl) T:=by
 intro μ
 induction μ using Nat.strongRecOn with
 |_ μ ih=>
  intro n d g b σ r k8 E7 T gs w sl q hμ C hmf hb;have G6:∃gc,gs[c]? =some gc:=⟨_,Array.getElem?_eq_getElem C.size.1⟩
  obtain⟨gc,hgc⟩:=G6;have ya0:(∃(i:Nat) (g:Goroutine),gs[i]? =some g/\g.status= .running)/\∀g∈gs,awake g:=by
   cases b with
   |true=>obtain⟨h0,hW⟩:=hb;exact⟨⟨0,g,h0,hW.running⟩,C.awake h0 (.inl hW.running)⟩
   |false=>
    obtain⟨hmd,h0,k,_,_,_⟩:=hb;refine⟨⟨c,gc,hgc,?_⟩,C.awake h0 (.inr rfl)⟩;have hI:=C.child gc hgc;cases σ with
    |up wt=>rcases hI with⟨_,_,h⟩|⟨_,h⟩;exact h.running fun _ _ _ z=>z.1;exact h.running
    |last s=>exact hI.2.2.running
    |out=>cases hmf
    |done=>exact absurd rfl hmd
  obtain⟨i,gi,dd,z5,hi,hgi,T2⟩:=crowd_pick (P:=P) (w:=w) (sl:=sl) ya0.2 ya0.1;have Cd:=C.at dd;by_cases e:i=0
  ·subst e;cases b with
   |false=>obtain⟨_,h0,_⟩:=hb;rw[h0]at hi;obtain rfl:=Option.some.inj hi;cases hgi
   |true=>
    obtain⟨h0,hW⟩:=hb;rw[h0]at hi;obtain rfl:=Option.some.inj hi;cases n with
    |zero=>exact hW.elim
    |succ n=>
     rcases hW with⟨g',es,⟨_,_,hes,A3⟩,hW⟩|⟨hd0,hr,ho,vq0,g',Hg0,hE⟩
     ·obtain⟨C',P2⟩:=Cd.ot0 B.st (g:=g) (g':=g') (σ':=σ) (w':=w.at dd) hes (fun _ h=>h) (.inl rfl) Cd.W6 (fun _ _ _ h=>h);exact Ends.step (T2.trans (runT_crowd_go (sl:=z5) (i:=0) h0 (A3 _ _ _ Cd.W6))) (ih _ (by simp only[Array.size_setIfInBounds,Array.size_map];rw[hμ];simp only[if_true];omega) n _ g' true σ _ _ _ _ _ _ z5 q rfl C' hmf ⟨P2,hW⟩)
     ·have blk:σ≠.done->(∃st,m8 G st 0 (w.at dd))->Ends P Post (crowd gs w sl) T:=fun hmd ⟨st,hat⟩=>by
       have hgo:=vq0 _ _ hat;have hrt:=runT_crowd_go (P:=P) (sl:=z5) (i:=0) h0 hgo;rw[show(MemOp.ofEvents 0 g.frame.fn g.frame.place #[]:Array MemOp)=#[] from rfl]at hrt;obtain⟨C',P2⟩:=Cd.ot0 B.st (g:=g) (g':={g with status:=.blocked}) (es:=#[]) (σ':=σ) (w':=w.at dd) (fun e he=>by simp at he) (fun _ h=>h) (.inl rfl) Cd.W6 (fun _ _ _ h=>h);rw[show(MemOp.ofEvents 0 g.frame.fn g.frame.place #[]:Array MemOp)=#[] from rfl]at C';exact Ends.step (T2.trans hrt) (ih _ (by simp only[Array.size_setIfInBounds,Array.size_map];rw[hμ];simp) (n+1) d g false σ _ _ _ _ _ _ z5 q rfl C' hmf ⟨hmd,P2,n,rfl,hd0,hr,ho,vq0,g',Hg0,hE⟩)
      cases σ with
      |out=>cases hmf
      |up wt=>exact blk (fun e=>by cases e) ⟨_,Cd.W6⟩
      |last s=>exact blk (fun e=>by cases e) (by
        have:=Cd.W6;cases s with
        |zero=>exact⟨_,this⟩
        |succ s=>exact⟨_,this⟩)
      |done=>
       obtain⟨C',P2⟩:=Cd.ot0 B.st (g:=g) (g':=g') (es:=semEvents (smA G)) (σ':=.out) (w':=(w.at dd).setCell (smA G) (.int .u32 0)) lz0 (fun _ h=>h) (.inr ⟨_,_,rfl,rfl,Nat.le_succ _,rfl⟩) (Cd.W6.setSm 0) (fun _ _ _ h=>h);rw[ic0]at C';exact Ends.step (T2.trans (runT_crowd_go (sl:=z5) (i:=0) h0 (Hg0 _ Cd.W6))) (B.wa _ n d g' _ _ _ _ _ _ z5 q rfl C' P2 hE)
  ·obtain⟨c5,ops,q',w',σ',r',pmc',hrt,I2,h0',C',Y1,hfr,Hi0,_⟩:=Cd.by (sl:=z5) B.st hi e hgi
   rw[hmf]at hfr;refine Ends.step (T2.trans hrt) ?_;cases b with
   |true=>
    obtain⟨h0,hW⟩:=hb;refine ih _ (by rw[hμ];simp only[if_true];omega) n d g true σ' r' k8 pmc' _ c5 w' z5 q' rfl C' hfr ⟨?_,hW⟩;rcases h0' g h0 with z|z
    ·exact z
    ·rw[again_of_running (.inl hW.running)]at z;exact z
   |false=>
    obtain⟨hmd,h0,k,hk,hd0,vr0⟩:=hb;have hA:c5[0]? =some (({g with status:=.blocked}:Goroutine).again w')->Ends P Post (crowd c5 w' z5) (T++ops):=fun z=>by
     rw[again_blocked vr0.1 vr0.2.1]at z;exact ih _ (by rw[hμ];simp only[if_true];simp;omega) n d g true σ' r' k8 pmc' _ c5 w' z5 q' rfl C' hfr ⟨z,by rw[hk];exact .inr ⟨hd0,vr0⟩⟩
    by_cases V9:σ'= .done
    ·exact hA ((Hi0 V9).resolve_left hmd _ h0)
    ·rcases h0' _ h0 with z|z
     ·exact ih _ (by rw[hμ];simp;omega) n d g false σ' r' k8 pmc' _ c5 w' z5 q' rfl C' hfr ⟨V9,z,k,hk,hd0,vr0⟩
     ·exact hA z
theorem xi0.head (B:xi0 P Post X G c bx u w0 L0 Lc A ox N K):∀(μ n:Nat) (o:Option Nat) (V d:Nat) (g:Goroutine) σ r k8 E7 T gs w sl q,μ=n+sumTo gs.size q->Rb P X G c bx n0 w0 L0 Lc A (fun pm=>(bx,ox)∈pm) N σ r k8 E7 d T gs w q->frB σ=true->gs[0]? =some g->WH P G (WA P G A K) n o V d g ->
  (match o with|none=>kr0 σ <=V|some vs=>0<vs/\kr0 σ <=vs)->Ends P Post (crowd gs w sl) T:=by
 intro μ
 induction μ using Nat.strongRecOn with
 |_ μ ih=>
  intro n o V d g σ r k8 E7 T gs w sl q hμ C hfr h0 hW hV;have hr:=hW.running;cases n with
  |zero=>exact hW.elim
  |succ n=>
   obtain⟨i,gi,dd,z5,hi,hgi,T2⟩:=crowd_pick (P:=P) (w:=w) (sl:=sl) (C.awake h0 (.inl hr)) ⟨0,g,h0,hr⟩;have Cd:=C.at dd;by_cases e:i=0
   ·subst e;rw[h0]at hi;obtain rfl:=Option.some.inj hi;have hat:m8 G ((kr0 σ*KK:Nat):Int) 0 (w.at dd):=by have:=Cd.W6;rw[Mt0 hfr]at this;exact this
    unfold WH at hW;rcases hW with⟨g',es,⟨_,_,hes,A3⟩,hW⟩|⟨_,hW⟩
    ·obtain⟨C',P2⟩:=Cd.ot0 B.st (g:=g) (g':=g') (σ':=σ) (w':=w.at dd) hes (fun _ h=>h) (.inl rfl) Cd.W6 (fun _ _ _ h=>h);exact Ends.step (T2.trans (runT_crowd_go (sl:=z5) (i:=0) h0 (A3 _ _ _ hat))) (ih _ (by simp only[Array.size_setIfInBounds,Array.size_map];omega) n o V _ g' σ _ _ _ _ _ _ z5 q rfl C' hfr P2 hW hV)
    ·have mt0:∀g',stepG P true g (w.at dd)= .go g' (w.at dd) #[rdA (stA G)]->(∀T' c5,Rb P X G c bx n0 w0 L0 Lc A (fun pm=>(bx,ox)∈pm) N σ r k8 E7 d T' c5 (w.at dd) q->c5.size=gs.size->c5[0]? =some g'->Ends P Post (crowd c5 (w.at dd) z5) T')->Ends P Post (crowd gs w sl) T:=fun g' hgo hk=>by
      obtain⟨C',P2⟩:=Cd.ot0 B.st (g:=g) (g':=g') (es:=#[rdA (stA G)]) (σ':=σ) (w':=w.at dd) jv0 (fun _ h=>h) (.inl rfl) Cd.W6 (fun _ _ _ h=>h);rw[deafBehind_still v9]at C';exact Ends.step (T2.trans (runT_crowd_go (sl:=z5) (i:=0) h0 hgo)) (hk _ _ C' (by simp) P2)
     cases o with
     |none=>
      have hV':kr0 σ <=V:=hV;obtain⟨g',A3,hz,hnz⟩:=hW (kr0 σ) hV';refine mt0 g' (A3 _ hat) fun T' c5 C' I2 P2=>?_;by_cases hc:kr0 σ=0
      ·have hσ:σ= .out:=by
        cases σ with
        |out=>rfl
        |up wt=>cases hc
        |last s=>cases hfr
        |done=>cases hfr
       subst hσ;exact B.wa _ n d g' _ _ _ _ _ _ z5 q rfl C' P2 (hz hc)
      ·exact ih _ (by rw[I2];omega) n (some (kr0 σ)) V d g' σ _ _ _ T' c5 _ z5 q rfl C' hfr P2 (hnz hc) ⟨by omega,Nat.le_refl _⟩
     |some vs=>
      obtain⟨hvs,hle⟩:=hV;obtain⟨⟨g1,Eq0,hS⟩,Hj0⟩:=hW;by_cases hc:kr0 σ=vs
      ·have hσ:σ= .up false:=by
        cases σ with
        |out=>have h2:0=vs:=hc;omega
        |up wt=>cases wt with
         |false=>rfl
         |true=>cases hfr
        |last s=>cases hfr
        |done=>cases hfr
       subst hσ;have mc1:vs=1:=hc.symm;subst mc1;have e1:(((1*KK+1:Nat)):Int)=(bst (.up true)).1:=by show _=((((0+1)*KK+(if true=true then 1 else 0):Nat)):Int);rw[Nat.zero_add];rfl
       obtain⟨C',P2⟩:=Cd.ot0 B.st (g:=g) (g':=g1) (es:=#[rdA (stA G),wrA (stA G)]) (σ':=.up true) (w':=(w.at dd).setCell (stA G) (.int .u64 ((1*KK+1:Nat):Int))) ar0 (fun _ h=>h) (.inr ⟨_,_,rfl,rfl,Nat.le_refl _,rfl⟩) (by
        have:=Cd.W6.setSt ((1*KK+1:Nat):Int);rw[<- e1];exact this) (fun _ _ _ h=>h)
       rw[ju0]at C';exact Ends.step (T2.trans (runT_crowd_go (sl:=z5) (i:=0) h0 (Eq0 _ hat))) (B.sem _ n d g1 true (.up true) _ _ _ _ _ _ z5 q rfl C' rfl ⟨P2,hS⟩)
      ·obtain⟨g',A3,hH⟩:=Hj0 (kr0 σ) (by omega);refine mt0 g' (A3 _ hat) fun T' c5 C' I2 P2=>?_;exact ih _ (by rw[I2];omega) n none (kr0 σ) d g' σ _ _ _ T' c5 _ z5 q rfl C' hfr P2 hH (Nat.le_refl _)
   ·obtain⟨c5,ops,q',w',σ',r',pmc',hrt,I2,h0',C',Y1,zm0,_,bk0⟩:=Cd.by (sl:=z5) B.st hi e hgi
    rw[hfr]at zm0;have e7:kr0 σ' <=kr0 σ:=by
     cases σ with
     |out=>rw[bk0 rfl];exact Nat.le_refl _
     |up wt=>cases σ' <;> first|exact Nat.le_refl _|exact Nat.zero_le _
     |last s=>cases hfr
     |done=>cases hfr
    refine Ends.step (T2.trans hrt) (ih _ (by omega) (n+1) o V d g σ' r' k8 pmc' _ c5 w' z5 q' rfl C' zm0 ?_ hW ?_)
    ·rcases h0' g h0 with z|z
     ·exact z
     ·rw[again_of_running (.inl hr)]at z;exact z
    ·cases o with
     |none=>exact Nat.le_trans e7 hV
     |some vs=>exact⟨hV.1,Nat.le_trans e7 hV.2⟩
theorem xi0.path (B:xi0 P Post X G c bx u w0 L0 Lc A ox N K):∀(μ n:Nat) (g:Goroutine) σ r k8 E7 T gs w sl q,μ=n+sumTo gs.size q->Rb P X G c bx n0 w0 L0 Lc A (fun pm=>(bx,ox)∈pm) N σ r k8 E7 0 T gs w q->frB σ=true->gs[0]? =some g->MP P true G L0 (Ri0 P G A K) n k8 g->Ends P Post (crowd gs w sl) T:=by
 intro μ
 induction μ using Nat.strongRecOn with
 |_ μ ih=>
  intro n g σ r k8 E7 T gs w sl q hμ C hfr h0 hW;have hr:g.status= .running:=hW.running fun n pm g z=>WH.running (show WH P G (WA P G A K) n none 1 0 g from z);cases n with
  |zero=>exact hW.elim
  |succ n=>
   unfold MP at hW;rcases hW with hE|⟨_,hW⟩
   ·exact B.head _ n none 1 0 g σ r k8 E7 T gs w sl q rfl C hfr h0 hE (by cases σ <;> first|exact Nat.le_refl _|exact Nat.zero_le _)
   obtain⟨i,gi,dd,z5,hi,hgi,T2⟩:=crowd_pick (P:=P) (w:=w) (sl:=sl) (C.awake h0 (.inl hr)) ⟨0,g,h0,hr⟩;have Cd:=C.at dd;by_cases e:i=0
   ·subst e;rw[h0]at hi;obtain rfl:=Option.some.inj hi;rcases hW with⟨g',es,hr',hes,A3,hM⟩|⟨g',b,cs,T1,o,v,es,hr',hm,hes,A3,hM⟩|⟨gf,cs,T1,hr',A3,hM⟩
    ·have hd:deafBehind 0 es=0:=deafBehind_still (fun e he=>(hes e he).on.2.2) _;obtain⟨C',P2⟩:=Cd.main B.st.c0 (g:=g) (g':=g') (es:=es) (σ':=σ) (pm0':=k8) (w':=w.at dd) (Cd.tb.own Cd.apart Cd.n0 G2 (fun op W5 bb hb=>by
      obtain⟨e,he,rfl⟩:=Go.Conc.mem_ofEvents W5;have:=(hes e he).on.1 bb hb;exact⟨B.st.on0 Cd.fw1 this,.inl ⟨rfl,this⟩⟩) fun _=>norel_of fun e he=>(hes e he).on.2.1) Cd.wf Cd.own Cd.apart Cd.W6 (fun _ _ _ h=>h)
     rw[hd]at C';exact Ends.step (T2.trans (runT_crowd_go (sl:=z5) (i:=0) h0 (A3 _ (Cd.Mn0 B.st)))) (ih _ (by simp only[Array.size_setIfInBounds,Array.size_map];omega) n g' σ _ _ _ _ _ _ z5 q rfl C' hfr P2 hM)
    ·have hd:deafBehind 0 es=0:=deafBehind_still (fun e he=>(fn0 (L:=L0) hm (hes e he)).2.2) _;have hob:=(Cd.own _ (.inl hm))
     have hng:=B.st.ng hob.1;obtain⟨C',P2⟩:=Cd.main B.st.c0 (g:=g) (g':=g') (es:=es) (σ':=σ) (pm0':=lp0 k8 b (.cells (cs.setIfInBounds o v) T1 (0,0))) (w':=(w.at dd).setCell ⟨b,o,none⟩ v) ((Cd.tb.own Cd.apart Cd.n0 G2 (fun op W5 bb hb=>by
      obtain⟨e,he,rfl⟩:=Go.Conc.mem_ofEvents W5;have:=(fn0 (L:=L0) hm (hes e he)).1 bb hb;exact⟨B.st.on0 Cd.fw1 this,.inl ⟨rfl,this⟩⟩) fun _=>norel_of fun e he=>(fn0 (L:=L0) hm (hes e he)).2.1).grow (fun k hk=>by
       obtain⟨x,hx⟩:=hk;by_cases e:k=b
       ·exact⟨.cells (cs.setIfInBounds o v) T1 (0,0),List.mem_map.2 ⟨(k,x),hx,by rw[if_pos e,e]⟩⟩
       ·exact⟨x,List.mem_map.2 ⟨(k,x),hx,by rw[if_neg e]⟩⟩) fun _ h=>h) (Cd.wf.cell v hob.1 hng) (fun x hx=>by
       rcases hx with hx|hx
       ·rcases mem_set hx with⟨rfl,_⟩|⟨hx,hxb⟩
        ·exact⟨hob.1,heap_put hob.2⟩
        ·have h1:=Cd.own x (.inl hx);exact⟨h1.1,by rw[K1 _ v (a:=⟨b,o,none⟩) hxb];exact h1.2⟩
       ·have h1:=Cd.own x (.inr hx);have:x.1≠b:=fun e=>Cd.apart.own x.1 ⟨_,by rw[e];exact hm⟩ ⟨x.2,hx⟩;exact⟨h1.1,by rw[K1 _ v (a:=⟨b,o,none⟩) this];exact h1.2⟩)
      ⟨Cd.apart.l0,fun p hp h=>Cd.apart.lc p hp (xf0 h),fun bb h h'=>Cd.apart.own bb (xf0 h) h'⟩ (Cd.W6.of_block (K1 _ v (a:=⟨b,o,none⟩) (Ne.symm hng))) (fun _ _ _ h=>h)
     rw[hd]at C';exact Ends.step (T2.trans (runT_crowd_go (sl:=z5) (i:=0) h0 (A3 _ (Cd.Mn0 B.st)))) (ih _ (by simp only[Array.size_setIfInBounds,Array.size_map];omega) n g' σ _ _ _ _ _ _ z5 q rfl C' hfr P2 hM)
    ·have I2:=Cd.wf.size;have md1:w0.heap.size <=w.heap.size:=I2;obtain⟨C',P2⟩:=Cd.main B.st.c0 (g:=g) (g':=gf w.heap.size) (es:=#[]) (σ':=σ) (pm0':=(w.heap.size,.cells cs T1 (0,0))::k8) (w':=(w.at dd).alloc (.cells cs T1 (0,0))) ((Cd.tb.mute Cd.n0 (fun op W5=>by
      obtain⟨e,he,rfl⟩:=Go.Conc.mem_ofEvents W5;simp at he) fun _=>norel_of fun e he=>by simp at he).grow (fun k ⟨x,hx⟩=>⟨x,List.mem_cons_of_mem _ hx⟩) fun _ h=>h) (Cd.wf.alloc _ B.st.Gc0.1) (fun x hx=>by
       rcases hx with hx|hx
       ·rcases List.mem_cons.1 hx with rfl|hx
        ·exact⟨.inr md1,heap_alloc_new (w:=w.at dd)⟩
        ·have:=Cd.own x (.inl hx);exact⟨this.1,heap_alloc this.2⟩
       ·have:=Cd.own x (.inr hx);exact⟨this.1,heap_alloc this.2⟩)
      ⟨Cd.apart.l0,fun p hp h=>by
       obtain⟨x,hx⟩:=h;rcases List.mem_cons.1 hx with e|hx
       ·have:=(B.st.st p (.inr hp)).2.1;have e:=congrArg Prod.fst e;simp only at e;omega
       ·exact Cd.apart.lc p hp ⟨x,hx⟩,fun bb h h'=>by
       obtain⟨x,hx⟩:=h;rcases List.mem_cons.1 hx with e|hx
       ·obtain⟨y,hy⟩:=h';have h1:bb<w.heap.size:=xg0 (Cd.own _ (.inr hy)).2;have e:=congrArg Prod.fst e;simp only at e;omega
       ·exact Cd.apart.own bb ⟨x,hx⟩ h'⟩ (Cd.W6.of_block (by
       show(w.heap.push _)[G.blk]? =w.heap[G.blk]?;rw[Array.getElem?_push,if_neg (by have:=B.st.Gc0.1;omega)])) (fun _ _ _ h=>h)
     exact Ends.step (T2.trans (runT_crowd_go (sl:=z5) (i:=0) h0 (A3 _))) (ih _ (by simp only[Array.size_setIfInBounds,Array.size_map];omega) n (gf w.heap.size) σ _ _ _ _ _ _ z5 q rfl C' hfr P2 (hM w.heap.size))
   ·obtain⟨c5,ops,q',w',σ',r',pmc',hrt,I2,h0',C',Y1,zm0,_,_⟩:=Cd.by (sl:=z5) B.st hi e hgi
    rw[hfr]at zm0;refine Ends.step (T2.trans hrt) (ih _ (by omega) (n+1) g σ' r' k8 pmc' _ c5 w' z5 q' rfl C' zm0 ?_ (by unfold MP;exact .inr ⟨hr,hW⟩));rcases h0' g h0 with z|z
    ·exact z
    ·rw[again_of_running (.inl hr)]at z;exact z
end
end
section
attribute [local irreducible] KK
theorem Fin.beside {P:Program} {Post:Value->World->Prop} {X:Gh} {u:World} {g g1 child:Goroutine} {G:j5} {bx nc np:Nat} {ox0 ox:Obj} {L0 Lc:m4} {A:Addr} {K:Goroutine->Prop} (H4:g.status= .running) (V9:X.dn=0) (ky0:X.pend=1) (gm0:X.cap=1) (hG:X.l3=some G) (l9:∀i,X.N1 i=none)
  (hgo:∀w,stepG P true g w= .spawn g1 child w #[]) (hl:aq0 X bx) (hw:¬X.low bx) (hpl:X.k5 bx= .all) (hb:u.heap[bx]? =some ox0) (T2:∀p,p∈L0\/p∈Lc->u.cell? p.1=some p.2/\p.1.block≠bx/\¬GB X p.1.block)
  (Yp0:MP P true G L0 (Ri0 P G A K) np [] g1) (G6:MP P false G Lc (Cl0 P G A (fun pm=>(bx,ox)∈pm)) nc [(bx,ox0)] child) (hox:∃cs T f,ox= .cells cs T f) (hK:∀k g,K g->Fin P Post (X.jk0 u bx k) 0 g (fo0 u bx ox k)):Fin P Post X 0 g u:=by
 refine Fin.Z9 H4 fun live T gs w sl d z5 q hg A3 C=>?_;have hrt:=runT_crowd_spawn (P:=P) (sl:=z5) (i:=0) hg (hgo (w.at d));have Gx0:(((MemOp.ofEvents 0 g.frame.fn g.frame.place #[]:Array MemOp).push {g:=0,fn:=g.frame.fn,pos:=g.frame.place,act:=.go gs.size}).push {g:=gs.size,fn:=child.frame.fn,pos:=g.frame.place,act:=.start})=
   #[{g:=0,fn:=g.frame.fn,pos:=g.frame.place,act:=.go gs.size},{g:=gs.size,fn:=child.frame.fn,pos:=g.frame.place,act:=.start}]:=rfl
 rw[Gx0]at hrt;refine Ends.step (A3.trans hrt) ?_;have h0:=C.size;have vo0:=C.above gs.size (Nat.le_refl _);have hc0:gs.size≠0:=by omega
 obtain⟨ρ,hs,hlw⟩:=C.sim;have I2:(w.at d).heap.size=u.heap.size:=hs.size;have hz:count live gs.size=0:=by have:=C.few;omega
 have mp0:∀i,live i=false:=fun i=>by
  rcases Nat.lt_or_ge i gs.size with hi|hi
  ·cases e:live i with
   |false=>rfl
   |true=>have:=count_le hi e;omega
  ·exact(C.above i hi).2.2.1
 have pj0:∀G',(X.l3=some G'\/G'∈X.old)->Cut u G':=fun G' hG'=>hG'.elim (fun e=>(C.l3 G' e).1) (C.old G');have S:StB X G gs.size bx (w.at d) L0 Lc:=by
  refine⟨hG,hc0,fun p hp=>?_,⟨by rw[I2];exact(Array.getElem?_eq_some_iff.1 hb).1,fun⟨G',hG',e⟩=>hl.l3 G' hG' e.symm⟩,fun b ⟨G',hG',e⟩=>?_⟩
  ·obtain⟨h1,h2,h3⟩:=T2 p hp;obtain⟨c',T',f',p7,_,_⟩:=Z4 h1;exact⟨hs.cell (u:=N2 u (w.at d).tape (w.at d).drawn) h1,by rw[I2];exact(Array.getElem?_eq_some_iff.1 p7).1,h2,h3⟩
  ·obtain⟨c',T',f',p7,_⟩:=pj0 G' hG';rw[I2,e];exact(Array.getElem?_eq_some_iff.1 p7).1
 have B:xi0 P Post X G gs.size bx u (w.at d) L0 Lc A ox (X.n+1) K:=⟨⟨live,T,gs,q,C⟩,l9,hl,(Array.getElem?_eq_some_iff.1 hb).1,S,rfl,hox,hK⟩
 generalize hu:(#[{g:=0,fn:=g.frame.fn,pos:=g.frame.place,act:=.go gs.size},{g:=gs.size,fn:=child.frame.fn,pos:=g.frame.place,act:=.start}]:Trace)=U;have hn:∀op∈U,op.act.touch? =none:=by
  intro op W5;subst hu;simp only[List.mem_toArray,List.mem_cons,List.not_mem_nil,or_false]at W5;rcases W5 with rfl|rfl <;> rfl
 have hD:∀x,Deaf (T++U) x=Deaf T x:=fun x=>Deaf_quiet (fun op W5 d=>by
  subst hu;simp only[List.mem_toArray,List.mem_cons,List.not_mem_nil,or_false]at W5;rcases W5 with rfl|rfl <;> rfl)
 have p:=PastH.born (c:=gs.size) C.past (.inl ⟨rfl,V9⟩) vo0.1 (fun l ⟨p,hp,_⟩=>by rw[vo0.2.2.2]at hp;cases hp) (.inl rfl) g.frame.fn g.frame.place child.frame.fn;rw[hu]at p;have hlo:∀x,¬X.Lo 0 x:=fun x hx=>hx.2 (l9 x);have Fm0:((gs.setIfInBounds 0 g1).push child).size=gs.size+1:=by simp
 have zl0:∀i y,i≠0->i≠gs.size->((gs.setIfInBounds 0 g1).push child)[i]? =some y->gs[i]? =some y:=fun i y hi hic hy=>by
  rw[Array.getElem?_push,if_neg (by simpa using hic),Array.getElem?_setIfInBounds_ne (Ne.symm hi)]at hy;exact hy
 obtain⟨y,hy,hlk⟩:=hs.obj bx ox0 (show(N2 u (w.at d).tape (w.at d).drawn).heap[bx]? =some ox0 from hb);have hyo:(w.at d).heap[bx]? =some ox0:=by
  rw[hlw bx hw,hpl]at hlk;cases hlk;exact hy
 refine B.path (n0:=(T++U).size) _ np g1 (.up false) none [] [(bx,ox0)] (T++U) _ (w.at d) z5 (upd q gs.size nc) rfl ⟨WF.refl,⟨p.clean,fun i a _ ha hm hs'=>⟨?_,?_⟩,fun i a x hi ha _ _=>?_,fun i a x ha hsh hx=>?_,fun r0 e=>(by cases e)⟩,Nat.le_refl _,by rw[hD,C.dfn,V9],fun x hx=>?_,⟨fun p hp=>?_,fun p hp h=>?_,fun b h=>?_⟩,
  fun y hy=>?_,fun i y hi hic hy=>?_,?_,⟨by rw[Fm0];omega,by rw[Fm0,C.num]⟩,fun j hj=>?_,fun e=>absurd rfl e⟩ rfl ?_ Yp0
 ·obtain⟨x,hx,V5⟩:=touch_of ha;rcases getElem?_append_cases hx with⟨Y1,D4⟩|⟨_,N9⟩
  ·rcases C.past.known i a (by rw[touchAt_of D4];exact V5) hm hs' with h|⟨_,x,_,h,_⟩
   ·exact h.app U
   ·exact absurd h (hlo x)
  ·rw[hn x N9]at V5;cases V5
 ·rcases p.known i a ha hm hs' with h|⟨_,x,_,h,_⟩
  ·exact h
  ·exact absurd h (hlo x)
 ·obtain⟨z,hz',hza⟩:=touch_of ha;have:=lt_size_of_getElem? hz';omega
 ·refine(p.er0 i a x ha hsh hx).imp (fun z g' o7=>z g' ?_) id;rcases o7 with e|⟨e,_⟩
  ·exact .inl (.inl e)
  ·exact .inr e
 ·rcases hx with hx|hx
  ·cases hx
  ·rcases List.mem_cons.1 hx with rfl|hx
   ·exact⟨.inl rfl,hyo⟩
   ·cases hx
 ·rintro⟨o,ho⟩;rcases List.mem_cons.1 ho with e|ho
  ·exact(S.st p (.inl hp)).2.2.1 (congrArg Prod.fst e)
  ·cases ho
 ·obtain⟨o,ho⟩:=h;cases ho
 ·obtain⟨o,ho⟩:=h;cases ho
 ·rw[Array.getElem?_push,if_pos (by simp)]at hy;obtain rfl:=Option.some.inj hy;rw[upd_same];exact .inl ⟨rfl,(hD _).trans vo0.1,G6⟩
 ·rw[upd_ne q nc hic,hD];have:=C.idle i y hi (zl0 i y hi hic hy);unfold Idle at this;rw[l9 i]at this;simp only[mp0,Bool.false_eq_true,if_false]at this;exact this.2
 ·have:=(C.l3 G hG).2;rw[hz,ky0]at this;exact this
 ·rw[Fm0]at hj;rw[hD];exact(C.above j (by omega)).1
 ·rw[Array.getElem?_push,if_neg (by simp;omega),Array.getElem?_setIfInBounds_self_of_lt h0]
end
end Go.Yc
end
section
namespace Go.Vy
open Go Go.Conc Go.Yc Go.RowKit
open Go.Vc Go.Wg
section
attribute [local irreducible] KK
structure vf0 (n:Nat) (b:Frame) (cs:List Frame) (ds:List Deferred) (e:Env) (todo:List Item) (c:Frame):Prop where
 rep:∃a,fe0 n a e ds/\c={b.at a todo with mode:=.returning}
theorem vf0.mode {n:Nat} {b c:Frame} {cs:List Frame} {ds:List Deferred} {e:Env} {todo:List Item} (h:vf0 n b cs ds e todo c):c.mode= .returning:=by
 obtain⟨a,_,rfl⟩:=h.rep;rfl
theorem vf0.go {n:Nat} {b c:Frame} {cs:List Frame} {ds:List Deferred} {e:Env} {todo:List Item} (h:vf0 n b cs ds e todo c) {Y:Nat->Nat->Goroutine->Prop} {ft d:Nat} (hA:AtR Y ft n b cs ds d e todo):Y ft d (G c cs):=by
 obtain⟨a,ha,rfl⟩:=h.rep;exact hA a ha
section
variable {P:Program}{main:Bool}{ok:Event->Prop}{Y:Nat->Nat->Goroutine->Prop}{ft n:Nat}{b:Frame}{cs:List Frame}{ds:List Deferred}{d:Nat}{e:Env}{k todo:List Item}{ops:Array Oper}{i:Nat}{l:List Oper}{dst:Option Nat}{ty:TypeId}{ps:String}{af:Array Edge}{f:FuncId}{fn:Func}{c:Code}
theorem I0.Yq0 (hY:HF P main ok Y) (hk:b.kind≠.early) {o:Oper} {args:Array Value} (m:Nat) (hg:o.guard=none) (hd:I4 n o.dst=true) (hf:P.funcs[f]? =some fn) (hb:fn.body=some c) (hr:∀w,(execOp (ev e) o).run P w= .ok (.enter f args) w) (hv:∀w,(execOp (ev e) o).events P w #[]=#[])
  (hm:args.size+(fn.ntmps-args.size)=m) (h:∀H6,Iq0 n b cs ds e ops i o.dst l k H6->At Y ft m (base f) H6 [] d (Wg.y8 args) [.code c]):I0 Y (ft+1) n b cs ds d e ops i (o::l) k:=by
 intro hl a ha;obtain⟨ho,P5⟩:=J3 hl;refine hY.c rfl rfl (fun w=>?_) (h _ ⟨⟨a,ha,rfl⟩,by rw[ho];rfl,hd,P5⟩ {tmps:=args++Array.replicate (fn.ntmps-args.size) undef,defers:=[]} (p8 args _ hm));show stepG P main (G (b.at a (.inRegion ops (i::List.range' (i+1) l.length)::k)) cs) w=_;rw[stepG_enter ho (by obtain⟨d,op,ty,ps,af,g⟩:=o;cases hg;rfl) hk (by rw[ha.eval];exact hr w),enter_at _ hf hb];have h1:listed P b.fn a o w=#[]:=by unfold listed;rw[ha.eval,hv w];exact seen_none P _
 rw[h1]
theorem I0.fy1 (hY:HF P main ok Y) (hk:b.kind≠.early) {x:Operand} {caps:Array Value} (m:Nat) (hd:I4 n dst=true) (hx:ev e x= .func (.func f) #[] caps) (hf:P.funcs[f]? =some fn) (k3:(fn.name== "runtime.NumGoroutine")=false) (hb:fn.body=some c)
  (hm:caps.size+(fn.ntmps-caps.size)=m) (h:∀H6,Iq0 n b cs ds e ops i dst l k H6->At Y ft m (base f) H6 [] d (Wg.y8 caps) [.code c]):I0 Y (ft+1) n b cs ds d e ops i (⟨dst,.call {callee:=.value x,args:=#[],argTypes:=#[]},ty,ps,af,none⟩::l) k:=by
 have h1:¬fn.name= "runtime.NumGoroutine":=by simpa using k3
 refine I0.Yq0 hY hk (args:=caps) m rfl hd hf hb (fun w=>?_) (fun w=>?_) hm h
 ·simp[execOp,resolve,Deferred.ofValue,invoke,callFunc,hx,hf,h1,hb]
 ·simp[execOp,resolve,Deferred.ofValue,invoke,callFunc,hx,hf,h1,hb]
theorem I0.kf0 (hY:HF P main ok Y) {cf:Frame} (hd:I4 n dst=true) (hk:b.kind= .deferred) (hr:b.roundOf=none) (hc:cf.mode= .returning) (h:I0 Y ft n b (cf::cs) ds d (j3 e dst .nilIface) ops (i+1) l k):I0 Y (ft+1) n b (cf::cs) ds d e ops i (⟨dst,.call {callee:=.builtin .recover,args:=#[],argTypes:=#[]},ty,ps,af,none⟩::l) k:=by
 intro hl a ha;obtain⟨ho,P5⟩:=J3 hl;exact hY.c rfl rfl (fun w=>el0 ho hk hr hc) (h P5 _ (ha.put hd _))
theorem AtR.Mu0 (hY:HF P main ok Y) {args caps:Array Value} (m:Nat) (hf:P.funcs[f]? =some fn) (k3:(fn.name== "runtime.NumGoroutine")=false) (hb:fn.body=some c) (hm:(args++caps).size+(fn.ntmps-(args++caps).size)=m)
  (h:∀cf,vf0 n b cs ds e todo cf->At Y ft m (baseD f) (cf::cs) [] d (Wg.y8 (args++caps)) [.code c]):AtR Y (ft+1) n b cs ({target:=.fn (.func f) caps,args} :: ds) d e todo:=by
 intro a ha;refine hY.c rfl rfl (fun w=>fg0 (a:=a) (by simp) ha.defers hf k3 hb) ?_;exact h _ ⟨⟨a.tmps,ds⟩,⟨ha.size,rfl,ha.get⟩,rfl⟩ _ (p8 (args++caps) _ hm)
end
section
variable {P:Program}{gr:j5}{A:Addr}{Fp:PM->Prop}{pm:PM}{L:m4}{K:Goroutine->Prop}{ft n:Nat}{b:Frame}{cs:List Frame}{ds:List Deferred}{d:Nat}{e:Env}{k:List Item}{ops:Array Oper}{i:Nat}{l:List Oper}{dst:Option Nat}{ty:TypeId}{ps:String}{af:Array Edge}{f:FuncId}{fn:Func}{asx:Array Operand}{ats:Array TypeId}
theorem I0.mf1 (hk:b.kind≠.early) (hd:I4 n dst=true) (hf:P.funcs[f]? =some fn) (k3:(fn.name== "runtime.NumGoroutine")=false) (hb:fn.body.isNone=true) (hn:Extern.findNext fn=none) (he:Extern.find fn=some (Extern.Race.marked .releaseMerge)) (hx:(asx.toList.map (ev e))[0]? =some (.pointer (some A))) (hF:Fp pm)
  (h:I0 (YLt P gr) ft n b cs ds 0 (j3 e dst (.tuple #[])) ops (i+1) l k):I0 (YM P false gr L (Cl0 P gr A Fp) pm) (ft+1) n b cs ds 0 e ops i (⟨dst,.call {callee:=.value (.func f),args:=asx,argTypes:=ats},ty,ps,af,none⟩::l) k:=by
 intro hl a ha _;obtain⟨ho,P5⟩:=J3 hl;refine .inl ⟨rfl,hF,_,fun w=>stepG_markAt (P:=P) .releaseMerge (by simp) ho (by rw[ha.yielded];rfl) hk rfl hf k3 hb hn he (by rw[ha.eval,M7 rfl];simpa using hx),h P5 _ (ha.put hd _)⟩
abbrev YWA (P:Program) (gr:j5) (A:Addr) (K:Goroutine->Prop):Nat->Nat->Goroutine->Prop:=fun m d g=>WA P gr A K m d g
theorem M4:HF P true (okM gr) (YWA P gr A K):=⟨fun _m _d _g g' es h1 _ h3 h4 h5=>⟨h1,.inl ⟨g',es,fun e he=>wh0 (h3 e he),fun w _=>h4 w,h5⟩⟩⟩
theorem fz1:StG P true gr (YWA P gr A K):=fun m d g g' h1 _ h3 h4=>⟨h1,.inl ⟨g',#[],fun e he=>by simp at he,fun w hw=>h3 w _ _ hw,h4⟩⟩
theorem I0.Yr0 {x:Operand} (hk:b.kind≠.early) (hd:I4 n dst=true) (hf:P.funcs[f]? =some fn) (k3:(fn.name== "runtime.NumGoroutine")=false) (hb:fn.body.isNone=true) (hn:Extern.findNext fn=none) (he:Extern.find fn=some (Extern.Atomic.loadT (.int .u64))) (hx:ev e x= .pointer (some ⟨gr.blk,gr.off,none⟩))
  (h:I0 (YWA P gr A K) ft n b cs ds d (j3 e dst (.int .u64 0)) ops (i+1) l k) :
  I0 (YWA P gr A K) (ft+1) n b cs ds d e ops i (⟨dst,.call {callee:=.value (.func f),args:=#[x],argTypes:=ats},ty,ps,af,none⟩::l) k:=by
 intro hl a ha;obtain⟨ho,P5⟩:=J3 hl;refine⟨rfl,.inl ⟨G (b.at (a.put dst (.int .u64 0)) (.inRegion ops (List.range' (i+1) l.length)::k)) cs,#[rdA (stA gr)],jv0,fun w hw=>?_,?_⟩⟩
 ·exact stepG_load_atomic ho (by rw[ha.yielded];rfl) hk rfl hf k3 hb hn .u64 he (ad:=stA gr) (by rw[ha.eval];exact hx) hw.cells.1
 ·rw[deafBehind_still v9];exact h P5 _ (ha.put hd _)
theorem I0.ga1 (hk:b.kind≠.early) (hd:I4 n dst=true) (hf:P.funcs[f]? =some fn) (k3:(fn.name== "runtime.NumGoroutine")=false) (hb:fn.body.isNone=true) (hn:Extern.findNext fn=none) (he:Extern.find fn=some (Extern.Race.marked .acquire)) (hx:(asx.toList.map (ev e))[0]? =some (.pointer (some A)))
  (h:I0 (YWE P gr K) ft n b cs ds 0 (j3 e dst (.tuple #[])) ops (i+1) l k):I0 (YWA P gr A K) (ft+1) n b cs ds 0 e ops i (⟨dst,.call {callee:=.value (.func f),args:=asx,argTypes:=ats},ty,ps,af,none⟩::l) k:=by
 intro hl a ha;obtain⟨ho,P5⟩:=J3 hl;exact⟨rfl,.inr ⟨rfl,_,fun w=>stepG_markAt (P:=P) .acquire (by simp) ho (by rw[ha.yielded];rfl) hk rfl hf k3 hb hn he (by rw[ha.eval,M7 rfl];simpa using hx),h P5 _ (ha.put hd _)⟩⟩
end
end
end Go.Vy
end
section
namespace Go.Proofs.YtnifpkopeheodaaGreat
open Go Go.Conc Go.Yc Go.Vy Go.Wg
open Go.Vc (Env upd j3 ev I4 W2)
section
attribute [local irreducible] KK
set_option maxRecDepth 20000 in
theorem Ys0 (gr:j5) {L:m4} {Fp:PM->Prop} {pm:PM} (hF:Fp pm) {c:Frame} {cs:List Frame} (hcm:c.mode= .returning) {N:Nat} (hT:QuitsD Tryz.prog N 0 (Conc.G c cs)):At (YM Tryz.prog false gr L (Cl0 Tryz.prog gr (stA gr) Fp) pm) (N+500) 4 (baseD 68) (c::cs) [] 0 (Wg.y8 #[.pointer (some ⟨gr.blk,gr.off,none⟩)]) [.code (Tryz.f68.body.getD .skip)]:=by
 refine At.region R2 ?_;refine I0.val R2 (bkd _) rfl (v:=.pointer (some ⟨gr.blk,gr.off,none⟩)) (M0 rfl) ?_;refine I0.call R2 (bkd _) [.pointer (some ⟨gr.blk,gr.off,none⟩),.int .i64 (-1)] 117 rfl Tryz.func66 Ph0 rfl rfl rfl (fun cs1 Y5=>?_);refine At.seq R2 ?_;refine At.Q4 R2 rfl ?_;refine At.seq R2 ?_;refine U22 ?_;refine I0.val R2 (A1 _) rfl (v:=.int .i64 (-1)) (M0 rfl) ?_;refine U467 ?_;refine At.Q4 R2 rfl ?_;refine At.region R2 ?_;refine I0.val R2 (A1 _) rfl (v:=.pointer (some ⟨gr.blk,gr.off,none⟩)) (M0 rfl) ?_;refine I0.toUnsafe lz1 (A1 _) rfl rfl (.inl rfl) Tryz.underlying165 Tryz.underlying128 Dk0 ?_;refine I0.mf1 (A1 _) rfl Tryz.func87 cl1 rfl rfl da1 rfl hF ?_;refine U481 ?_;simp only[ff0];refine I0.nil (H3 _ gr) ?_;refine U555 ?_;refine U188 ?_;refine U492 ?_;refine U306 ?_;refine U452 ?_;refine U587 ?_;refine U111 ?_;refine U395 ?_;refine I0.val (H3 _ gr) (A1 _) rfl (v:=.int .i64 (-1)) (M0 rfl) ?_;refine U342 ?_;refine U448 ?_;intro cs2 hb2;refine U536 ?_;refine U231 ?_;refine U353 ?_;refine I0.Ta0 (A1 _) rfl Tryz.func109 Jh0 rfl rfl Ji0 rfl rfl (fun v wt hwt hv o3=>?_) ?_
 ·by_cases hv0:0<v
  ·have hwc:wt=0\/wt=1:=by omega
   rcases hwc with rfl|rfl
   ·refine I0.val (F0 _) (A1 _) rfl (v:=.int .u64 (((v*4294967296+0:Nat):Int))) (Y0 rfl) ?_;refine I0.nil (F0 _) ?_;refine At.ret (F0 _) (fun _=>?_);refine U367 ?_;refine U37 ?_;refine U360 ?_;refine U98 ?_;refine U161 ?_;refine U409 ?_;refine I0.nil (F0 _) ?_;refine U161 ?_;refine U434 ?_;refine U37 ?_;refine U154 ?_;refine U216 ?_;refine U220 ?_;refine U287 ?_;refine U217 ?_;refine At.ret (F0 _) (fun _=>?_);refine AtR.mark (F0 _) .enable (by simp) rfl Tryz.func89 lu0 rfl rfl lv0 ?_;simp only[T6];refine U47 ?_;refine At.done (F0 _) (fun _=>?_);exact U46
   ·refine I0.val (F0 _) (A1 _) rfl (v:=.int .u64 (((v*4294967296+1:Nat):Int))) (Y0 rfl) ?_;refine I0.nil (F0 _) ?_;refine At.ret (F0 _) (fun _=>?_);refine U368 ?_;refine U37 ?_;refine U361 ?_;refine U98 ?_;refine U162 ?_;refine U408 ?_;refine I0.nil (F0 _) ?_;refine U162 ?_;refine U356 ?_;refine U518 ?_;refine U154 ?_;refine U216 ?_;refine U43 ?_;refine U400 ?_;refine U154 ?_;refine U296 ?_;refine U217 ?_;refine At.ret (F0 _) (fun _=>?_);refine AtR.mark (F0 _) .enable (by simp) rfl Tryz.func89 lu0 rfl rfl lv0 ?_;simp only[T6];refine U47 ?_;refine At.done (F0 _) (fun _=>?_);exact U46
  ·obtain rfl:v=0:=by omega
   obtain rfl:wt=0:=by omega
   refine U240 ?_;refine At.ret (F0 _) (fun _=>?_);refine U457 ?_;refine U43 ?_;refine U363 ?_;refine U98 ?_;refine U164 ?_;refine U341 ?_;refine U449 ?_;refine U164 ?_;refine U435 ?_;refine U37 ?_;refine U154 ?_;refine U227 ?_;refine U223 ?_;refine U462 ?_;refine U220 ?_;refine U223 ?_;refine U401 ?_;refine U390 ?_;refine U471 ?_;refine At.Q4 (F0 _) rfl ?_;refine At.ret (F0 _) (fun _=>?_);refine AtR.mark (F0 _) .enable (by simp) rfl Tryz.func89 lu0 rfl rfl lv0 ?_;simp only[T6];refine U47 ?_;refine At.done (F0 _) (fun _=>?_);exact U46
 ·refine I0.val (W0 _ gr 2) (A1 _) rfl (v:=.int .u64 (((0*4294967296+1:Nat):Int))) (Y0 rfl) ?_;refine I0.nil (W0 _ gr 2) ?_;refine At.ret (W0 _ gr 2) (fun _=>?_);refine U365 ?_;refine U583 ?_;refine U81 ?_;refine U364 ?_;refine U84 ?_;refine U52 ?_;refine U81 ?_;refine U339 ?_;refine U445 ?_;refine U81 ?_;refine U354 ?_;refine U464 ?_;refine U62 ?_;refine U407 ?_;refine U149 ?_;refine U84 ?_;refine U110 ?_;refine U52 ?_;refine U166 ?_;refine U429 ?_;refine U232 ?_;refine U62 ?_;refine U396 ?_;refine U407 ?_;refine U149 ?_;refine U84 ?_;refine U110 ?_;refine U52 ?_;refine U166 ?_;refine U394 ?_;refine U389 ?_;refine U52 ?_;refine U62 ?_;refine U147 ?_;refine U355 ?_;intro cs3 hb3;refine U78 ?_;refine U465 ?_;refine U78 ?_;refine U147 ?_;refine U358 ?_;refine U466 ?_;refine At.ret (W0 _ gr 1) (fun _=>?_);refine U521 ?_;refine U573 ?_;refine U584 ?_;refine U191 ?_;refine U350 ?_;intro cs4 hb4;refine U191 ?_;refine U357 ?_;refine U476 ?_;refine At.done (W0 _ gr 0) (fun _=>?_);refine U504 ?_;refine U196 ?_;refine U472 ?_;refine U574 ?_;refine U581 ?_;refine U196 ?_;refine U397 ?_;refine U575 ?_;refine At.skip (W0 _ gr 0) ?_;refine U582 ?_;refine U424 ?_;refine U345 ?_;refine U500 ?_;refine At.inBlock (F0 _) ?_;refine U482 ?_;refine U402 ?_;refine U589 ?_;refine U241 ?_;refine U468 ?_;refine At.exit (F0 _) rfl ?_;refine At.done (F0 _) (fun _=>?_);refine AtR.mark (F0 _) .enable (by simp) rfl Tryz.func89 lu0 rfl rfl lv0 ?_;simp only[T6];refine U47 ?_;refine At.done (F0 _) (fun _=>?_);exact U46
set_option maxRecDepth 20000 in
theorem Cn0 (gr:j5) (K:Goroutine->Prop) {c:Frame} {cs:List Frame} (hK:K (Conc.G (c.finish (.tuple #[])) cs)):∀(V:Nat),V<2147483648->∀(e:Env),At (XWH Tryz.prog gr (WA Tryz.prog gr (stA gr) K) none V) (500*V+500) 84 (base 70) (c::cs) [] 1 (upd e 0 (.pointer (some ⟨gr.blk,gr.off,none⟩))) [.code Dl0,.inLoop Dl0,.inBlock 0]:=by
 intro V
 induction V using Nat.strongRecOn with
 |_ V ih=>
 intro hV e;refine At.block L2 ?_;refine U12 ?_;refine U152 ?_;refine U537 ?_;intro cs1 Y5;refine U520 ?_;refine U12 ?_;refine U151 ?_;refine I0.Ja0 (A1 _) rfl Tryz.func110 yy0 rfl rfl yz0 rfl ?_ (fun v hv hv0=>?_)
 ·refine I0.val M4 (A1 _) rfl (v:=.int .u64 0) (Y0 rfl) ?_;refine I0.nil M4 ?_;refine At.ret M4 (fun _=>?_);refine AtR.leave1 M4 Y5 rfl Tryz.func96 rfl (.int .u64 0) rfl ?_;refine U268 ?_;refine U559 ?_;refine I0.val M4 (A1 _) rfl (v:=.int .u64 0) (ef0 (r:=0) rfl rfl (by decide) (by decide)) ?_;refine I0.val M4 (A1 _) rfl (v:=.int .i32 0) (B3 (r:=0) rfl Tryz.underlying136 Tryz.underlying21 (by decide)) ?_;refine I0.val M4 (A1 _) rfl (v:=.int .i32 0) (Y0 rfl) ?_;refine I0.nil M4 ?_;refine U559 ?_;refine I0.val M4 (A1 _) rfl (v:=.int .u64 0) (l7 (r:=0) rfl rfl (by decide)) ?_;refine I0.val M4 (A1 _) rfl (v:=.int .u32 0) (B3 (r:=0) rfl Tryz.underlying136 Tryz.underlying139 (by decide)) ?_;refine I0.val M4 (A1 _) rfl (v:=.int .u32 0) (Y0 rfl) ?_;refine U299 ?_;refine U176 ?_;refine I0.val M4 (A1 _) rfl (v:=.int .i32 0) (M0 rfl) ?_;refine I0.val M4 (A1 _) rfl (v:=.bool true) (ai0 (r:=true) rfl rfl (by decide)) ?_;refine I0.nil M4 ?_;refine At.Q4 M4 rfl ?_;refine At.seq M4 ?_;refine At.Q4 M4 rfl ?_;refine U478 ?_;simp only[T6];refine I0.nil M4 ?_;refine U247 ?_;refine U403 ?_;refine U91 ?_;refine U35 ?_;refine U412 ?_;refine U430 ?_;refine U387 ?_;refine U426 ?_;refine I0.off S2 rfl rfl ?_;refine U495 ?_;refine U206 ?_;refine At.ret S2 (fun _=>?_);exact U186
 ·refine I0.val L2 (A1 _) rfl (v:=.int .u64 (((v*4294967296+0:Nat):Int))) (Y0 rfl) ?_;refine I0.nil L2 ?_;refine At.ret L2 (fun _=>?_);refine U378 ?_;refine I0.nil L2 ?_;refine U165 ?_;refine U343 ?_;refine U483 ?_;refine U165 ?_;refine U359 ?_;refine U509 ?_;refine At.seq L2 ?_;refine U12 ?_;refine U388 ?_;refine U297 ?_;refine U12 ?_;refine U152 ?_;refine U385 ?_;refine U340 ?_;intro cs2 hb2;refine U12 ?_;refine U510 ?_;refine U12 ?_;refine U151 ?_;refine U386 ?_;refine I0.Tb0 (vs:=v) (A1 _) rfl Tryz.func112 Th0 rfl rfl Tp0 rfl rfl rfl ?_ (fun v2 hv2=>?_)
  ·refine I0.val R4 (A1 _) rfl (v:=.bool true) (Y0 rfl) ?_;refine I0.nil R4 ?_;refine At.ret R4 (fun _=>?_);refine U542 ?_;refine U554 ?_;refine U539 ?_;refine U280 ?_;refine U222 ?_;refine U369 ?_;rw[Z8 _ rfl];refine I0.nil R4 ?_;refine U261 ?_;refine U505 ?_;refine U298 ?_;refine U371 ?_;refine U406 ?_;refine U489 ?_;refine U600 ?_;refine At.skip R4 ?_;refine At.seq R4 ?_;refine U222 ?_;refine U431 ?_;refine U299 ?_;refine U463 ?_;refine I0.val M4 (A1 _) rfl (v:=.pointer (some ⟨gr.blk,gr.off,none⟩)) (G3 (s:=1) gr.off gr.off rfl Tryz.underlying141 rfl ns0 (by decide) rfl) ?_;refine I0.call M4 (A1 _) [.pointer (some ⟨gr.blk,gr.off,none⟩)] 7 rfl Tryz.func96 Pi0 rfl rfl rfl (fun cs3 hb3=>?_);refine U176 ?_;refine U268 ?_;refine At.seq M4 ?_;refine U463 ?_;refine I0.val M4 (A1 _) rfl (v:=.pointer (some ⟨gr.blk,gr.off,none⟩)) (G3 (s:=1) gr.off gr.off rfl Tryz.underlying138 rfl nr0 (by decide) rfl) ?_;refine I0.Yr0 (A1 _) rfl Tryz.func110 yy0 rfl rfl yz0 rfl ?_;refine U268 ?_;refine At.ret M4 (fun _=>?_);refine AtR.leave1 M4 hb3 rfl Tryz.func96 rfl (.int .u64 0) rfl ?_;refine I0.val M4 (A1 _) rfl (v:=.bool false) (T7 (r:=false) rfl rfl (by decide)) ?_;refine I0.val M4 (A1 _) rfl (v:=.bool false) (Y0 rfl) ?_;refine U299 ?_;refine At.Q4 M4 rfl ?_;refine U478 ?_;simp only[T6];refine I0.nil M4 ?_;refine U247 ?_;refine U403 ?_;refine U91 ?_;refine U546 ?_;refine U206 ?_;refine At.ret S2 (fun _=>?_);exact U186
  ·refine I0.val L2 (A1 _) rfl (v:=.bool false) (Y0 rfl) ?_;refine I0.nil L2 ?_;refine At.ret L2 (fun _=>?_);refine U540 ?_;refine U601 ?_;exact At.Iw0 (E:=WA Tryz.prog gr (stA gr) K) (fun _ _ _ _=>WA.mono _ _ _ _) (At.mg0 (fun e=>ih v2 (by omega) (by omega) e) rfl) (by omega)
set_option maxRecDepth 20000 in
theorem Yt0 (gr:j5) (K:Goroutine->Prop) {c:Frame} {cs:List Frame} (hK:K (Conc.G (c.finish (.tuple #[])) cs)) (V:Nat) (hV:V<2147483648):At (XWH Tryz.prog gr (WA Tryz.prog gr (stA gr) K) none V) (500*V+510) 84 (base 70) (c::cs) [] 0 (Wg.y8 #[.pointer (some ⟨gr.blk,gr.off,none⟩)]) [.code (Tryz.f70.body.getD .skip)]:=by
 refine At.seq L2 ?_;refine At.Q4 L2 rfl ?_;refine U453 ?_;simp only[ff0];refine I0.nil L2 ?_;refine At.block L2 ?_;refine At.loop L2 ?_;exact At.Iw0 (E:=WA Tryz.prog gr (stA gr) K) (fun _ _ _ _=>WA.mono _ _ _ _) (At.mg0 (fun e=>Cn0 gr K hK V hV e) rfl) (by omega)
end
end Go.Proofs.YtnifpkopeheodaaGreat
end
section
namespace Go.Vy
open Go Go.Conc Go.Yc Go.RowKit
open Go.Vc Go.Wg
section
attribute [local irreducible] KK
theorem fp0 {pm:PM} {b:Nat} {o o':Obj} (h:(b,o)∈pm):(b,o')∈lp0 pm b o':=List.mem_map.2 ⟨(b,o),h,by simp⟩
section
variable {P:Program}{ρ:Operand->Value}{d:Option Nat}{ty:TypeId}{ps:String}{af:Array Edge}{g:Option (Nat×Bool)}{x y:Operand}{T T':TypeId}
theorem ou0:Op.maxDepth=9999+1:=rfl
theorem Yu0 {p:Addr} {u:TypeId} (hx:ρ x= .pointer (some p)) (hy:ρ y= .pointer none) (hT:P.underlying T=some (.pointer u)):Pu P (execOp ρ ⟨d,.binOp .eql T x y T',ty,ps,af,g⟩) (.bool false):=by
 refine⟨fun w=>Go.Vc.E5 hx hy hT,fun w=>?_⟩;have h2:(Op.equalIn Op.maxDepth T (.pointer (some p)) (.pointer none)).events P w #[]=#[]:=by rw[ou0,Op.equalIn];simp[run_underlying hT,go_sem]
 simp[execOp,hx,hy,go_sem,eqGuard,binOp,Op.equal,h2]
theorem Yv0 {p:Addr} {u:TypeId} (hx:ρ x= .pointer (some p)) (hy:ρ y= .pointer none) (hT:P.underlying T=some (.pointer u)):Pu P (execOp ρ ⟨d,.binOp .neq T x y T',ty,ps,af,g⟩) (.bool true):=by
 refine⟨fun w=>Go.Vc.n8 hx hy hT,fun w=>?_⟩;have h2:(Op.equalIn Op.maxDepth T (.pointer (some p)) (.pointer none)).events P w #[]=#[]:=by rw[ou0,Op.equalIn];simp[run_underlying hT,go_sem]
 simp[execOp,hx,hy,go_sem,eqGuard,binOp,Op.equal,h2]
theorem Co0 {u:TypeDesc} (hx:ρ x= .nilFunc) (hy:ρ y= .nilFunc) (hT:P.underlying T=some u) (hu:∃a b c,u= .func a b c):Pu P (execOp ρ ⟨d,.binOp .eql T x y T',ty,ps,af,g⟩) (.bool true):=by
 refine⟨fun w=>Go.Vc.o8 hx (.inl ⟨rfl,rfl⟩) hy hT hu,fun w=>?_⟩;obtain⟨a,b,c,rfl⟩:=hu;have h2:(Op.equalIn Op.maxDepth T .nilFunc .nilFunc).events P w #[]=#[]:=by rw[ou0,Op.equalIn];simp[run_underlying hT,go_sem]
 simp[execOp,hx,hy,go_sem,eqGuard,binOp,Op.equal,h2]
theorem Mv0 {b o n c s:Nat} {E:TypeId} {i:Nat} (r:Nat) (hx:ρ x= .slice (some ⟨b,o,none⟩) n c) (hy:ρ y= .int .i64 (i:Int)) (hT:P.underlying T=some (.slice E)) (hs:(P.info? E).map (·.size)=some s) (h:i<n) (hr:o+i*s=r):Pu P (execOp ρ ⟨d,.indexAddr T x y,ty,ps,af,g⟩) (.pointer (some ⟨b,r,none⟩)):=by
 subst hr;refine⟨fun w=>Go.Vc.ae0 hx hy hT hs h,fun w=>?_⟩;have h1:=Go.Vc.ae0 (d:=d) (ty:=ty) (ps:=ps) (af:=af) (g:=g) (w:=w) hx hy hT hs h;obtain⟨inf,hi,hs'⟩:=Option.map_eq_some_iff.1 hs;simp[execOp,hx,hy,Instr.indexAt,go_sem,run_underlying hT,sizeOf,typeInfo,hi];intro hh;omega
end
section
variable {P:Program}{main:Bool}{b c:Frame}{a:Act}{k todo:List Item}{cs:List Frame}{w:World}{ops:Array Oper}{i:Nat}{rest:List Nat}{f:FuncId}{fn:Func}{args caps:Array Value}
theorem Gd0 {x:Operand} {dst:Option Nat} {ty:TypeId} {ps:String} {af:Array Edge} (hk:b.kind≠.early) (ho:ops[i]? =some ⟨dst,.go {callee:=.value x,args:=#[],argTypes:=#[]},ty,ps,af,none⟩) (hx:a.eval x= .func (.func f) #[] caps) (w:World) :
  stepG P main (G (b.at a (.inRegion ops (i::rest)::k)) cs) w= .spawn (G (b.at (a.put dst undef) (.inRegion ops rest::k)) cs) (born P {target:=.fn (.func f) caps,args:=#[]}) w #[]:=by
 have hr:(execOp a.eval ⟨dst,.go {callee:=.value x,args:=#[],argTypes:=#[]},ty,ps,af,none⟩).run P w= .ok (.spawn {target:=.fn (.func f) caps,args:=#[]}) w:=by
  unfold execOp;simp[resolve,Deferred.ofValue,hx]
 have he:(execOp a.eval ⟨dst,.go {callee:=.value x,args:=#[],argTypes:=#[]},ty,ps,af,none⟩).events P w #[]=#[]:=by
  unfold execOp;simp[resolve,Deferred.ofValue,hx]
 rw[stepG_spawn ho rfl hk hr rfl,listed,he,seen_none]
theorem Cp0 {body:Code} (hf:P.funcs[f]? =some fn) (k3:(fn.name== "runtime.NumGoroutine")=false) (hb:fn.body=some body) :
  stepG P main (born P {target:=.fn (.func f) caps,args}) w= .go (G ((baseD f).at {tmps:=(args++caps)++Array.replicate (fn.ntmps-(args++caps).size) undef,defers:=[]} [.code body]) [I6 P]) w #[]:=by
 have h1:¬fn.name= "runtime.NumGoroutine":=by simpa using k3
 rw[<- enter_atD (args++caps) hf hb];simp[born,G,stepG,unwind,callDeferred,invoke,callFunc,hf,h1,hb,GStep.after,seen_none,I6];exact⟨rfl,rfl,rfl,rfl⟩
theorem Mw0 {ok:Event->Prop} {Y:Nat->Nat->Goroutine->Prop} {ft d:Nat} {c:Code} (hY:HF P main ok Y) (m:Nat) (hf:P.funcs[f]? =some fn) (k3:(fn.name== "runtime.NumGoroutine")=false) (hb:fn.body=some c) (hm:(args++caps).size+(fn.ntmps-(args++caps).size)=m) (h:At Y ft m (baseD f) [I6 P] [] d (Wg.y8 (args++caps)) [.code c]):Y (ft+1) d (born P {target:=.fn (.func f) caps,args}) :=
 hY.c rfl rfl (fun _w=>Cp0 hf k3 hb) (h _ (p8 (args++caps) _ hm))
theorem Cq0 {n:Nat} {e:Env} (hc:vf0 n b [I6 P] [] e todo c) (hn:b.kind= .deferred) (hf:P.funcs[b.fn]? =some fn) (hr:fn.results=#[]):QuitsD P 2 0 (G c [I6 P]):=by
 obtain⟨a,ha,rfl⟩:=hc.rep;refine .inr ⟨rfl,_,#[],fun e he=>by simp at he,fun w=>ts0 (fn:=fn) hn ha.defers hf (results_none hr _ _ w) (events_results_none hr _ _),?_⟩;exact .inr ⟨rfl,_,#[],fun e he=>by simp at he,fun w=>tt0,rfl,rfl⟩
end
section
theorem MP.end {P:Program} {main:Bool} {gr:j5} {L:m4} {E:Nat->PM->Goroutine->Prop} {n:Nat} {pm:PM} {g:Goroutine} (h:E n pm g):MP P main gr L E (n+1) pm g:=by unfold MP;exact .inl h
variable {P:Program}{Post:Value->World->Prop}{X:Gh}{n:Nat}{b:Frame}{cs:List Frame}{e:Env}{k:List Item}{ops:Array Oper}{i:Nat}{rest:List Nat}{ty:TypeId}{ps:String}{af:Array Edge}{x:Operand}{w:World}
theorem ZA.beside {f:FuncId} {caps:Array Value} {gr:j5} {A:Addr} {bx np:Nat} {ox0 ox:Obj} {L0 Lc:m4} {K:Goroutine->Prop} (hb:b.kind≠.early) (ho:ops[i]? =some ⟨none,.go {callee:=.value x,args:=#[],argTypes:=#[]},ty,ps,af,none⟩) (hx:ev e x= .func (.func f) #[] caps)
  (V9:X.dn=0) (ky0:X.pend=1) (gm0:X.cap=1) (hG:X.l3=some gr) (l9:∀i,X.N1 i=none) (hl:aq0 X bx) (hw:¬X.low bx) (hpl:X.k5 bx= .all) (hB:w.heap[bx]? =some ox0) (T2:∀p,p∈L0\/p∈Lc->w.cell? p.1=some p.2/\p.1.block≠bx/\¬GB X p.1.block)
  (Yp0:At (YM P true gr L0 (Ri0 P gr A K) []) np n b cs [] 0 e (.inRegion ops rest::k)) (G6:∃nc,MP P false gr Lc (Cl0 P gr A (fun pm=>(bx,ox)∈pm)) nc [(bx,ox0)] (born P {target:=.fn (.func f) caps,args:=#[]})) (hox:∃cs T f,ox= .cells cs T f) (hK:∀k g,K g->Fin P Post (X.jk0 w bx k) 0 g (fo0 w bx ox k)) :
  ZA (Fin P Post X 0) n b cs e (.inRegion ops (i::rest)::k) w:=by
 intro a ha;obtain⟨nc,G6⟩:=G6;exact Fin.beside (g1:=G (b.at (a.put none undef) (.inRegion ops rest::k)) cs) rfl V9 ky0 gm0 hG l9 (fun w=>Gd0 hb ho (by rw[ha.eval];exact hx) w) hl hw hpl hB T2 (Yp0 a (ja0 ha) rfl) G6 hox hK
end
end
end Go.Vy
end
section
namespace Go.Proofs.YtnifpkopeheodaaGreat
open Go Go.Conc Go.Yc Go.Vy Go.Wg
open Go.Vc (Env upd j3 ev I4 W2)
section
attribute [local irreducible] KK
abbrev lr0 (bw:Nat) (v:Int):Obj:=.cells #[.int .i64 1,.int .i64 1,.pointer (some ⟨bw,0,none⟩),.int .i64 v] 145 (0,0)
abbrev stC (bb b6 bx bw:Nat):m4:=[(⟨bb,0,none⟩,.func (.func 45) #[] #[.pointer (some ⟨b6,0,none⟩)]),(⟨b6,0,none⟩,.pointer (some ⟨bx,0,none⟩)),(⟨bw,0,none⟩,.bool true)]
abbrev fpC (bx bw:Nat) (pm:PM):Prop:=(bx,lr0 bw 5)∈pm
set_option maxRecDepth 20000 in
theorem Rj0 (gr:j5) (bb b6 bx bw:Nat):∃n,MP Tryz.prog false gr (stC bb b6 bx bw) (Cl0 Tryz.prog gr (stA gr) (fpC bx bw)) n [(bx,lr0 bw 0)] (born Tryz.prog {target:=.fn (.func 67) #[.pointer (some ⟨gr.blk,gr.off,none⟩),.pointer (some ⟨bb,0,none⟩)],args:=#[]}):=by
 refine⟨580,(?_:YM Tryz.prog false gr (stC bb b6 bx bw) (Cl0 Tryz.prog gr (stA gr) (fpC bx bw)) [(bx,lr0 bw 0)] 580 0 _) rfl⟩;refine Mw0 R2 4 Tryz.func67 ka1 rfl rfl ?_;refine U22 ?_;refine I0.defer R2 (bkd _) [.pointer (some ⟨gr.blk,gr.off,none⟩)] rfl ?_;refine I0.nil R2 ?_;refine U22 ?_;refine I0.defer R2 (bkd _) [] rfl ?_;refine I0.nil R2 ?_;refine At.region R2 ?_;refine I0.lq0 (bkd _) rfl (v:=.func (.func 45) #[] #[.pointer (some ⟨b6,0,none⟩)]) rfl Tryz.underlying1 rfl (.inl (.head _)) ?_;refine I0.fy1 R2 (bkd _) (caps:=#[.pointer (some ⟨b6,0,none⟩)]) 3 rfl rfl Tryz.func45 jt1 rfl rfl (fun cs1 Y5=>?_);refine At.region R2 ?_;refine I0.lq0 (A1 _) rfl (v:=.pointer (some ⟨bx,0,none⟩)) rfl Tryz.underlying86 rfl (.inl (.tail _ (.head _))) ?_;refine I0.call R2 (A1 _) [.pointer (some ⟨bx,0,none⟩),.pointer none,.int .i64 5] 26 rfl Tryz.func42 jr1 rfl rfl rfl (fun cs2 hb2=>?_);refine U22 ?_;refine I0.fv1 (v:=.pointer (some ⟨bx,0,none⟩)) (cs0:=[.pointer (some ⟨bx,0,none⟩)]) (A1 _) rfl rfl rfl (fun q1=>?_);refine I0.fv1 (v:=.int .i64 5) (cs0:=[.int .i64 5]) (A1 _) rfl rfl rfl (fun q2=>?_);refine I0.nil R2 ?_;refine At.block R2 ?_;refine U419 ?_;refine I0.val R2 (A1 _) rfl (v:=.bool false) (Yu0 rfl rfl Tryz.underlying86) ?_;refine U532 ?_;refine At.r6 R2 rfl ?_;refine U419 ?_;refine I0.val R2 (A1 _) rfl (v:=.pointer (some ⟨bx,0,none⟩)) (N3 rfl) ?_;refine I0.val R2 (A1 _) rfl (v:=.pointer (some ⟨bx,2,none⟩)) (G3 (s:=1) 0 2 rfl Tryz.underlying145 rfl Jc0 (by decide) rfl) ?_;refine I0.lq0 (A1 _) rfl (v:=.pointer (some ⟨bw,0,none⟩)) rfl Tryz.underlying56 rfl (.inr ⟨_,_,(.tail _ (.tail _ (.head _))),rfl,rfl⟩) ?_;refine I0.call R2 (A1 _) [.pointer (some ⟨bw,0,none⟩)] 11 rfl Tryz.func44 Bl0 rfl rfl rfl (fun cs3 hb3=>?_);refine U22 ?_;refine U532 ?_;refine U22 ?_;refine I0.val R2 (A1 _) rfl (v:=.pointer (some ⟨bw,0,none⟩)) (M0 rfl) ?_;refine I0.val R2 (A1 _) rfl (v:=.bool true) (Yv0 rfl rfl Tryz.underlying56) ?_;refine I0.val R2 (A1 _) rfl (v:=.bool true) (M0 rfl) ?_;refine I0.D9 R2 (A1 _) rfl rfl (v:=.pointer (some ⟨bw,0,none⟩)) (M0 rfl) ?_;refine I0.D9 R2 (A1 _) rfl rfl (v:=.pointer (some ⟨bw,0,none⟩)) (N3 rfl) ?_;refine I0.D9 R2 (A1 _) rfl rfl (v:=.pointer (some ⟨bw,0,none⟩)) (G3 (s:=1) 0 0 rfl Tryz.underlying105 rfl sz4 (by decide) rfl) ?_;refine I0.Yn0 (A1 _) rfl rfl (v:=.bool true) rfl Tryz.underlying4 rfl (.inl (.tail _ (.tail _ (.head _)))) ?_;refine I0.val R2 (A1 _) rfl (v:=.bool true) (L8 rfl rfl) ?_;refine U533 ?_;refine At.ret R2 (fun _=>?_);refine AtR.leave1 R2 hb3 rfl Tryz.func44 rfl (.bool true) rfl ?_;refine U533 ?_;refine At.Q4 R2 rfl ?_;refine At.region R2 ?_;refine I0.lq0 (A1 _) rfl (v:=.pointer (some ⟨bx,0,none⟩)) rfl Tryz.underlying86 rfl (.inr ⟨_,_,(.tail _ (.head _)),rfl,rfl⟩) ?_;refine I0.lq0 (A1 _) rfl (v:=.int .i64 5) rfl Tryz.underlying3 rfl (.inr ⟨_,_,(.head _),rfl,rfl⟩) ?_;refine I0.val R2 (A1 _) rfl (v:=.pointer (some ⟨bx,0,none⟩)) (N3 rfl) ?_;refine I0.val R2 (A1 _) rfl (v:=.pointer (some ⟨bx,3,none⟩)) (G3 (s:=1) 0 3 rfl Tryz.underlying145 rfl z8 (by decide) rfl) ?_;refine I0.Ml0 (v:=.int .i64 5) (A1 _) rfl rfl z8 rfl (.tail _ (.tail _ (.head _))) rfl ?_;refine I0.nil R2 ?_;refine At.inBlock R2 ?_;refine At.done R2 (fun _=>?_);refine AtR.leave0 R2 hb2 rfl Tryz.func42 rfl ?_;refine I0.nil R2 ?_;refine At.done R2 (fun _=>?_);refine AtR.leave0 R2 Y5 rfl Tryz.func45 rfl ?_;refine I0.nil R2 ?_;refine At.done R2 (fun _=>?_);refine AtR.Mu0 R2 1 Tryz.func69 kb1 rfl rfl (fun cf1 j9=>?_);refine At.region R2 ?_;refine I0.kf0 R2 rfl rfl rfl j9.mode ?_;refine I0.nil R2 ?_;refine At.done R2 (fun _=>?_);refine AtR.leaveD R2 rfl Tryz.func69 rfl j9.mode ?_;refine j9.go ?_;refine AtR.Mu0 R2 4 Tryz.func68 ch1 rfl rfl (fun cf2 hc2=>?_);exact Ys0 gr (fp0 (.tail _ (.tail _ (.head _)))) hc2.mode (Cq0 hc2 rfl Tryz.func67 rfl)
end
end Go.Proofs.YtnifpkopeheodaaGreat
end
section
namespace Go.Vy.Sc
open Go Go.Conc Go.Yc Go.RowKit Go.Proofs Go.Proofs.YtnifpkopeheodaaGreat Tryz
open Go.Vc Go.Wg
section
attribute [local irreducible] KK
structure Aa0 (w:World) (bs b6 bx bw:Nat):Prop where
 sl:O0 w bs #[.func (.func 45) #[] #[.pointer (some ⟨b6,0,none⟩)],.nilFunc] 1
 p6:O0 w b6 #[.pointer (some ⟨bx,0,none⟩)] 86
 cx:w.heap[bx]? =some (lr0 bw 0)
 cw:O0 w bw #[.bool true] 105
theorem Aa0.j0 {w w':World} {bs b6 bx bw:Nat} (h:Aa0 w bs b6 bx bw) (hk:∀b,b<w.heap.size->w'.heap[b]? =w.heap[b]?):Aa0 w' bs b6 bx bw :=
 ⟨(hk bs h.sl.lt).trans h.sl,(hk b6 h.p6.lt).trans h.p6,(hk bx (Array.getElem?_eq_some_iff.1 h.cx).1).trans h.cx,(hk bw h.cw.lt).trans h.cw⟩
structure Yw0 (w w':World) (bx bw:Nat):Prop where
 size:w.heap.size <=w'.heap.size
 os:w'.os=w.os
 output:w'.output=w.output
 tape:w'.tape=w.tape
 block:∀b,b<w.heap.size->b≠bx->w'.heap[b]? =w.heap[b]?
 cx:w'.heap[bx]? =some (lr0 bw 5)
structure gb1 (X X':Gh) (n1:Nat) (w':World):Prop where
 N1:∀i,X'.N1 i=none
 cap:X'.cap=0
 pend:X'.pend=0
 dn:X'.dn=0
 under:X'.T9 w'.heap.size
 k5:X'.k5=X.k5
 ki0:0<X'.n
 low:∀b,X'.low b->X.low b\/n1 <=b
def Yx0 (cs:List Frame) (g:Goroutine):Prop:=∃a,a.tmps.size=17/\a.defers=[]/\g=G (((base 33).at a (.inRegion (match Tryz.f33.body with|some (.seq _ (.seq _ (.region _ o _)))=>o|_=>#[]) [0] :: [])).finish (.tuple #[])) cs
set_option maxRecDepth 20000 in
theorem Cr0 {X:Gh} {Post:Value->World->Prop} {cs:List Frame} {w:World} {bs b6 bx bw n1:Nat} (hin:Aa0 w bs b6 bx bw) (h0:∀i,X.N1 i=none) (gm0:X.cap=0) (hp:X.pend=0) (V9:X.dn=0) (hU:X.T9 n1) (hpl:∀b,n1 <=b->X.k5 b= .all) (hnb:n1 <=bs/\n1 <=b6/\n1 <=bx/\n1 <=bw)
  (hk:∀X' w' fr,gb1 X X' n1 w'->Yw0 w w' bx bw->fr.fn=33->Leaves prog fr w' (.returned (.tuple #[]))->Fin prog Post X' 0 (G fr cs) w'):Fin prog Post X 0 (G (Frame.enter prog 33 #[.slice (some ⟨bs,0,none⟩) 2 2] .normal) cs) w:=by
 letI:Ctx prog:=j2 prog true;have hZ:Ctx.Zs prog (Fin prog Post X 0):=V4;have hb:=A1 33;rw[enter_at _ func33 rfl];refine(?_:ZA (Fin prog Post X 0) 17 (base 33) cs (Vc.y8 #[.slice (some ⟨bs,0,none⟩) 2 2]) [.code (Tryz.f33.body.getD .skip)] w) _ (J6 _ _ rfl);have hUw:∀b,n1 <=b->aq0 X b:=fun b hb=>hU.ca0 hb;have hlw:∀b,n1 <=b->¬X.low b:=fun b hb hl=>by have:=hU.low b hl;omega
 refine U0 ?_;refine L.alloc (cs:=#[.int .u64 0,.int .u32 0]) br1 rfl (fun w1 bG F1=>?_);refine U1 ?_;have gc1:=hin.j0 (fun b hb=>F1.below.block b hb);refine ZA.seq hZ ?_;refine U0 ?_;refine L.va (I7 rfl) ?_;refine L.va (S6 rfl underlying60 rfl) ?_;refine U205 ?_;refine U197 ?_;refine U99 ?_;refine ZA.Q4 hZ rfl ?_;refine U167 ?_;refine ZA.block hZ ?_;refine U0 ?_;refine L.va (ae0 (i:=0) rfl rfl underlying60 sz1 (by decide)) ?_;refine L.va (A0 (v:=.func (.func 45) #[] #[.pointer (some ⟨b6,0,none⟩)]) rfl underlying1 rfl (gc1.sl.cell rfl)) ?_;refine L.alloc (cs:=#[.nilFunc]) zr1 rfl (fun w2 bb F2=>?_);refine L.put #[.func (.func 45) #[] #[.pointer (some ⟨b6,0,none⟩)]] rfl rfl rfl sz1 rfl rfl F2.blk (by decide) rfl (fun w3 n3 hg3 hs3=>?_);refine U1 ?_;have hbG:bG=w.heap.size:=F1.here;have hbb:bb=w1.heap.size:=F2.here;have hz1:=F1.size;have hz2:=F2.size;have hGb:O0 w1 bG #[.int .u64 0,.int .u32 0] 141:=F1.blk;have Cs0:∀b,b<w1.heap.size->w3.heap[b]? =w1.heap[b]?:=fun b hb=>by
  rw[hg3.block b (by omega) (fun e=>by cases e;omega)];exact F2.below.block b hb
 have Rk0:=gc1.j0 Cs0;have hG3:w3.heap[bG]? =some (.cells (#[] ++ #[.int .u64 0,.int .u32 0]) 141 (0,0)):=by
  rw[Cs0 bG (by omega)];exact hGb
 refine ZA.seq hZ ?_;refine U0 ?_;refine L.va (A0 (v:=.func (.func 45) #[] #[.pointer (some ⟨b6,0,none⟩)]) rfl underlying1 rfl (n3.cell rfl)) ?_;refine L.va (o8 (b:=false) rfl (.inr ⟨_,_,_,rfl,rfl⟩) rfl underlying1 ⟨_,_,_,rfl⟩) ?_;refine U136 ?_;have Yy0:n1 <=bG:=by have:=hin.sl.lt;omega
 intro a ha;refine Fin.Gu0 (f':=(0,0)) (b:=bG) (c:=#[]) gm0 (hUw bG Yy0) (hlw bG Yy0) (hpl bG Yy0) hG3 (Nat.zero_le _) ?_;revert ha;revert a;generalize hw4:Y2 w3 bG (.cells #[] 141 (0,0))=w4;have ks0:∀b,b≠bG->w4.heap[b]? =w3.heap[b]?:=fun b hb=>by rw[<- hw4];exact X5 _ _ (Ne.symm hb)
 have pw1:w4.heap.size=w.heap.size+2:=by rw[<- hw4];show(w3.heap.setIfInBounds _ _).size=_;rw[Array.size_setIfInBounds];omega
 have Y1:=fun(b:Nat) (cs:Array Value) (T:TypeId) (h:O0 w b cs T)=>h.lt;have Mx0:Aa0 w4 bs b6 bx bw:=by
  have h1:=hin.sl.lt;have h2:=hin.p6.lt;have h3:=(Array.getElem?_eq_some_iff.1 hin.cx).1;have h4:=hin.cw.lt;exact⟨(ks0 bs (by omega)).trans Rk0.sl,(ks0 b6 (by omega)).trans Rk0.p6,(ks0 bx (by omega)).trans Rk0.cx,(ks0 bw (by omega)).trans Rk0.cw⟩
 have Y3:O0 w4 bb #[.func (.func 45) #[] #[.pointer (some ⟨b6,0,none⟩)]] 1:=(ks0 bb (by omega)).trans n3;generalize hX1:({X.lower bG with l3:=some ⟨bG,0⟩,old:=X.l3.toList++X.old}:Gh)=X1;have jm0:X1=({X.lower bG with l3:=some ⟨bG,0⟩,old:=X.l3.toList++X.old}:Gh):=hX1.symm;show ZA (Fin prog Post X1 0) 17 (base 33) cs _ _ w4;have hZ1:Ctx.Zs prog (Fin prog Post X1 0):=V4;refine ZA.region hZ1 ?_;refine ZA.call (i:=0) (rest:=[]) hZ1 hb (f:=66) (args:=#[.pointer (some ⟨bG,0,none⟩),.int .i64 1]) rfl rfl (Q3 rfl rfl func66 rfl Ph0 rfl) (fun a ha=>?_);have hXe:X1={X1 with dn:=0}:=by rw[jm0];show _=_;cases X;simp only[Gh.lower]at V9⊢;subst V9;rfl
 rw[hXe];refine Fin.Ha0 (G:=⟨bG,0⟩) (X:=X1) (K:=fun g'=>g'=_) (by rw[jm0]) (by rw[jm0];exact hp) (by rw[jm0];show X.cap<65536;omega) (fun g' o7=>?_) _ _ _ (Tr0 ⟨bG,0⟩ (fun g'=>g'=_) rfl);subst o7;refine ZA.home (i:=0) rfl rfl ha ?_;have ns1:X1.cap=0:=by rw[jm0];exact gm0
 generalize hX2:({X1 with pend:=1,cap:=X1.cap+1,dn:=0}:Gh)=X2;have lx0:X2=({X1 with pend:=1,cap:=X1.cap+1,dn:=0}:Gh):=hX2.symm;have hZ2:Ctx.Zs prog (Fin prog Post X2 0):=V4;refine ZA.u3 hZ2 ?_;refine ZA.upto hZ2 hb 1 rfl rfl (R:=fun e' w'=>ZA _ _ _ _ e' _ w') ?_ (fun _ _ h=>h);show L _ _ _ _ _ _ _;refine L.va (o4 rfl) ?_;refine U1 ?_;have Bs0:X2.stay=X.stay:=by rw[lx0,jm0];rfl
 have Ug0:X2.G4=X.G4:=by rw[lx0,jm0];rfl
 have Uh0:X2.B8=X.B8:=by rw[lx0,jm0];rfl
 have My0:X2.low=fun k=>X.low k\/k=bG:=by rw[lx0,jm0];rfl
 have Ui0:X2.l3=some ⟨bG,0⟩:=by rw[lx0,jm0]
 have gd1:X2.old=X.l3.toList++X.old:=by rw[lx0,jm0]
 have Mz0:X2.k5=X.k5:=by rw[lx0,jm0];rfl
 have Na0:∀i,X2.N1 i=none:=fun i=>by rw[lx0,jm0];exact h0 i
 have hn2:X2.n=X.n:=by rw[lx0,jm0];rfl
 have Yz0:∀G,(X2.l3=some G\/G∈X2.old)->G.blk=bG\/G.blk<n1:=fun G hG=>by
  rw[Ui0,gd1]at hG;rcases hG with hG|hG
  ·cases hG;exact .inl rfl
  ·rcases List.mem_append.1 hG with hG|hG
   ·exact .inr (hU.l3 G (.inl (by simpa using hG)))
   ·exact .inr (hU.l3 G (.inr hG))
 have mg1:∀b,n1 <=b->b≠bG->¬GB X2 b:=fun b hb o3 ⟨G,hG,e⟩=>by
  rcases Yz0 G hG with h|h
  ·exact o3 (e.trans h)
  ·omega
 have hl1:=hin.sl.lt;have hl2:=hin.p6.lt;have hl3:=(Array.getElem?_eq_some_iff.1 hin.cx).1;have hl4:=hin.cw.lt;have hnx:∀(b:Nat) (cs:Array Value) (T:TypeId),O0 w4 b cs T->cs.size≠4->b≠bx:=fun b cs T h hs e=>by
  subst e;unfold O0 at h;rw[Mx0.cx]at h;have:=(Obj.cells.inj (Option.some.inj h)).1;exact hs (by rw[<- this];rfl)
 refine ZA.beside (i:=1) (rest:=[]) (f:=67) (caps:=#[.pointer (some ⟨bG,0,none⟩),.pointer (some ⟨bb,0,none⟩)]) (gr:=⟨bG,0⟩) (A:=⟨bG,0,none⟩) (bx:=bx) (np:=1056) (ox0:=lr0 bw 0) (ox:=lr0 bw 5) (L0:=[(⟨bs,1,none⟩,.nilFunc)]) (Lc:=stC bb b6 bx bw) (K:=Yx0 cs) hb rfl rfl
  (by rw[lx0]) (by rw[lx0]) (by rw[lx0];show X1.cap+1=1;omega) Ui0 Na0 ⟨fun i p hp=>?_,?_,?_,fun G hG e=>?_⟩ ?_ ?_ Mx0.cx (fun p hp=>?_) ?_ (Rj0 ⟨bG,0⟩ bb b6 bx bw) ⟨_,_,_,rfl⟩ (fun k g hg=>?_)
 ·rw[Bs0]at hp;exact(hUw bx hnb.2.2.1).stay i p hp
 ·rw[Ug0];exact(hUw bx hnb.2.2.1).G4
 ·rw[Uh0];exact(hUw bx hnb.2.2.1).B8
 ·rcases Yz0 G hG with h|h <;> omega
 ·rw[My0];rintro(h|h)
  ·exact hlw bx hnb.2.2.1 h
  ·omega
 ·rw[Mz0];exact hpl bx hnb.2.2.1
 ·have key:∀b cs T i v,O0 w4 b cs T->cs[i]? =some v->cs.size≠4->n1 <=b->b≠bG->w4.cell? ⟨b,i,none⟩=some v/\b≠bx/\¬GB X2 b:=fun b cs T i v h hv hs hn o3=>⟨h.cell hv,hnx b cs T h hs,mg1 b hn o3⟩
  rcases hp with hp|hp
  ·simp only[List.mem_cons,List.not_mem_nil,or_false]at hp;subst hp;exact key bs _ _ 1 _ Mx0.sl rfl (by simp) hnb.1 (by omega)
  ·simp only[stC,List.mem_cons,List.not_mem_nil,or_false]at hp;rcases hp with rfl|rfl|rfl
   ·exact key bb _ _ 0 _ Y3 rfl (by simp) (by omega) (by omega)
   ·exact key b6 _ _ 0 _ Mx0.p6 rfl (by simp) hnb.2.1 (by omega)
   ·exact key bw _ _ 0 _ Mx0.cw rfl (by simp) hnb.2.2.2 (by omega)
 ·refine(?_:At (YM prog true ⟨bG,0⟩ [(⟨bs,1,none⟩,.nilFunc)] (Ri0 prog ⟨bG,0⟩ ⟨bG,0,none⟩ (Yx0 cs)) []) 1056 17 (base 33) cs [] 0 _ _);refine At.u3 R2 ?_;refine At.inBlock R2 ?_;refine At.region R2 ?_;refine I0.val R2 (A1 _) rfl (v:=.int .i64 1) (Bg0 (r:=1) rfl rfl (by decide)) ?_;refine I0.val R2 (A1 _) rfl (v:=.int .i64 1) (M0 rfl) ?_;refine I0.nil R2 ?_;refine At.inLoop R2 ?_;refine U22 ?_;refine U467 ?_;refine At.seq R2 ?_;refine At.Q4 R2 rfl ?_;refine At.skip R2 ?_;refine At.seq R2 ?_;refine At.block R2 ?_;refine U22 ?_;refine I0.val R2 (A1 _) rfl (v:=.pointer (some ⟨bs,1,none⟩)) (Mv0 (i:=1) 1 rfl rfl underlying60 sz1 (by decide) rfl) ?_;refine I0.lq0 (A1 _) rfl (v:=.nilFunc) rfl underlying1 rfl (.inl (.head _)) ?_;refine I0.Yo0 (v:=.nilFunc) (cs0:=[.nilFunc]) (A1 _) rfl zr1 rfl (fun q1=>?_);refine I0.Ml0 (v:=.nilFunc) (A1 _) rfl rfl sz1 rfl (.head _) rfl ?_;refine I0.nil R2 ?_;refine At.seq R2 ?_;refine U22 ?_;refine I0.lq0 (A1 _) rfl (v:=.nilFunc) rfl underlying1 rfl (.inr ⟨_,_,(fp0 (.head _)),rfl,rfl⟩) ?_;refine I0.val R2 (A1 _) rfl (v:=.bool true) (Co0 rfl rfl underlying1 ⟨_,_,_,rfl⟩) ?_;refine I0.nil R2 ?_;refine At.Q4 R2 rfl ?_;refine At.exit R2 rfl ?_;refine At.region R2 ?_;refine I0.val R2 (A1 _) rfl (v:=.int .i64 2) (Bg0 (r:=2) rfl rfl (by decide)) ?_;refine I0.val R2 (A1 _) rfl (v:=.int .i64 2) (M0 rfl) ?_;refine I0.nil R2 ?_;refine At.inLoop R2 ?_;refine U22 ?_;refine I0.val R2 (A1 _) rfl (v:=.bool false) (bv0 (r:=false) rfl rfl (by decide)) ?_;refine I0.nil R2 ?_;refine At.seq R2 ?_;refine At.r6 R2 rfl ?_;refine At.exit R2 rfl ?_;refine At.region R2 ?_;refine I0.call R2 (A1 _) [.pointer (some ⟨bG,0,none⟩)] 84 rfl func70 ci1 rfl rfl rfl (fun cs1 Y5=>?_);obtain⟨a1,ha1,rfl⟩:=Y5.rep;intro a2 ha2 _;exact MP.end (n:=1010) (Yt0 ⟨bG,0⟩ (Yx0 cs) ⟨a1,ha1.size,ha1.defers,rfl⟩ 1 (by decide) a2 ha2)
 ·obtain⟨a,ha1,ha2,rfl⟩:=hg;have hr:Rep 17 a (fun t=>a.tmps.getD t undef):=⟨ha1,ha2,fun _=>rfl⟩
  refine ZA.home (i:=0) (rest:=[]) rfl rfl hr ?_;have hZ3:Ctx.Zs prog (Fin prog Post (X2.jk0 w4 bx k) 0):=V4;refine ZA.u3 hZ3 ?_;refine ZA.done hZ3 ?_;refine ZA.leaves (fn:=Tryz.f33) (f:=33) rfl func33 rfl (fun fr hfn hlv=>?_);have px1:(fo0 w4 bx (lr0 bw 5) k).heap.size=w4.heap.size+k:=kq0;refine hk _ _ fr ⟨Na0,rfl,rfl,rfl,⟨fun i p hp=>?_,fun b o hb=>?_,fun b hb=>?_,fun G hG=>?_,fun b hb=>?_⟩,Mz0,Nat.succ_pos _,fun b hb=>?_⟩ ⟨by omega,?_,?_,?_,fun b hb o3=>?_,xh0 (by omega)⟩ hfn hlv
  ·have hp':p∈X.stay i:=by rw[<- Bs0];exact hp
   have:=hU.stay i p hp';omega
  ·have D8:X.G4 b=some o:=by rw[<- Ug0];exact hb
   have:=hU.G4 b o D8;omega
  ·have D8:X.B8 b:=by rw[<- Uh0];exact hb
   have:=hU.B8 b D8;omega
  ·rcases Yz0 G hG with h|h <;> omega
  ·have D8:X2.low b\/b=bx\/(w4.heap.size <=b/\b<w4.heap.size+k):=hb;rw[My0]at D8;rcases D8 with(h|h)|h|h
   ·have:=hU.low b h;omega
   ·omega
   ·omega
   ·omega
  ·have D8:X2.low b\/b=bx\/(w4.heap.size <=b/\b<w4.heap.size+k):=hb;rw[My0]at D8;rcases D8 with(h|h)|h|h
   ·exact .inl h
   ·right;omega
   ·right;have:=hnb.2.2.1;omega
   ·right;omega
  ·show w4.os=w.os;rw[<- hw4];exact hg3.os.trans (F2.below.os.trans F1.below.os)
  ·show w4.output=w.output;rw[<- hw4];exact hg3.output.trans (F2.below.output.trans F1.below.output)
  ·show w4.tape=w.tape;rw[<- hw4];exact hg3.tape.trans (F2.below.tape.trans F1.below.tape)
  ·rw[jl0 (by omega) o3,ks0 b (by omega),Cs0 b (by omega)];exact F1.below.block b hb
end
def mk0:List O1:=[⟨1,0,1,0⟩,⟨5,0,9,1⟩,⟨1,0,2,0⟩]
def Nb0:Nat->Int:=fun j=>if j=1 then 1 else 0
theorem Nc0 {p:V3} (hm:p.m=2) (hb:p.bo=fun i=>if i<2 then mk0 else []):((L1 p).pn Nb0 6).evs=[(0,⟨1,1,0⟩),(0,⟨9,5,0⟩),(0,⟨2,1,0⟩),(1,⟨1,1,0⟩),(1,⟨9,5,0⟩),(1,⟨2,1,0⟩)]:=by
 obtain⟨m,bo,tb,wb,sb,mb,lgb,RO,wI,B,lb,pl⟩:=p;simp only at hm hb;subst hm hb;kernel_rfl
theorem Ge0 {w:World} {b10 b14:Nat} (h10:O0 w b10 #[.int .i64 1,.int .i64 0,.int .i64 1,.int .i64 0,.int .i64 5,.int .i64 0,.int .i64 9,.int .i64 1,.int .i64 1,.int .i64 0,.int .i64 2,.int .i64 0] 52) (h14:O0 w b14 #[.slice (some ⟨b10,0,none⟩) 3 3,.slice (some ⟨b10,0,none⟩) 3 3] 50) :
  A7 w (some ⟨b14,0,none⟩) 2 (fun i=>if i<2 then mk0 else []) (fun _=>some ⟨b10,0,none⟩) (fun _=>3):=by
 refine⟨fun _=>rfl,fun i hi=>?_,fun i hi=>?_,fun i hi=>?_⟩
 ·match i,hi with
  |0,_=>exact h14.E0 0 rfl
  |1,_=>exact h14.E0 1 rfl
 ·simp only[if_pos hi];refine⟨fun _=>rfl,fun k o ho j v hv=>?_⟩;have hjl:j<4:=(List.getElem?_eq_some_iff.1 hv).1;have hkl:k<3:=(List.getElem?_eq_some_iff.1 ho).1;obtain rfl|rfl|rfl:k=0\/k=1\/k=2:=by omega
  all_goals cases ho
  all_goals obtain rfl|rfl|rfl|rfl:j=0\/j=1\/j=2\/j=3:=by omega
  all_goals cases hv
  ·exact h10.E0 0 rfl
  ·exact h10.E0 1 rfl
  ·exact h10.E0 2 rfl
  ·exact h10.E0 3 rfl
  ·exact h10.E0 4 rfl
  ·exact h10.E0 5 rfl
  ·exact h10.E0 6 rfl
  ·exact h10.E0 7 rfl
  ·exact h10.E0 8 rfl
  ·exact h10.E0 9 rfl
  ·exact h10.E0 10 rfl
  ·exact h10.E0 11 rfl
 ·simp only[if_pos hi];decide
theorem Rl0 {w:World} {b:Nat} (h:O0 w b #[.int .i64 0,.int .i64 1,.int .i64 0,.int .i64 0,.int .i64 0,.int .i64 0] 3):od0 w (some ⟨b,0,none⟩) 6 6 Nb0:=by
 refine⟨fun _=>rfl,(fun h=>by cases h),by decide,fun j hj=>?_⟩
 match j,hj with
 |0,_=>exact h.E0 0 rfl
 |1,_=>exact h.E0 1 rfl
 |2,_=>exact h.E0 2 rfl
 |3,_=>exact h.E0 3 rfl
 |4,_=>exact h.E0 4 rfl
 |5,_=>exact h.E0 5 rfl
theorem Nd0:Rd0 2 (fun i=>if i<2 then mk0 else []) 6:=by
 refine⟨by decide,by decide,fun i hi o ho=>?_,by decide⟩;simp only[if_pos hi,mk0,List.mem_cons,List.not_mem_nil,or_false]at ho;rcases ho with rfl|rfl|rfl
 ·exact .inl ⟨rfl,.inl rfl⟩
 ·exact .inr (.inr (.inr (.inr ⟨rfl,.inr rfl⟩)))
 ·exact .inl ⟨rfl,.inr rfl⟩
theorem ZA.Rm0 {P:Program} [Ctx P] {Z:Goroutine->World->Prop} {b:Frame} {cs:List Frame} {n t:Nat} {e:Env} {w:World} {fn:Func} {f:FuncId} {v:Value} (hb:b=base f) (hf:P.funcs[f]? =some fn) (hr:fn.results=#[.tmp t]) (hv:e t=v) (h:∀fr,fr.fn=f->Leaves P fr w (.returned v)->Z (G fr cs) w):ZR Z n b cs e w:=by
 intro todo a ha;subst hb;refine h _ rfl ⟨rfl,ha.defers,rfl,fn,hf,y7 (fun w=>by rw[results_tmp hr];exact congrArg (fun x=>Result.ok x w) ((ha.get t).trans hv)) (fun w=>events_results_tmp hr _ _)⟩
section
variable [Ctx prog]
end
section
theorem Rn0 (x0:Int) (x1:Int):prog.built 107 [(0,.int .i64 x0),(1,.int .i64 x1)]=some #[.int .i64 x0,.int .i64 x1]:=by kernel_rfl
theorem Ro0 (x0:Int) (x1:Int) (x2:Option Addr) (x3:Int):prog.built 145 [(0,.agg #[.int .i64 x0,.int .i64 x1]),(1,.pointer x2),(2,.int .i64 x3)]=some #[.int .i64 x0,.int .i64 x1,.pointer x2,.int .i64 x3]:=by kernel_rfl
theorem Ej0 (x0:Int) (x1:Int):prog.built 52 [(0,.int .i64 x0),(2,.int .i64 x1)]=some #[.int .i64 x0,.int .i64 0,.int .i64 x1,.int .i64 0]:=by kernel_rfl
theorem Rp0 (x0:Int) (x1:Int) (x2:Int):prog.built 52 [(0,.int .i64 x0),(2,.int .i64 x1),(3,.int .i64 x2)]=some #[.int .i64 x0,.int .i64 0,.int .i64 x1,.int .i64 x2]:=by kernel_rfl
end
section
variable [Ctx prog]
theorem ov0 (wb:Nat) (w0:World) (hW:O0 w0 wb #[.bool true] 105):C prog 44 #[.pointer (some ⟨wb,0,none⟩)] w0 fun v w=>v= .bool true/\w=w0:=by
 refine C.enter (n:=11) func44 rfl rfl ?_;refine U2 ?_;refine U73 ?_;refine U563 ?_;refine U133 ?_;refine U549 ?_;refine L.on rfl ?_;refine L.va (A0 rfl underlying4 rfl (hW.E0 0 (v:=.bool true) rfl)) ?_;refine U126 ?_;exact⟨rfl,rfl⟩
theorem Ct0 (bw:Nat) (obj num x:Int) (w0:World):C prog 41 #[.pointer (some ⟨bw,0,none⟩),.int .i64 obj,.int .i64 num,.int .i64 x] w0 fun v w=>∃bx,v= .pointer (some ⟨bx,0,none⟩)/\w0.heap.size <=bx/\O0 w bx #[.int .i64 obj,.int .i64 num,.pointer (some ⟨bw,0,none⟩),.int .i64 x] 145/\Below w0.heap.size w0 w:=by
 refine C.enter (n:=16) func41 rfl rfl ?_;refine U3 ?_;intro hb;refine U45 ?_;refine U194 ?_;refine L.va (C3 (parts:=[(0,.tmp 9),(1,.tmp 10)]) rfl (Rn0 obj num)) ?_;refine U58 ?_;refine L.va (C3 (parts:=[(0,.tmp 11),(1,.tmp 12),(2,.tmp 13)]) rfl (Ro0 obj num ((some (⟨bw,0,none⟩))) x)) ?_;refine L.box (cs:=#[.int .i64 obj,.int .i64 num,.p bw,.int .i64 x]) rfl rfl (fun w b15 F15=>?_);have Rb0:=F15.lq hb.size;have hb:=P0 hb F15.below;have Ci0:=F15.blk;refine U71 ?_;exact⟨b15,rfl,Rb0,Ci0,hb⟩
theorem Rq0 (bx bw:Nat) (obj num x:Int) (c:Option Addr) (w0:World) (hX:O0 w0 bx #[.int .i64 obj,.int .i64 num,.pointer (some ⟨bw,0,none⟩),.int .i64 x] 145) (hW:O0 w0 bw #[.bool true] 105):C prog 43 #[.pointer (some ⟨bx,0,none⟩),.pointer c] w0 fun v w=>v= .int .i64 x/\Below w0.heap.size w0 w:=by
 refine C.enter (n:=26) func43 rfl rfl ?_;refine U3 ?_;intro hb;refine L.box (cs:=#[.pointer (some ⟨bx,0,none⟩)]) rfl rfl (fun w b2 F2=>?_);refine U16 ?_;intro lt2 hb;have hX:=hX.j0 F2.below;have hW:=hW.j0 F2.below;have Z1:=F2.blk;refine U7 ?_;refine L.alloc (cs:=#[.int .i64 0]) zr3 rfl (fun w b5 F5=>?_);refine U277 ?_;intro lt5 hb;have hX:=hX.j0 F5.below;have hW:=hW.j0 F5.below;have Z1:=Z1.j0 F5.below;refine U137 ?_;refine L.va (A0 rfl underlying86 rfl (Z1.E0 0 (v:=.pointer (some ⟨bx,0,none⟩)) rfl)) ?_;refine L.va (E5 rfl rfl underlying86) ?_;refine U213 ?_;refine U443 ?_;refine L.va (G0 rfl underlying145 rfl Jc0 (by decide)) ?_;refine L.va (A0 rfl underlying56 rfl (hX.E0 2 (v:=.pointer (some ⟨bw,0,none⟩)) rfl)) ?_;refine L.call (C2 rfl func44 rfl Bl0 rfl) (ov0 bw _ hW) ?_;rintro _ w1 ⟨rfl,hw⟩;refine U19 ?_;refine U23 ?_;refine U2 ?_;refine U443 ?_;refine L.va (G0 rfl underlying145 rfl z8 (by decide)) ?_;refine L.va (A0 rfl underlying3 rfl (hX.E0 3 (v:=.int .i64 x) rfl)) ?_;refine U38 ?_;exact⟨rfl,hb⟩
end
structure NLe (n:Nat) (w:World):Prop where
 le:n <=w.heap.size
theorem NLe.j0 {n:Nat} {w w':World} (h:NLe n w) (hb:Below w.heap.size w w'):NLe n w':=⟨Nat.le_trans h.le hb.size⟩
set_option maxHeartbeats 2000000 in
set_option maxRecDepth 20000 in
theorem Ne0 {lb:Nat} {pl:Nat->V6} (w0:World):@C prog (V7 lb pl) 10 #[] w0 fun v w=>v= .bool true/\Below w0.heap.size w0 w:=by
 rintro Z ⟨Post,rfl⟩ cs hk;letI:Ctx prog:=V7 lb pl;have hZ:Ctx.Zs prog (zk0 lb pl Post):=⟨_,rfl⟩
 have hb:=A1 10;rw[enter_at _ func10 rfl];refine(?_:ZA (zk0 lb pl Post) 62 (base 10) cs (Vc.y8 #[]) [.code (Tryz.f10.body.getD .skip)] w0) _ (J6 _ _ rfl);have K6:Below w0.heap.size w0 w0:=Below.refl _ _;obtain⟨n0,hn0⟩:∃n0,n0=w0.heap.size:=⟨_,rfl⟩
 refine U0 ?_;refine U39 ?_;refine U0 ?_;refine L.va (C3 (parts:=[(0,.const (.int .i64 1)),(2,.const (.int .i64 1))]) rfl (Ej0 1 1)) ?_;refine L.va (C3 (parts:=[(0,.const (.int .i64 5)),(2,.const (.int .i64 9)),(3,.const (.int .i64 1))]) rfl (Rp0 5 9 1)) ?_;refine L.va (C3 (parts:=[(0,.const (.int .i64 1)),(2,.const (.int .i64 2))]) rfl (Ej0 1 2)) ?_;refine L.wv0 (vs:=[(0,.agg #[.int .i64 1,.int .i64 0,.int .i64 1,.int .i64 0]),(1,.agg #[.int .i64 5,.int .i64 0,.int .i64 9,.int .i64 1]),(2,.agg #[.int .i64 1,.int .i64 0,.int .i64 2,.int .i64 0])]) (cs:=#[.int .i64 1,.int .i64 0,.int .i64 1,.int .i64 0,.int .i64 5,.int .i64 0,.int .i64 9,.int .i64 1,.int .i64 1,.int .i64 0,.int .i64 2,.int .i64 0]) rfl underlying50 w6 bj1 (by decide) (by kernel_rfl) (fun w b10 F10=>?_);have mh1:=F10.lq K6.size;have K6:=P0 K6 F10.below;have jn0:=F10.blk;refine L.va (cu0 rfl) ?_;refine U1 ?_;refine U0 ?_;refine U122 ?_;refine L.wv0 (vs:=[(0,.slice (some ⟨b10,0,none⟩) 3 3),(1,.slice (some ⟨b10,0,none⟩) 3 3)]) (cs:=#[.slice (some ⟨b10,0,none⟩) 3 3,.slice (some ⟨b10,0,none⟩) 3 3]) rfl underlying22 Bk0 bi1 (by decide) (by kernel_rfl) (fun w b14 F14=>?_);have py1:=F14.lq K6.size;have K6:=P0 K6 F14.below;have jn0:=jn0.j0 F14.below;have Nf0:=F14.blk;refine L.wv0 (vs:=[(0,.int .i64 0),(1,.int .i64 1),(2,.int .i64 0),(3,.int .i64 0),(4,.int .i64 0),(5,.int .i64 0)]) (cs:=#[.int .i64 0,.int .i64 1,.int .i64 0,.int .i64 0,.int .i64 0,.int .i64 0]) rfl underlying23 z8 zr3 (by decide) (by kernel_rfl) (fun w b15 F15=>?_);have Rb0:=F15.lq K6.size;have K6:=P0 K6 F15.below;have jn0:=jn0.j0 F15.below;have Nf0:=Nf0.j0 F15.below;have Ci0:=F15.blk;have jn0:O0 w b10 _ _:=jn0;have Nf0:O0 w b14 _ _:=Nf0;have Ci0:O0 w b15 _ _:=Ci0;refine L.call (Q3 rfl rfl func11 rfl bt1 rfl) (Mi0 w (Ge0 jn0 Nf0) (fun i hi=>if_neg (by omega)) (Rl0 Ci0) Nd0) ?_;rintro _ w1 ⟨p,R,r1,rfl,⟨pm,pbo,pB⟩,hP,hY,P1⟩;have K6:=P0 K6 P1;clear P1
 rename World=>w
 have hev:=hY.run.evs.trans (Nc0 pm pbo);refine U300 ?_;have or0:=hY;have Ab0:=K6;refine L.alloc (cs:=#[.slice none 0 0,.slice none 0 0,.slice none 0 0,.slice none 0 0,.bool false,.int .i64 0]) Bj0 rfl (fun w b2 F2=>?_);have lt2:=F2.lq K6.size;have Z1:=F2.blk;refine L.pa [.slice R.ea R.evs.length R.ec,.slice R.na R.r2.length R.nc,.slice (some ⟨R.eb,0,none⟩) R.m R.m,.slice (some ⟨R.wb,0,none⟩) R.m R.m,.bool R.stuck,.int .i64 (R.used:Int)] df0 Z1 (fun w Z0 hg I2=>?_);have j8:=D3 F2.below F2.below.size hg (by have:=F2.here;omega);have hY:=or0.j0 j8;have K6:=P0 Ab0 j8;have Z1:=Z0;clear Z0 hg I2 j8 F2 or0 Ab0;refine L.va (cu0 rfl) ?_;refine L.va (yf0 rfl) ?_;refine U24 ?_;refine U0 ?_;refine U190 ?_;refine U44 ?_;refine U282 ?_;refine L.on rfl ?_;refine L.va (Az0 (m:=6) (by rw[hev];rfl) rfl underlying26 rfl) ?_;refine L.on rfl ?_;refine L.va (E1 (r:=false) (by decide) (ax0 (m:=6) (k:=6) rfl rfl)) ?_;refine U67 ?_;refine U282 ?_;refine L.on rfl ?_;refine L.va (S3 (i:=1) rfl rfl underlying26 yw0 hY.run.mem.evs.sl (by rw[hev];decide)) ?_;refine U556 ?_;refine L.on rfl ?_;refine L.va (A0 (v:=.int .i64 0) rfl underlying3 rfl (by rw[hY.run.mem.evs.off];exact hY.run.mem.evs.cell (j:=4) (by rw[hev];rfl))) ?_;refine L.on rfl ?_;refine L.va (E1 (r:=false) (by decide) (ax0 (m:=0) (k:=0) rfl rfl)) ?_;refine U67 ?_;refine U282 ?_;refine L.on rfl ?_;refine L.va (S3 (i:=3) rfl rfl underlying26 yw0 hY.run.mem.evs.sl (by rw[hev];decide)) ?_;refine U556 ?_;refine L.on rfl ?_;refine L.va (A0 (v:=.int .i64 1) rfl underlying3 rfl (by rw[hY.run.mem.evs.off];exact hY.run.mem.evs.cell (j:=12) (by rw[hev];rfl))) ?_;refine L.on rfl ?_;refine L.va (E1 (r:=false) (by decide) (ax0 (m:=1) (k:=1) rfl rfl)) ?_;refine L.va (u7 rfl) ?_;refine U269 ?_;refine U319 ?_;refine L.va (ik0 rfl) ?_;refine U24 ?_;refine fun a ha X hL h1 h2 h3=>(?_:ZA (Fin prog Post X 0) 62 (base 10) cs _ _ _) a ha;letI:Ctx prog:=j2 prog true;have hZ:Ctx.Zs prog (Fin prog Post X 0):=V4;obtain⟨wN,hwN⟩:∃wN,wN=w:=⟨_,rfl⟩
 have hN:Below wN.heap.size wN w:=by rw[hwN];exact Below.refl _ _
 have h0N:w0.heap.size <=wN.heap.size:=by rw[hwN];exact K6.size
 rw[<- hwN]at hL h1;clear hwN hY hev;refine U108 ?_;refine L.call (bq0  func17 rfl bu1 rfl) (Md0 _) ?_;rintro _ w ⟨bw,rfl,ltw,hRW,P1⟩;have ltw:=Nat.le_trans hN.size ltw;have K6:=P0 K6 P1;have hN:=P0 hN P1;refine L.call (m9 rfl rfl rfl rfl func41 rfl jq1 rfl) (Ct0 bw 1 1 0 _) ?_;rintro _ w ⟨bx,rfl,ltx,hX,P1⟩;have ltx:=Nat.le_trans hN.size ltx;have K6:=P0 K6 P1;have hN:=P0 hN P1;have hRW:=hRW.j0 P1;have Uj0:=hRW;have ge1:=hX;have Ab0:=K6;have gf1:=hN;refine L.alloc (cs:=#[.pointer none]) iu1 rfl (fun w b6 F6=>?_);have lt6:=F6.lq K6.size;have nt6:=Nat.le_trans hN.size (Nat.le_of_eq F6.here.symm);have u6:=F6.blk;refine L.pa [.p bx] it1 u6 (fun w Z0 hg I2=>?_);have j8:=D3 F6.below F6.below.size hg (by have:=F6.here;omega);have hRW:=Uj0.j0 j8;have hX:=ge1.j0 j8;have K6:=P0 Ab0 j8;have hN:=P0 gf1 j8;have u6:=Z0;clear Z0 hg I2 j8 F6 Uj0 ge1 Ab0 gf1;refine U24 ?_;refine ZA.upto hZ hb 2 rfl rfl (R:=fun e' w'=>ZA _ _ _ _ e' _ w') ?_ (fun _ _ h=>h);show L _ _ _ _ _ _ _;refine L.va (o4 (l:=[.tmp 6]) (vs:=[.pointer (some ⟨b6,0,none⟩)]) rfl) ?_;refine L.wv0 (vs:=[(0,.func (.func 45) #[] #[.pointer (some ⟨b6,0,none⟩)]),(1,.nilFunc)]) (cs:=#[.func (.func 45) #[] #[.pointer (some ⟨b6,0,none⟩)],.nilFunc]) rfl underlying60 sz1 zr1 (by decide) (by kernel_rfl) (fun w b47 F47=>?_);have pz1:=F47.lq K6.size;have mi1:=Nat.le_trans hN.size (Nat.le_of_eq F47.here.symm);have K6:=P0 K6 F47.below;have hN:=P0 hN F47.below;have hRW:=hRW.j0 F47.below;have hX:=hX.j0 F47.below;have u6:=u6.j0 F47.below;have gg1:=F47.blk;refine U1 ?_;refine ZA.call (i:=2) (rest:=[]) hZ hb (f:=33) (args:=#[.slice (some ⟨b47,0,none⟩) 2 2]) rfl rfl (C2 rfl func33 rfl jk1 rfl) (fun a ha=>?_);refine Cr0 (n1:=wN.heap.size) (bs:=b47) (b6:=b6) (bx:=bx) (bw:=bw) ⟨gg1,u6,hX,hRW⟩ hL.N1 hL.cap hL.pend hL.dn hL.under hL.k5 ⟨mi1,nt6,ltx,ltw⟩ (fun X' w fr hF hO hfn hlv=>?_);letI:Ctx prog:=j2 prog true;have hZ:Ctx.Zs prog (Fin prog Post X' 0):=V4;refine ZA.back (cc0 prog Post X' 0) (i:=2) rfl rfl ha hlv ?_;refine ZA.u3 hZ ?_;have I2:=hO.size;have gh1:Below w0.heap.size w0 w:=⟨hO.os.trans K6.os,hO.tape.trans K6.tape,hO.output.trans K6.output,Nat.le_trans K6.size I2,fun q hq=>(hO.block q (Nat.lt_of_lt_of_le hq K6.size) (by have:=Nat.le_trans h0N ltx;omega)).trans (K6.block q hq)⟩
 have hNn:wN.heap.size <=w.heap.size:=Nat.le_trans hN.size I2;have gi1:O0 w b6 #[.pointer (some ⟨bx,0,none⟩)] 86:=(hO.block b6 u6.lt (O0.ne u6 hX (by decide))).trans u6;have gj1:O0 w bw #[.bool true] 105:=(hO.block bw hRW.lt (O0.ne hRW hX (by decide))).trans hRW;have hXn:O0 w bx #[.int .i64 1,.int .i64 1,.pointer (some ⟨bw,0,none⟩),.int .i64 5] 145:=hO.cx;clear K6 hN u6 hRW hX gg1 hO;have K6:=gh1;have u6:=gi1;have hRW:=gj1;have hX:=hXn;clear gh1 gi1 gj1 hXn;have gk1:X'.T9 w.heap.size:=hF.under;obtain⟨n9,hn9⟩:∃n9,n9=w.heap.size:=⟨_,rfl⟩
 rw[<- hn9]at gk1 hNn;have hM:Below n9 w w:=by rw[hn9];exact Below.refl _ _
 have hM9:n9 <=w.heap.size:=Nat.le_of_eq hn9;clear hn9 I2;have hM9:NLe n9 w:=⟨hM9⟩
 clear hM;refine U0 ?_;refine L.va (A0 rfl underlying86 rfl (u6.E0 0 (v:=.pointer (some ⟨bx,0,none⟩)) rfl)) ?_;refine L.call (Q3 rfl rfl func43 rfl js1 rfl) (Rq0 bx bw 1 1 5 _ _ hX hRW) ?_;rintro _ w ⟨rfl,P1⟩;have K6:=P0 K6 P1;have hM9:=hM9.j0 P1;refine U200 ?_;refine U201 ?_;refine L.va (E1 (r:=true) (by decide) (H2 (m:=5) (k:=5) rfl rfl)) ?_;refine U44 ?_;refine L.call (bq0  func17 rfl bu1 rfl) (Md0 _) ?_;rintro _ w ⟨br,rfl,_,hR2,P1⟩;have K6:=P0 K6 P1;have hM9:=hM9.j0 P1;refine L.on rfl ?_;refine L.call (C2 rfl func44 rfl Bl0 rfl) (ov0 br _ hR2) ?_;rintro _ w1 ⟨rfl,hw⟩;refine U19 ?_;refine L.va (E8 rfl) ?_;refine U44 ?_;refine L.call (bq0  func36 rfl bv1 rfl) (ln0 _) ?_;rintro _ w ⟨bs,rfl,_,hS2,P1⟩;have K6:=P0 K6 P1;have hM9:=hM9.j0 P1;refine L.on rfl ?_;refine L.call (C2 rfl func44 rfl Bl0 rfl) (jf0 bs _ hS2) ?_;rintro _ w1 ⟨rfl,hw⟩;refine U19 ?_;refine U195 ?_;refine L.va (E8 rfl) ?_;refine U39 ?_;refine ZA.ret hZ ?_;refine ZA.Rm0 (t:=0) (fn:=Tryz.f10) (f:=10) rfl func10 rfl rfl (fun fr hfn hlv=>?_);have hpl:∀b,wN.heap.size <=b->X'.k5 b= .all:=fun b hb=>by rw[hF.k5];exact hL.k5 b hb
 have hm9:=hM9.le;exact hk (.returned (.bool true)) w fr ⟨rfl,K6⟩ hfn hlv X' ⟨hF.N1,hF.cap,hF.pend,hF.dn,gk1.mono hm9,fun b hb=>hpl b (by omega),hF.ki0⟩ (by omega) (fun b hb=>by rcases hF.low b hb with z|z;exact h2 b z;omega) (hF.k5.trans h3)
theorem Sys.gl1 {Y:Sys} (I:PR Y->Prop) (h0:I Y.p0) (hb:∀p,Y.Reach p->I p->p.ft.length<Y.m->I (Y.bgn p)) (ht:∀p i l,Y.Reach p->I p->p.ft.length=Y.m->p.ft[i]? =some (.inl l)->Y.rdy i l p.s=true->I (Y.v5 p i)):∀p,Y.Reach p->I p:=by
 have hB:∀n,n <=Y.m->I (Y.P4 n):=by
  intro n
  induction n with
  |zero=>exact fun _=>h0
  |succ n ih=>exact fun hn=>hb _ (.inl ⟨n,by omega,rfl⟩) (ih (by omega)) (by rw[Sys.T5];omega)
 have hP:∀(sc:Nat->Int) n,I (Y.pn sc n):=by
  intro sc n
  induction n with
  |zero=>exact hB Y.m (Nat.le_refl _)
  |succ n ih=>
   show I (Y.step (Y.pn sc n) (sc n));unfold Sys.step;split
   ·rename_i i hi;obtain⟨_,hr⟩:=Sys.mi0 hi;unfold Sys.B7 at hr;cases hx:(Y.pn sc n).ft[i]? with
    |none=>rw[hx]at hr;cases hr
    |some f=>
     cases f with
     |inl l=>rw[hx]at hr;exact ht _ i l (.inr ⟨sc,n,rfl⟩) ih (Sys.b9 sc n) hx hr
     |inr x=>rw[hx]at hr;cases hr
   ·exact ih
 rintro p (⟨n,hn,rfl⟩|⟨sc,n,rfl⟩)
 ·exact hB n hn
 ·exact hP sc n
def stepOf (o:O1):Stp:=⟨o.call,o.I3,(Q0 o:Nat)⟩
structure Trs (p:V3) (q:PR (L1 p)) (st:Nat->PS):Prop where
 s0:st 0=ps0
 s1:st q.evs.length=q.s
 go:∀i,i<q.evs.length->∃c o,q.evs[i]? =some (c,stepOf o)/\c<p.m/\(p.bo c)[((st i).W1 c).length]? =some o/\O8 o (st i)=true/\st (i+1)=J5 c (Z5 o (st i))
theorem Gf0 {p:V3}:∀q,(L1 p).Reach q->∃st,Trs p q st:=by
 refine Sys.gl1 (Y:=L1 p) (fun q=>∃st,Trs p q st) ⟨fun _=>ps0,rfl,rfl,fun i hi=>absurd hi (Nat.not_lt_zero _)⟩ (fun q hR hq _=>?_) (fun q i k hR hq hlen hf hr=>?_)
 ·obtain⟨st,h⟩:=hq;exact⟨st,h.s0,h.s1,h.go⟩
 ·obtain⟨st,h⟩:=hq;have him:i<p.m:=by have:=(List.getElem?_eq_some_iff.1 hf).1;have hlen:q.ft.length=p.m:=hlen;omega
  obtain⟨h1,h2⟩:=(eg0 q hR).o5 i k hf;obtain⟨o,ho⟩:∃o,(p.bo i)[k]? =some o:=⟨_,List.getElem?_eq_getElem h2⟩
  have ht:(L1 p).v5 q i={q with s:=(goP (p.bo i) i k q.s).s,ft:=q.ft.set i (goP (p.bo i) i k q.s).K8,evs:=q.evs ++ [(i,(L1 p).stp i k)],r2:=q.r2++tell i (q.evs.length+1) (goP (p.bo i) i k q.s).r2,outs:=q.outs ++ [goP (p.bo i) i k q.s],who:=q.who ++ [some i],used:=q.used+1}:=by
   unfold Sys.v5;rw[hf]
  have hs:(L1 p).stp i k=stepOf o:=by
   show(match(p.bo i)[k]? with|some o=>(⟨o.call,o.I3,(Q0 o:Nat)⟩:Stp)|none=>⟨0,0,0⟩)=_;rw[ho];rfl
  have hr':O8 o q.s=true:=by
   have hr:(match(p.bo i)[k]? with|some o=>O8 o q.s|none=>true)=true:=hr;rw[ho]at hr;exact hr
  rw[ht,wz0 ho,hs];refine⟨fun j=>if j <=q.evs.length then st j else J5 i (Z5 o q.s),?_,?_,fun j hj=>?_⟩
  ·show(if 0 <=q.evs.length then st 0 else _)=_;rw[if_pos (Nat.zero_le _)];exact h.s0
  ·show(if(q.evs ++ [_]).length <=q.evs.length then _ else _)=_;rw[List.length_append,List.length_singleton,if_neg (by omega)];rfl
  ·have hj:j<(q.evs ++ [(i,stepOf o)]).length:=hj;rw[List.length_append,List.length_singleton]at hj;show ∃c o',(q.evs ++ [(i,stepOf o)])[j]? =some (c,stepOf o')/\c<p.m/\(p.bo c)[((if j <=q.evs.length then st j else _).W1 c).length]? =some o'/\O8 o' (if j <=q.evs.length then st j else _)=true/\(if j+1 <=q.evs.length then st (j+1) else _)=J5 c (Z5 o' (if j <=q.evs.length then st j else _));rw[if_pos (by omega)];by_cases hjl:j<q.evs.length
   ·obtain⟨c,o',g1,g2,g3,g4,g5⟩:=h.go j hjl;rw[List.getElem?_append_left hjl,if_pos (by omega)];exact⟨c,o',g1,g2,g3,g4,g5⟩
   ·have e:j=q.evs.length:=by omega
    subst e;rw[List.getElem?_append_right (Nat.le_refl _),Nat.sub_self,if_neg (by omega),h.s1];exact⟨i,o,rfl,him,by rw[h1];exact ho,hr',rfl⟩
section
variable {p:V3}{q:PR (L1 p)}{st:Nat->PS}
theorem Ng0 (o:O1) (s:PS):(Z5 o s).1.u4=if o.call=3 then D7 s.u4 (Q0 o) (IntKind.i64.wrap (s.u4 (Q0 o)+1)) else if o.call=4 then D7 s.u4 (Q0 o) (max 0 (IntKind.i64.wrap (s.u4 (Q0 o)-1))) else s.u4:=by
 unfold Z5;by_cases h1:o.call=1
 ·rw[if_pos h1,if_neg (by omega),if_neg (by omega)]
 by_cases h2:o.call=2
 ·rw[if_neg h1,if_pos h2,if_neg (by omega),if_neg (by omega)]
 by_cases h3:o.call=3
 ·rw[if_neg h1,if_neg h2,if_pos h3,if_pos h3]
 by_cases h4:o.call=4
 ·rw[if_neg h1,if_neg h2,if_neg h3,if_pos h4,if_neg h3,if_pos h4]
 rw[if_neg h1,if_neg h2,if_neg h3,if_neg h4,if_neg h3,if_neg h4];split
 ·rfl
 split <;> rfl
theorem ml0 {z:Int} (h:-9223372036854775808 <=z/\z <=9223372036854775807):IntKind.i64.wrap z=z:=by
 simp[IntKind.wrap,IntKind.signed,IntKind.bits];omega
theorem Trs.rd (h:Trs p q st) (hl:q.evs.length <=1000000):∀i,i <=q.evs.length->∀n,0 <=(st i).u4 n/\(st i).u4 n <=i
 |0,_,n=>by rw[h.s0];exact⟨Int.le_refl _,Int.le_refl _⟩
 |i+1,hi,n=>by
  have ih:=Trs.rd h hl i (by omega);obtain⟨c,o,_,_,_,_,e⟩:=h.go i (by omega);have er:(st (i+1)).u4=(Z5 o (st i)).1.u4:=by rw[e];rfl
  rw[er,Ng0];have h1:=ih n;have h2:=ih (Q0 o);split
  ·by_cases hn:n=Q0 o
   ·subst hn;rw[R3,ml0 (by omega)];omega
   ·rw[j4 hn];omega
  split
  ·by_cases hn:n=Q0 o
   ·subst hn;rw[R3,ml0 (by omega)];omega
   ·rw[j4 hn];omega
  ·omega
end
def rdA (r:Nat->Int):Array Value:=arr 2 fun j=>.int .i64 (r j)
theorem xj0 {α:Type} (f:α->List Value) (k:Nat) (hf:∀x,(f x).length=k):∀(l:List α) (i:Nat) (x:α) (j:Nat) (v:Value),l[i]? =some x->(f x)[j]? =some v->(l.flatMap f)[i*k+j]? =some v:=by
 intro l
 induction l with
 |nil=>intro i x j v h;cases h
 |cons y l ih=>
  intro i x j v h hj;rw[List.flatMap_cons];cases i with
  |zero=>
   cases h;have hl:=(List.getElem?_eq_some_iff.1 hj).1;rw[Nat.zero_mul,Nat.zero_add,List.getElem?_append_left hl];exact hj
  |succ i=>
   rw[List.getElem?_append_right (by rw[hf,Nat.succ_mul];omega),hf,Nat.succ_mul,show i*k+k+j-k=i*k+j by omega];exact ih i x j v h hj
section
theorem gz0 (c:Nat) (x:PS×Int) (d:Nat):(J5 c x).W1 d=if d=c then x.1.W1 c ++ [x.2] else x.1.W1 d:=by
 show D7 x.1.W1 c _ d=_;by_cases h:d=c
 ·subst h;rw[R3,if_pos rfl]
 ·rw[j4 h,if_neg h]
end
def Ac0 (m:Nat) (f:Nat->List Int):Array Value:=arr m fun c=>.int .i64 ((f c).length:Nat)
theorem Nh0 {m c k:Nat} {f g:Nat->List Int} (hk:(f c).length=k) (hg:∀d,(g d).length=if d=c then(f c).length+1 else(f d).length):setRow (Ac0 m f) (0+c*1) [.int .i64 ((k:Int)+1)]=Ac0 m g:=by
 unfold Ac0;rw[I9];refine al0 fun j _=>?_;rw[hg j];by_cases e:j=c
 ·subst e;rw[if_pos (by omega),if_pos rfl,hk];rfl
 ·rw[if_neg (by omega),if_neg e]
theorem jo0 {w:World} {b m c:Nat} {T:TypeId} {f:Nat->List Int} (hB:O0 w b (Ac0 m f) T) (hc:c<m) {k:Nat} (hk:(f c).length=k):w.cell? ⟨b,0+c*1,none⟩=some (.int .i64 (k:Nat)):=by
 refine O0.E0 hB _ ((v7 (by omega)).trans ?_);rw[show 0+c*1=c by omega,hk]
theorem Gg0 (m:Nat):Array.replicate (m*1) (.int .i64 0)=Ac0 m fun _=>[]:=by
 rw[xd0];rfl
def stF (s:PS):Nat->Value:=fun j=>if j<12 then .bool (s.held (j/2) (j%2)) else if j<14 then .int .i64 (s.u4 (j-12)) else .int .i64 (s.val ((j-14)/2) ((j-14)%2))
def stA (s:PS):Array Value:=arr 26 (stF s)
theorem n5 (s:PS):(stA s).size=26:=H8 _ _
theorem Rr0 (s:PS):∀u∈(stA s).toList,u.oneCell'=true:=fun u hu=>by
 unfold stA arr at hu;simp only[List.mem_map]at hu;obtain⟨j,_,rfl⟩:=hu;unfold stF;split
 ·rfl
 split <;> rfl
theorem Ad0 {s:PS} {t n:Nat} (ht:t<6) (hn:n<2) (b:Bool):setRow (stA s) (0+t*2+n*1) [.bool b]=stA {s with held:=up2 s.held t n b}:=by
 unfold stA;rw[I9];refine al0 fun j _=>?_;unfold stF;dsimp only;by_cases e:j=0+t*2+n*1
 ·rw[if_pos e,if_pos (by omega),show j/2=t by omega,show j%2=n by omega,fi0]
 ·rw[if_neg e];split
  ·rw[wy0 (by omega)]
  ·rfl
theorem Ae0 {s:PS} {n:Nat} (hn:n<2) (v:Int):setRow (stA s) (12+n*1) [.int .i64 v]=stA {s with u4:=D7 s.u4 n v}:=by
 unfold stA;rw[I9];refine al0 fun j _=>?_;unfold stF;dsimp only;by_cases e:j=12+n*1
 ·rw[if_pos e,if_neg (by omega),if_pos (by omega),show j-12=n by omega,R3]
 ·rw[if_neg e];split
  ·rfl
  split
  ·rw[j4 (by omega)]
  ·rfl
theorem xk0 {s:PS} {t n:Nat} (ht:t<6) (hn:n<2) (v:Int):setRow (stA s) (14+t*2+n*1) [.int .i64 v]=stA {s with val:=up2 s.val t n v}:=by
 unfold stA;rw[I9];refine al0 fun j _=>?_;unfold stF;dsimp only;by_cases e:j=14+t*2+n*1
 ·rw[if_pos e,if_neg (by omega),if_neg (by omega),show(j-14)/2=t by omega,show(j-14)%2=n by omega,fi0]
 ·rw[if_neg e];split
  ·rfl
  split
  ·rfl
  ·rw[wy0 (by omega)]
section
variable {w:World}{b t n:Nat}{T:TypeId}{s:PS}
theorem Cu0 (hB:O0 w b (stA s) T) (ht:t<6) (hn:n<2) {v:Bool} (hv:s.held t n=v):w.cell? ⟨b,0+t*2+n*1,none⟩=some (.bool v):=by
 refine O0.E0 hB _ ((v7 (by omega)).trans ?_);unfold stF;rw[if_pos (by omega),show(0+t*2+n*1)/2=t by omega,show(0+t*2+n*1)%2=n by omega,hv]
theorem xl0 (hB:O0 w b (stA s) T) (hn:n<2) {v:Int} (hv:s.u4 n=v):w.cell? ⟨b,12+n*1,none⟩=some (.int .i64 v):=by
 refine O0.E0 hB _ ((v7 (by omega)).trans ?_);unfold stF;rw[if_neg (by omega),if_pos (by omega),show 12+n*1-12=n by omega,hv]
theorem xm0 (hB:O0 w b (stA s) T) (ht:t<6) (hn:n<2) {v:Int} (hv:s.val t n=v):w.cell? ⟨b,14+t*2+n*1,none⟩=some (.int .i64 v):=by
 refine O0.E0 hB _ ((v7 (by omega)).trans ?_);unfold stF;rw[if_neg (by omega),if_neg (by omega),show(14+t*2+n*1-14)/2=t by omega,show(14+t*2+n*1-14)%2=n by omega,hv]
end
section
variable [Ctx prog]{n:Nat}{Q:Exit->Env->World->Prop}{e:Env}{w:World}{ops:Array Oper}{rest:List Oper}{ty:TypeId}{ps:String}{af:Array Edge}{x y:Operand}
theorem L.Af0 {b:Nat} {cs:Array Value} {s:PS} (hx:ev e x= .pointer (some ⟨b,0,none⟩)) (hy:ev e y= .agg (stA s)) (hB:O0 w b cs 40) (hc:cs.size=26)
  (k:∀w1,O0 w1 b (stA s) 40->w.grownBy w1 (some b)->w1.heap.size=w.heap.size->L prog n ops Q rest e w1):L prog n ops Q (⟨none,.store 40 x y,ty,ps,af,none⟩::rest) e w:=by
 refine L.storeAll (vs:=(stA s).toList) (s:=26) hx hy (by simp[Value.cells]) Jb0 (by rw[Array.length_toList];exact n5 s) hc (Rr0 s) hB fun w1 h1=>?_;rw[Array.toArray_toList]at h1;exact k w1 h1
end
section
variable {w:World}{ty:TypeId}{ps:String}{af:Array Edge}{x:Operand}{d:Nat}
theorem bg0 {w:World} {ρ:Operand->Value} {d:Option Nat} {g:Option (Nat×Bool)} {b:Nat} {s:PS} (hx:ρ x= .pointer (some ⟨b,0,none⟩)) (hB:O0 w b (stA s) 40):Does prog (execOp ρ ⟨d,.load 40 x,ty,ps,af,g⟩) w (.val (.agg (stA s))) w :=
 jz0 (G:=stF s) hx underlying40 rfl Jb0 hB (by decide) fun k _=>by rw[Nat.zero_add]
end
section
variable [Ctx prog]
end
theorem Rs0 {s:PS} {n:Nat} (hr:s.u4 n=0):{s with u4:=D7 s.u4 n (max 0 (IntKind.i64.wrap (s.u4 n-1)))}=s:=by
 have e:D7 s.u4 n (max 0 (IntKind.i64.wrap (s.u4 n-1)))=s.u4:=by
  rw[hr];funext k;by_cases h:k=n
  ·subst h;rw[R3,hr];rfl
  ·exact j4 h
 rw[e]
theorem pr1 (o:O1) (s:PS) (h:o.call=1) {t:Nat} (hT:pT o=t):O8 o s=(!s.held t (Q0 o)&&decide (prd s t (Q0 o)=0)):=by
 unfold O8;rw[if_pos h,hT]
theorem pr3 (o:O1) (s:PS) (h:o.call=3):O8 o s= !s.held 2 (Q0 o):=by
 unfold O8;rw[if_neg (by omega),if_pos h]
theorem pr0 (o:O1) (s:PS) (h1:o.call≠1) (h3:o.call≠3):O8 o s=true:=by
 unfold O8;rw[if_neg h1,if_neg h3]
section
variable [Ctx prog]
end
section
theorem Rt0 (x0:Int) (x1:Int) (x2:Int):prog.built 47 [(0,.int .i64 x0),(1,.int .i64 x1),(2,.int .i64 x2)]=some #[.int .i64 x0,.int .i64 x1,.int .i64 x2]:=by kernel_rfl
end
section
variable [Ctx prog]
theorem Za0 (o:O1) (w0:World):C prog 50 #[.agg #[.int .i64 o.I3,.int .i64 o.J9,.int .i64 o.call,.int .i64 o.val]] w0 fun v w=>v=gk0 (stepOf o)/\Below w0.heap.size w0 w:=by
 refine C.enter (n:=10) func50 rfl rfl ?_;refine U266 ?_;intro hb w b1 F1;have lt1:=F1.lq hb.size;have hb:=P0 hb F1.below;have hB1:=F1.blk;refine L.alloc (cs:=#[.int .i64 0,.int .i64 0,.int .i64 0]) io1 rfl (fun w b2 F2=>?_);refine U16 ?_;intro lt2 hb;have hB1:=hB1.j0 F2.below;have Z1:=F2.blk;refine U65 ?_;refine W.fl 6 [5] [0,1,2,3,4,5] (fun w'=>O0 w' b1 #[.int .i64 o.I3,.int .i64 o.J9,.int .i64 o.call,.int .i64 o.val] 52) (by kernel_rfl) (by kernel_rfl) (by kernel_rfl) (by kernel_rfl) (by kernel_rfl) (hB1.j0 (Below.refl w.heap.size w).drew) ?_;refine U235 ?_;intro L4 hb;have hB1:=hB1.j0 L4;have Z1:=Z1.j0 L4;clear L4;generalize w.drew=w at *;refine F.va rfl rfl (fun w' C1=>(G0 rfl underlying52 rfl z8 (by decide))) ?_;refine F.va rfl rfl (fun w' C1=>(A0 rfl underlying3 rfl (C1.E0 2 (v:=.int .i64 o.call) rfl))) ?_;refine F.va rfl rfl (fun w' C1=>(G0 rfl underlying52 rfl z8 (by decide))) ?_;refine F.va rfl rfl (fun w' C1=>(A0 rfl underlying3 rfl (C1.E0 0 (v:=.int .i64 o.I3) rfl))) ?_;refine F.va rfl rfl (fun w' C1=>(j1 (cs:=[.int .i64 o.I3,.int .i64 o.J9,.int .i64 o.call,.int .i64 o.val]) rfl underlying52 rfl w6 rfl (C1.J4 rfl))) ?_;refine F.doo rfl rfl ?_;refine L.call (C2 rfl func15 rfl E9 rfl) (l5 o _) ?_;rintro _ w ⟨rfl,P1⟩;have hb:=P0 hb P1;have hB1:=hB1.j0 P1;have Z1:=Z1.j0 P1;refine L.nil ⟨rfl,hB1,?_⟩;refine U6 ?_;refine L.va (C3 (parts:=[(0,.tmp 4),(1,.tmp 6),(2,.tmp 8)]) rfl (Rt0 o.call o.I3 (Q0 o:Nat))) ?_;refine L.pu 0 [.int .i64 o.call,.int .i64 o.I3,.int .i64 (Q0 o:Nat)] #[.int .i64 o.call,.int .i64 o.I3,.int .i64 (Q0 o:Nat)] dg0 Z1 (fun w Z0 hg I2=>?_);have x6:=T3.eo0 Z1 hg;have hb:=D3 hb hb.size hg lt2;have Z1:=Z0;clear x6;refine U5 ?_;refine U160 ?_;refine ends.cell (cs:=#[.int .i64 o.call,.int .i64 o.I3,.int .i64 (Q0 o:Nat)]) (.inr rfl) rfl rfl underlying47 rfl dg0 Z1 ?_;exact⟨rfl,hb⟩
theorem Ru0 (wh vv:Int) (s:PS) (w0:World) (h:s.held 1 (Q0 (⟨1,wh,1,vv⟩:O1))=true):C prog 40 #[.agg (stA s),.agg #[.int .i64 1,.int .i64 wh,.int .i64 1,.int .i64 vv]] w0 fun v w=>v= .bool (O8 (⟨1,wh,1,vv⟩:O1) s)/\Below w0.heap.size w0 w:=by
 refine U92 ?_;intro hb;refine U94 ?_;intro w b2 F2 lt2 hb Z1;refine L.box (cs:=#[.int .i64 1,.int .i64 wh,.int .i64 1,.int .i64 vv]) rfl rfl (fun w b3 F3=>?_);refine U10 ?_;intro lt3 hb Z1 n3;refine U75 ?_;refine U155 ?_;refine U23 ?_;refine U335 ?_;refine U76 ?_;intro L4 hb Z1 n3;clear L4;generalize w.drew=w at *;refine U507 ?_;refine U392 ?_;refine U490 ?_;rintro _ w ⟨rfl,P1⟩;refine U88 ?_;intro hb Z1 n3;refine L.nil ⟨rfl,⟨n3,Z1⟩,?_⟩;refine F.va rfl rfl (fun w' C1=>(M1 (i:=Q0 (⟨1,wh,1,vv⟩:O1)) (n:=2) rfl rfl underlying34 sz4 (J0 _))) ?_;refine U437 ?_;refine U63 ?_;refine U63 ?_;refine U63 ?_;refine U303 ?_;refine L.nil ⟨rfl,⟨n3,Z1⟩,?_⟩;refine U6 ?_;refine U70 ?_;refine U308 ?_;exact⟨by rw[pr1 _ s rfl (t:=1) rfl,h];rfl,hb⟩
theorem Rv0 (wh vv:Int) (s:PS) (w0:World) (h:s.held 1 (Q0 (⟨1,wh,1,vv⟩:O1))=false):C prog 40 #[.agg (stA s),.agg #[.int .i64 1,.int .i64 wh,.int .i64 1,.int .i64 vv]] w0 fun v w=>v= .bool (O8 (⟨1,wh,1,vv⟩:O1) s)/\Below w0.heap.size w0 w:=by
 refine U92 ?_;intro hb;refine U94 ?_;intro w b2 F2 lt2 hb Z1;refine L.box (cs:=#[.int .i64 1,.int .i64 wh,.int .i64 1,.int .i64 vv]) rfl rfl (fun w b3 F3=>?_);refine U10 ?_;intro lt3 hb Z1 n3;refine U75 ?_;refine U155 ?_;refine U23 ?_;refine U335 ?_;refine U76 ?_;intro L4 hb Z1 n3;clear L4;generalize w.drew=w at *;refine U507 ?_;refine U392 ?_;refine U490 ?_;rintro _ w ⟨rfl,P1⟩;refine U88 ?_;intro hb Z1 n3;refine L.nil ⟨rfl,⟨n3,Z1⟩,?_⟩;refine F.va rfl rfl (fun w' C1=>(M1 (i:=Q0 (⟨1,wh,1,vv⟩:O1)) (n:=2) rfl rfl underlying34 sz4 (J0 _))) ?_;refine U501 ?_;refine F.on rfl rfl rfl (fun w' C1=>(A0 rfl underlying3 rfl (C1.1.E0 0 (v:=.int .i64 1) rfl))) ?_;refine F.on rfl rfl rfl (fun w' C1=>(E1 (r:=true) (by decide) (H2 (m:=1) (k:=1) rfl rfl))) ?_;refine F.on rfl rfl rfl (fun w' C1=>(y9 rfl)) ?_;refine U63 ?_;refine U303 ?_;refine L.nil ⟨rfl,⟨n3,Z1⟩,?_⟩;refine U6 ?_;refine U79 ?_;refine L.off rfl ?_;refine L.on rfl ?_;refine L.va (E8 rfl) ?_;refine U126 ?_;exact⟨by rw[pr1 _ s rfl (t:=1) rfl,h];rfl,hb⟩
theorem Rw0 (wh vv:Int) (s:PS) (w0:World) (h:s.held 2 (Q0 (⟨2,wh,1,vv⟩:O1))=true):C prog 40 #[.agg (stA s),.agg #[.int .i64 2,.int .i64 wh,.int .i64 1,.int .i64 vv]] w0 fun v w=>v= .bool (O8 (⟨2,wh,1,vv⟩:O1) s)/\Below w0.heap.size w0 w:=by
 refine U92 ?_;intro hb;refine U94 ?_;intro w b2 F2 lt2 hb Z1;refine L.box (cs:=#[.int .i64 2,.int .i64 wh,.int .i64 1,.int .i64 vv]) rfl rfl (fun w b3 F3=>?_);refine U10 ?_;intro lt3 hb Z1 n3;refine U75 ?_;refine U155 ?_;refine U23 ?_;refine U336 ?_;refine U76 ?_;intro L4 hb Z1 n3;clear L4;generalize w.drew=w at *;refine U508 ?_;refine U393 ?_;refine U491 ?_;rintro _ w ⟨rfl,P1⟩;refine U88 ?_;intro hb Z1 n3;refine L.nil ⟨rfl,⟨n3,Z1⟩,?_⟩;refine F.va rfl rfl (fun w' C1=>(M1 (i:=Q0 (⟨2,wh,1,vv⟩:O1)) (n:=2) rfl rfl underlying34 sz4 (J0 _))) ?_;refine U437 ?_;refine U63 ?_;refine U63 ?_;refine U63 ?_;refine U303 ?_;refine L.nil ⟨rfl,⟨n3,Z1⟩,?_⟩;refine U6 ?_;refine U70 ?_;refine U308 ?_;exact⟨by rw[pr1 _ s rfl (t:=2) rfl,h];rfl,hb⟩
theorem Rx0 (wh vv:Int) (s:PS) (w0:World) (h:s.held 2 (Q0 (⟨2,wh,1,vv⟩:O1))=false):C prog 40 #[.agg (stA s),.agg #[.int .i64 2,.int .i64 wh,.int .i64 1,.int .i64 vv]] w0 fun v w=>v= .bool (O8 (⟨2,wh,1,vv⟩:O1) s)/\Below w0.heap.size w0 w:=by
 refine U92 ?_;intro hb;refine U94 ?_;intro w b2 F2 lt2 hb Z1;refine L.box (cs:=#[.int .i64 2,.int .i64 wh,.int .i64 1,.int .i64 vv]) rfl rfl (fun w b3 F3=>?_);refine U10 ?_;intro lt3 hb Z1 n3;refine U75 ?_;refine U155 ?_;refine U23 ?_;refine U336 ?_;refine U76 ?_;intro L4 hb Z1 n3;clear L4;generalize w.drew=w at *;refine U508 ?_;refine U393 ?_;refine U491 ?_;rintro _ w ⟨rfl,P1⟩;refine U88 ?_;intro hb Z1 n3;refine L.nil ⟨rfl,⟨n3,Z1⟩,?_⟩;refine F.va rfl rfl (fun w' C1=>(M1 (i:=Q0 (⟨2,wh,1,vv⟩:O1)) (n:=2) rfl rfl underlying34 sz4 (J0 _))) ?_;refine U501 ?_;refine F.on rfl rfl rfl (fun w' C1=>(A0 rfl underlying3 rfl (C1.1.E0 0 (v:=.int .i64 2) rfl))) ?_;refine F.on rfl rfl rfl (fun w' C1=>(E1 (r:=false) (by decide) (H2 (m:=2) (k:=1) rfl rfl))) ?_;refine F.on rfl rfl rfl (fun w' C1=>(y9 rfl)) ?_;refine F.on rfl rfl rfl (fun w' C1=>(j1 (cs:=[.int .i64 2,.int .i64 wh,.int .i64 1,.int .i64 vv]) rfl underlying52 rfl w6 rfl (C1.1.J4 rfl))) ?_;refine F.on rfl rfl rfl (fun w' C1=>(G0 rfl underlying40 rfl Vs0 (by decide))) ?_;refine F.doo rfl rfl ?_;refine L.on rfl ?_;refine L.call (C2 rfl func15 rfl E9 rfl) (l5 (⟨2,wh,1,vv⟩:O1) _) ?_;rintro _ w ⟨rfl,P1⟩;refine U88 ?_;intro hb Z1 n3;refine L.nil ⟨rfl,⟨n3,Z1⟩,?_⟩;refine U6 ?_;refine L.on rfl ?_;refine L.va (M1 (i:=Q0 (⟨2,wh,1,vv⟩:O1)) (n:=2) rfl rfl underlying36 z8 (J0 _)) ?_;refine L.on rfl ?_;refine L.va (A0 (v:=.int .i64 (s.u4 (Q0 (⟨2,wh,1,vv⟩:O1)))) rfl underlying3 rfl (xl0 Z1 (J0 _) rfl)) ?_;refine U116 ?_;refine L.on rfl ?_;refine L.va (u7 rfl) ?_;refine U126 ?_;exact⟨by rw[pr1 _ s rfl (t:=2) rfl,h];rfl,hb⟩
theorem gm1 (wh vv:Int) (s:PS) (w0:World) (th:Int):C prog 40 #[.agg (stA s),.agg #[.int .i64 th,.int .i64 wh,.int .i64 3,.int .i64 vv]] w0 fun v w=>v= .bool (O8 (⟨th,wh,3,vv⟩:O1) s)/\Below w0.heap.size w0 w:=by
 refine U92 ?_;intro hb;refine U94 ?_;intro w b2 F2 lt2 hb Z1;refine L.box (cs:=#[.int .i64 th,.int .i64 wh,.int .i64 3,.int .i64 vv]) rfl rfl (fun w b3 F3=>?_);refine U10 ?_;intro lt3 hb Z1 n3;refine U75 ?_;refine L.va (A0 rfl underlying3 rfl (n3.E0 2 (v:=.int .i64 3) rfl)) ?_;refine L.va (E1 (r:=false) (by decide) (H2 (m:=3) (k:=1) rfl rfl)) ?_;refine U48 ?_;refine U42 ?_;refine L.va (A0 rfl underlying3 rfl (n3.E0 2 (v:=.int .i64 3) rfl)) ?_;refine L.va (E1 (r:=false) (by decide) (ax0 (m:=3) (k:=3) rfl rfl)) ?_;refine U44 ?_;refine L.va (j1 (cs:=[.int .i64 th,.int .i64 wh,.int .i64 3,.int .i64 vv]) rfl underlying52 rfl w6 rfl (n3.J4 rfl)) ?_;refine L.on rfl ?_;refine L.call (C2 rfl func15 rfl E9 rfl) (l5 (⟨th,wh,3,vv⟩:O1) _) ?_;rintro _ w ⟨rfl,P1⟩;refine U163 ?_;intro hb Z1;refine L.on rfl ?_;refine L.va (G0 rfl underlying40 rfl Pe0 (by decide)) ?_;refine L.on rfl ?_;refine L.va (M1 (i:=2) (n:=6) rfl rfl underlying35 Pd0 (by decide)) ?_;refine L.on rfl ?_;refine L.va (M1 (i:=Q0 (⟨th,wh,3,vv⟩:O1)) (n:=2) rfl rfl underlying34 sz4 (J0 _)) ?_;refine L.on rfl ?_;refine L.va (A0 (v:=.bool (s.held 2 (Q0 (⟨th,wh,3,vv⟩:O1)))) rfl underlying4 rfl (Cu0 Z1 (by decide) (J0 _) rfl)) ?_;refine U195 ?_;refine U308 ?_;exact⟨by show(Value.bool (!s.held 2 (Q0 (⟨th,wh,3,vv⟩:O1))))= .bool (O8 (⟨th,wh,3,vv⟩:O1) s);rw[pr3 _ s rfl],hb⟩
theorem gn1 (wh vv:Int) (ca:Int) (th:Int) (s:PS) (w0:World) (h1:ca≠1) (h3:ca≠3):C prog 40 #[.agg (stA s),.agg #[.int .i64 th,.int .i64 wh,.int .i64 ca,.int .i64 vv]] w0 fun v w=>v= .bool (O8 (⟨th,wh,ca,vv⟩:O1) s)/\Below w0.heap.size w0 w:=by
 refine U92 ?_;intro hb;refine U333 ?_;intro w b2 F2 lt2 hb;refine L.box (cs:=#[.int .i64 th,.int .i64 wh,.int .i64 ca,.int .i64 vv]) rfl rfl (fun w b3 F3=>?_);refine U82 ?_;intro lt3 hb;have n3:=F3.blk;refine U75 ?_;refine L.va (A0 rfl underlying3 rfl (n3.E0 2 (v:=.int .i64 ca) rfl)) ?_;refine L.va (E1 (r:=false) (decide_eq_false h1) (H2 rfl rfl)) ?_;refine U48 ?_;refine U42 ?_;refine L.va (A0 rfl underlying3 rfl (n3.E0 2 (v:=.int .i64 ca) rfl)) ?_;refine L.va (E1 (r:=true) (decide_eq_true h3) (ax0 rfl rfl)) ?_;refine U199 ?_;refine U79 ?_;refine L.off rfl ?_;refine U126 ?_;exact⟨by show(Value.bool true)= .bool (O8 (⟨th,wh,ca,vv⟩:O1) s);rw[pr0 _ s h1 h3],hb⟩
set_option maxHeartbeats 1000000 in
theorem do_1 (wh vv:Int) (th:Nat) (ht:th<6) (s:PS) (w0:World):C prog 38 #[.agg (stA s),.agg #[.int .i64 (th:Nat),.int .i64 wh,.int .i64 1,.int .i64 vv]] w0 fun v w=>v= .tuple #[.agg (stA (Z5 (⟨(th:Nat),wh,1,vv⟩:O1) s).1),.int .i64 (Z5 (⟨(th:Nat),wh,1,vv⟩:O1) s).2]/\Below w0.heap.size w0 w:=by
 refine U27 ?_;intro hb;obtain⟨s1,hs1⟩:∃s1,s1={s with held:=up2 s.held th (Q0 (⟨(th:Nat),wh,1,vv⟩:O1)) true}:=⟨_,rfl⟩
 refine U33 ?_;intro w b2 F2 lt2 hb Z1;refine L.box (cs:=#[.int .i64 (th:Nat),.int .i64 wh,.int .i64 1,.int .i64 vv]) rfl rfl (fun w b3 F3=>?_);refine U10 ?_;intro lt3 hb Z1 n3;refine U30 ?_;intro w b4 F4 kt0 lt4 hb Z1 n3;have Y3:=F4.blk;refine U7 ?_;refine L.va (j1 (cs:=[.int .i64 (th:Nat),.int .i64 wh,.int .i64 1,.int .i64 vv]) rfl underlying52 rfl w6 rfl (n3.J4 rfl)) ?_;refine L.call (C2 rfl func15 rfl E9 rfl) (l5 (⟨(th:Nat),wh,1,vv⟩:O1) _) ?_;rintro _ w ⟨rfl,P1⟩;refine U32 ?_;intro hb Z1 n3 Y3;refine L.va (A0 rfl underlying3 rfl (n3.E0 2 (v:=.int .i64 1) rfl)) ?_;refine U8 ?_;refine U172 ?_;refine W.region rfl ?_;refine U420 ?_;refine L.va (m3 rfl) ?_;refine U428 ?_;refine L.va (M1 (i:=Q0 (⟨(th:Nat),wh,1,vv⟩:O1)) (n:=2) rfl rfl underlying34 sz4 (J0 _)) ?_;refine L.put (b:=b2) (o:=0+th*2+Q0 (⟨(th:Nat),wh,1,vv⟩:O1)*1) (vs:=[.bool true]) _ rfl rfl rfl sz4 rfl rfl Z1 (by rw[n5];have h9:=J0 (⟨(th:Nat),wh,1,vv⟩:O1);omega) (Ad0 (by omega) (J0 _) true) (fun w Z0 hg I2=>?_);refine U69 ?_;intro Y3 hb Z1;refine U104 ?_;refine U61 ?_;intro w Z0 hg I2 hb;have Y3:=Z0;refine U103 ?_;exact⟨by rw[Ec0 rfl (t:=th) rfl];rw[hs1];rfl,hb⟩
set_option maxHeartbeats 1000000 in
theorem mj1 (wh vv:Int) (th:Nat) (ht:th<6) (s:PS) (w0:World):C prog 38 #[.agg (stA s),.agg #[.int .i64 (th:Nat),.int .i64 wh,.int .i64 2,.int .i64 vv]] w0 fun v w=>v= .tuple #[.agg (stA (Z5 (⟨(th:Nat),wh,2,vv⟩:O1) s).1),.int .i64 (Z5 (⟨(th:Nat),wh,2,vv⟩:O1) s).2]/\Below w0.heap.size w0 w:=by
 refine U27 ?_;intro hb;obtain⟨s1,hs1⟩:∃s1,s1={s with held:=up2 s.held th (Q0 (⟨(th:Nat),wh,2,vv⟩:O1)) false}:=⟨_,rfl⟩
 refine U33 ?_;intro w b2 F2 lt2 hb Z1;refine L.box (cs:=#[.int .i64 (th:Nat),.int .i64 wh,.int .i64 2,.int .i64 vv]) rfl rfl (fun w b3 F3=>?_);refine U10 ?_;intro lt3 hb Z1 n3;refine U30 ?_;intro w b4 F4 kt0 lt4 hb Z1 n3;have Y3:=F4.blk;refine U7 ?_;refine L.va (j1 (cs:=[.int .i64 (th:Nat),.int .i64 wh,.int .i64 2,.int .i64 vv]) rfl underlying52 rfl w6 rfl (n3.J4 rfl)) ?_;refine L.call (C2 rfl func15 rfl E9 rfl) (l5 (⟨(th:Nat),wh,2,vv⟩:O1) _) ?_;rintro _ w ⟨rfl,P1⟩;refine U32 ?_;intro hb Z1 n3 Y3;refine L.va (A0 rfl underlying3 rfl (n3.E0 2 (v:=.int .i64 2) rfl)) ?_;refine U8 ?_;refine U101 ?_;refine W.region rfl ?_;refine U420 ?_;refine L.va (m3 rfl) ?_;refine U428 ?_;refine L.va (M1 (i:=Q0 (⟨(th:Nat),wh,2,vv⟩:O1)) (n:=2) rfl rfl underlying34 sz4 (J0 _)) ?_;refine L.put (b:=b2) (o:=0+th*2+Q0 (⟨(th:Nat),wh,2,vv⟩:O1)*1) (vs:=[.bool false]) _ rfl rfl rfl sz4 rfl rfl Z1 (by rw[n5];have h9:=J0 (⟨(th:Nat),wh,2,vv⟩:O1);omega) (Ad0 (by omega) (J0 _) false) (fun w Z0 hg I2=>?_);refine U69 ?_;intro Y3 hb Z1;refine U104 ?_;refine U61 ?_;intro w Z0 hg I2 hb;have Y3:=Z0;refine U103 ?_;exact⟨by rw[Ed0 rfl (t:=th) rfl];rw[hs1];rfl,hb⟩
set_option maxHeartbeats 1000000 in
theorem mk1 (wh vv:Int) (th:Nat) (_ht:th<6) (s:PS) (hrd:0 <=s.u4 (Q0 (⟨(th:Nat),wh,3,vv⟩:O1))/\s.u4 (Q0 (⟨(th:Nat),wh,3,vv⟩:O1)) <=1000000) (w0:World):C prog 38 #[.agg (stA s),.agg #[.int .i64 (th:Nat),.int .i64 wh,.int .i64 3,.int .i64 vv]] w0 fun v w=>v= .tuple #[.agg (stA (Z5 (⟨(th:Nat),wh,3,vv⟩:O1) s).1),.int .i64 (Z5 (⟨(th:Nat),wh,3,vv⟩:O1) s).2]/\Below w0.heap.size w0 w:=by
 refine U27 ?_;intro hb;obtain⟨s1,hs1⟩:∃s1,s1={s with u4:=D7 s.u4 (Q0 (⟨(th:Nat),wh,3,vv⟩:O1)) (s.u4 (Q0 (⟨(th:Nat),wh,3,vv⟩:O1))+1)}:=⟨_,rfl⟩
 refine U33 ?_;intro w b2 F2 lt2 hb Z1;refine L.box (cs:=#[.int .i64 (th:Nat),.int .i64 wh,.int .i64 3,.int .i64 vv]) rfl rfl (fun w b3 F3=>?_);refine U10 ?_;intro lt3 hb Z1 n3;refine U30 ?_;intro w b4 F4 kt0 lt4 hb Z1 n3;have Y3:=F4.blk;refine U7 ?_;refine L.va (j1 (cs:=[.int .i64 (th:Nat),.int .i64 wh,.int .i64 3,.int .i64 vv]) rfl underlying52 rfl w6 rfl (n3.J4 rfl)) ?_;refine L.call (C2 rfl func15 rfl E9 rfl) (l5 (⟨(th:Nat),wh,3,vv⟩:O1) _) ?_;rintro _ w ⟨rfl,P1⟩;refine U32 ?_;intro hb Z1 n3 Y3;refine L.va (A0 rfl underlying3 rfl (n3.E0 2 (v:=.int .i64 3) rfl)) ?_;refine U8 ?_;refine U170 ?_;refine U171 ?_;refine U173 ?_;refine W.region rfl ?_;refine L.va (m3 rfl) ?_;refine U404 ?_;refine L.va (A0 (v:=.int .i64 (s.u4 (Q0 (⟨(th:Nat),wh,3,vv⟩:O1)))) rfl underlying3 rfl (xl0 Z1 (J0 _) rfl)) ?_;refine L.va (ey0 rfl rfl (by omega)) ?_;refine U404 ?_;refine L.put (b:=b2) (o:=12+Q0 (⟨(th:Nat),wh,3,vv⟩:O1)*1) (vs:=[.int .i64 (s.u4 (Q0 (⟨(th:Nat),wh,3,vv⟩:O1))+1)]) _ rfl rfl rfl z8 rfl rfl Z1 (by rw[n5];have h9:=J0 (⟨(th:Nat),wh,3,vv⟩:O1);omega) (Ae0 (J0 _) (s.u4 (Q0 (⟨(th:Nat),wh,3,vv⟩:O1))+1)) (fun w Z0 hg I2=>?_);refine U69 ?_;intro Y3 hb Z1;refine U104 ?_;refine U61 ?_;intro w Z0 hg I2 hb;have Y3:=Z0;refine U103 ?_;exact⟨by rw[Lo0 rfl (t:=th) rfl];rw[hs1,ml0 (by omega)];rfl,hb⟩
set_option maxHeartbeats 1000000 in
theorem go1 (wh vv:Int) (th:Nat) (_ht:th<6) (s:PS) (hrd:0<s.u4 (Q0 (⟨(th:Nat),wh,4,vv⟩:O1))/\s.u4 (Q0 (⟨(th:Nat),wh,4,vv⟩:O1)) <=1000000) (w0:World):C prog 38 #[.agg (stA s),.agg #[.int .i64 (th:Nat),.int .i64 wh,.int .i64 4,.int .i64 vv]] w0 fun v w=>v= .tuple #[.agg (stA (Z5 (⟨(th:Nat),wh,4,vv⟩:O1) s).1),.int .i64 (Z5 (⟨(th:Nat),wh,4,vv⟩:O1) s).2]/\Below w0.heap.size w0 w:=by
 refine U27 ?_;intro hb;obtain⟨s1,hs1⟩:∃s1,s1={s with u4:=D7 s.u4 (Q0 (⟨(th:Nat),wh,4,vv⟩:O1)) (s.u4 (Q0 (⟨(th:Nat),wh,4,vv⟩:O1))-1)}:=⟨_,rfl⟩
 refine U33 ?_;intro w b2 F2 lt2 hb Z1;refine L.box (cs:=#[.int .i64 (th:Nat),.int .i64 wh,.int .i64 4,.int .i64 vv]) rfl rfl (fun w b3 F3=>?_);refine U10 ?_;intro lt3 hb Z1 n3;refine U30 ?_;intro w b4 F4 kt0 lt4 hb Z1 n3;have Y3:=F4.blk;refine U7 ?_;refine U362 ?_;rintro _ w ⟨rfl,P1⟩;refine U32 ?_;intro hb Z1 n3 Y3;refine U529 ?_;refine U139 ?_;refine U89 ?_;refine U423 ?_;refine L.va (E1 (r:=true) (decide_eq_true (by omega)) (na0 rfl rfl)) ?_;refine U50 ?_;refine L.va (m3 rfl) ?_;refine U423 ?_;refine L.va (Av0 rfl rfl (by omega)) ?_;refine U236 ?_;refine L.put (b:=b2) (o:=12+Q0 (⟨(th:Nat),wh,4,vv⟩:O1)*1) (vs:=[.int .i64 (s.u4 (Q0 (⟨(th:Nat),wh,4,vv⟩:O1))-1)]) _ rfl rfl rfl z8 rfl rfl Z1 (by rw[n5];have h9:=J0 (⟨(th:Nat),wh,4,vv⟩:O1);omega) (Ae0 (J0 _) (s.u4 (Q0 (⟨(th:Nat),wh,4,vv⟩:O1))-1)) (fun w Z0 hg I2=>?_);refine U69 ?_;intro Y3 hb Z1;refine U104 ?_;refine U61 ?_;intro w Z0 hg I2 hb;have Y3:=Z0;refine U103 ?_;exact⟨by rw[Ee0 rfl (t:=th) rfl];rw[hs1,ml0 (by omega),show max 0 (s.u4 (Q0 (⟨(th:Nat),wh,4,vv⟩:O1))-1)=s.u4 (Q0 (⟨(th:Nat),wh,4,vv⟩:O1))-1 by omega];rfl,hb⟩
set_option maxHeartbeats 1000000 in
theorem gp1 (wh vv:Int) (th:Nat) (_ht:th<6) (s:PS) (hr0:s.u4 (Q0 (⟨(th:Nat),wh,4,vv⟩:O1))=0) (w0:World):C prog 38 #[.agg (stA s),.agg #[.int .i64 (th:Nat),.int .i64 wh,.int .i64 4,.int .i64 vv]] w0 fun v w=>v= .tuple #[.agg (stA (Z5 (⟨(th:Nat),wh,4,vv⟩:O1) s).1),.int .i64 (Z5 (⟨(th:Nat),wh,4,vv⟩:O1) s).2]/\Below w0.heap.size w0 w:=by
 refine U27 ?_;intro hb;obtain⟨s1,hs1⟩:∃s1,s1=s:=⟨_,rfl⟩
 refine U33 ?_;intro w b2 F2 lt2 hb Z1;refine L.box (cs:=#[.int .i64 (th:Nat),.int .i64 wh,.int .i64 4,.int .i64 vv]) rfl rfl (fun w b3 F3=>?_);refine U10 ?_;intro lt3 hb Z1 n3;refine U30 ?_;intro w b4 F4 kt0 lt4 hb Z1 n3;have Y3:=F4.blk;refine U7 ?_;refine U362 ?_;rintro _ w ⟨rfl,P1⟩;refine U32 ?_;intro hb Z1 n3 Y3;refine U529 ?_;refine U139 ?_;refine U89 ?_;refine U236 ?_;refine L.va (A0 (v:=.int .i64 0) rfl underlying3 rfl (xl0 Z1 (J0 _) hr0)) ?_;refine L.va (E1 (r:=false) (by decide) (na0 (m:=0) (k:=0) rfl rfl)) ?_;refine U113 ?_;refine W.skip ?_;refine U284 ?_;refine L.va (bg0 (s:=s) rfl Z1) ?_;refine U289 ?_;intro w Z0 hg I2 hb;have Y3:=Z0;refine U451 ?_;refine U259 ?_;exact⟨by rw[Ee0 rfl (t:=th) rfl];rw[Rs0 hr0];rfl,hb⟩
set_option maxHeartbeats 1000000 in
theorem ml1 (wh vv:Int) (th:Nat) (ht:th<6) (s:PS) (w0:World):C prog 38 #[.agg (stA s),.agg #[.int .i64 (th:Nat),.int .i64 wh,.int .i64 6,.int .i64 vv]] w0 fun v w=>v= .tuple #[.agg (stA (Z5 (⟨(th:Nat),wh,6,vv⟩:O1) s).1),.int .i64 (Z5 (⟨(th:Nat),wh,6,vv⟩:O1) s).2]/\Below w0.heap.size w0 w:=by
 refine U27 ?_;intro hb;obtain⟨s1,hs1⟩:∃s1,s1={s with val:=up2 s.val th (Q0 (⟨(th:Nat),wh,6,vv⟩:O1)) vv}:=⟨_,rfl⟩
 refine U33 ?_;intro w b2 F2 lt2 hb Z1;refine L.box (cs:=#[.int .i64 (th:Nat),.int .i64 wh,.int .i64 6,.int .i64 vv]) rfl rfl (fun w b3 F3=>?_);refine U10 ?_;intro lt3 hb Z1 n3;refine U30 ?_;intro w b4 F4 kt0 lt4 hb Z1 n3;have Y3:=F4.blk;refine U7 ?_;refine L.va (j1 (cs:=[.int .i64 (th:Nat),.int .i64 wh,.int .i64 6,.int .i64 vv]) rfl underlying52 rfl w6 rfl (n3.J4 rfl)) ?_;refine L.call (C2 rfl func15 rfl E9 rfl) (l5 (⟨(th:Nat),wh,6,vv⟩:O1) _) ?_;rintro _ w ⟨rfl,P1⟩;refine U32 ?_;intro hb Z1 n3 Y3;refine L.va (A0 rfl underlying3 rfl (n3.E0 2 (v:=.int .i64 6) rfl)) ?_;refine U8 ?_;refine L.va (E1 (r:=false) (by decide) (H2 (m:=6) (k:=1) rfl rfl)) ?_;refine U4 ?_;refine L.va (E1 (r:=false) (by decide) (H2 (m:=6) (k:=2) rfl rfl)) ?_;refine U4 ?_;refine L.va (E1 (r:=false) (by decide) (H2 (m:=6) (k:=3) rfl rfl)) ?_;refine U4 ?_;refine L.va (E1 (r:=false) (by decide) (H2 (m:=6) (k:=4) rfl rfl)) ?_;refine U74 ?_;refine L.va (E1 (r:=true) (by decide) (H2 (m:=6) (k:=6) rfl rfl)) ?_;refine U34 ?_;refine U57 ?_;refine W.Q4 rfl ?_;refine U410 ?_;refine D.va (fun w' C1=>(m3 rfl)) ?_;refine U246 ?_;refine U237 ?_;refine D.va (fun w' C1=>(M1 (i:=Q0 (⟨(th:Nat),wh,6,vv⟩:O1)) (n:=2) rfl rfl underlying37 sz2 (J0 _))) ?_;refine D.nil (fun w P1=>?_);refine U163 ?_;intro hb Z1;have Y3:=Y3.j0 P1;clear P1;refine L.put (b:=b2) (o:=14+th*2+Q0 (⟨(th:Nat),wh,6,vv⟩:O1)*1) (vs:=[.int .i64 vv]) _ rfl rfl rfl sz2 rfl rfl Z1 (by rw[n5];have h9:=J0 (⟨(th:Nat),wh,6,vv⟩:O1);omega) (xk0 (by omega) (J0 _) vv) (fun w Z0 hg I2=>?_);refine U69 ?_;intro Y3 hb Z1;refine U104 ?_;refine U61 ?_;intro w Z0 hg I2 hb;have Y3:=Z0;refine U103 ?_;exact⟨by rw[fy0 (.inl rfl) (t:=th) rfl];rw[hs1];rfl,hb⟩
set_option maxHeartbeats 1000000 in
theorem mm1 (wh vv:Int) (th:Nat) (ht:th<6) (s:PS) (w0:World):C prog 38 #[.agg (stA s),.agg #[.int .i64 (th:Nat),.int .i64 wh,.int .i64 9,.int .i64 vv]] w0 fun v w=>v= .tuple #[.agg (stA (Z5 (⟨(th:Nat),wh,9,vv⟩:O1) s).1),.int .i64 (Z5 (⟨(th:Nat),wh,9,vv⟩:O1) s).2]/\Below w0.heap.size w0 w:=by
 refine U27 ?_;intro hb;obtain⟨s1,hs1⟩:∃s1,s1={s with val:=up2 s.val th (Q0 (⟨(th:Nat),wh,9,vv⟩:O1)) vv}:=⟨_,rfl⟩
 refine U33 ?_;intro w b2 F2 lt2 hb Z1;refine L.box (cs:=#[.int .i64 (th:Nat),.int .i64 wh,.int .i64 9,.int .i64 vv]) rfl rfl (fun w b3 F3=>?_);refine U10 ?_;intro lt3 hb Z1 n3;refine U30 ?_;intro w b4 F4 kt0 lt4 hb Z1 n3;have Y3:=F4.blk;refine U7 ?_;refine L.va (j1 (cs:=[.int .i64 (th:Nat),.int .i64 wh,.int .i64 9,.int .i64 vv]) rfl underlying52 rfl w6 rfl (n3.J4 rfl)) ?_;refine L.call (C2 rfl func15 rfl E9 rfl) (l5 (⟨(th:Nat),wh,9,vv⟩:O1) _) ?_;rintro _ w ⟨rfl,P1⟩;refine U32 ?_;intro hb Z1 n3 Y3;refine L.va (A0 rfl underlying3 rfl (n3.E0 2 (v:=.int .i64 9) rfl)) ?_;refine U8 ?_;refine L.va (E1 (r:=false) (by decide) (H2 (m:=9) (k:=1) rfl rfl)) ?_;refine U4 ?_;refine L.va (E1 (r:=false) (by decide) (H2 (m:=9) (k:=2) rfl rfl)) ?_;refine U4 ?_;refine L.va (E1 (r:=false) (by decide) (H2 (m:=9) (k:=3) rfl rfl)) ?_;refine U4 ?_;refine L.va (E1 (r:=false) (by decide) (H2 (m:=9) (k:=4) rfl rfl)) ?_;refine U74 ?_;refine L.va (E1 (r:=false) (by decide) (H2 (m:=9) (k:=6) rfl rfl)) ?_;refine U68 ?_;refine L.va (E1 (r:=true) (by decide) (H2 (m:=9) (k:=9) rfl rfl)) ?_;refine U34 ?_;refine U410 ?_;refine D.va (fun w' C1=>(m3 rfl)) ?_;refine U246 ?_;refine U237 ?_;refine D.va (fun w' C1=>(M1 (i:=Q0 (⟨(th:Nat),wh,9,vv⟩:O1)) (n:=2) rfl rfl underlying37 sz2 (J0 _))) ?_;refine D.nil (fun w P1=>?_);refine U163 ?_;intro hb Z1;have Y3:=Y3.j0 P1;clear P1;refine L.put (b:=b2) (o:=14+th*2+Q0 (⟨(th:Nat),wh,9,vv⟩:O1)*1) (vs:=[.int .i64 vv]) _ rfl rfl rfl sz2 rfl rfl Z1 (by rw[n5];have h9:=J0 (⟨(th:Nat),wh,9,vv⟩:O1);omega) (xk0 (by omega) (J0 _) vv) (fun w Z0 hg I2=>?_);refine U69 ?_;intro Y3 hb Z1;refine U104 ?_;refine U61 ?_;intro w Z0 hg I2 hb;have Y3:=Z0;refine U103 ?_;exact⟨by rw[fy0 (.inr rfl) (t:=th) rfl];rw[hs1];rfl,hb⟩
set_option maxHeartbeats 1000000 in
theorem mn1 (wh vv:Int) (th:Nat) (ht:th<6) (s:PS) (w0:World):C prog 38 #[.agg (stA s),.agg #[.int .i64 (th:Nat),.int .i64 wh,.int .i64 7,.int .i64 vv]] w0 fun v w=>v= .tuple #[.agg (stA (Z5 (⟨(th:Nat),wh,7,vv⟩:O1) s).1),.int .i64 (Z5 (⟨(th:Nat),wh,7,vv⟩:O1) s).2]/\Below w0.heap.size w0 w:=by
 refine U27 ?_;intro hb;obtain⟨s1,hs1⟩:∃s1,s1={s with val:=up2 s.val th (Q0 (⟨(th:Nat),wh,7,vv⟩:O1)) (IntKind.i64.wrap ((s.val th (Q0 (⟨(th:Nat),wh,7,vv⟩:O1)))+vv))}:=⟨_,rfl⟩
 refine U33 ?_;intro w b2 F2 lt2 hb Z1;refine L.box (cs:=#[.int .i64 (th:Nat),.int .i64 wh,.int .i64 7,.int .i64 vv]) rfl rfl (fun w b3 F3=>?_);refine U10 ?_;intro lt3 hb Z1 n3;refine U30 ?_;intro w b4 F4 kt0 lt4 hb Z1 n3;have Y3:=F4.blk;refine U7 ?_;refine L.va (j1 (cs:=[.int .i64 (th:Nat),.int .i64 wh,.int .i64 7,.int .i64 vv]) rfl underlying52 rfl w6 rfl (n3.J4 rfl)) ?_;refine L.call (C2 rfl func15 rfl E9 rfl) (l5 (⟨(th:Nat),wh,7,vv⟩:O1) _) ?_;rintro _ w ⟨rfl,P1⟩;refine U32 ?_;intro hb Z1 n3 Y3;refine L.va (A0 rfl underlying3 rfl (n3.E0 2 (v:=.int .i64 7) rfl)) ?_;refine U8 ?_;refine L.va (E1 (r:=false) (by decide) (H2 (m:=7) (k:=1) rfl rfl)) ?_;refine U4 ?_;refine L.va (E1 (r:=false) (by decide) (H2 (m:=7) (k:=2) rfl rfl)) ?_;refine U4 ?_;refine L.va (E1 (r:=false) (by decide) (H2 (m:=7) (k:=3) rfl rfl)) ?_;refine U4 ?_;refine L.va (E1 (r:=false) (by decide) (H2 (m:=7) (k:=4) rfl rfl)) ?_;refine U74 ?_;refine L.va (E1 (r:=false) (by decide) (H2 (m:=7) (k:=6) rfl rfl)) ?_;refine U68 ?_;refine L.va (E1 (r:=false) (by decide) (H2 (m:=7) (k:=9) rfl rfl)) ?_;refine U4 ?_;refine L.va (E1 (r:=true) (by decide) (H2 (m:=7) (k:=7) rfl rfl)) ?_;refine U34 ?_;refine W.seq ?_;refine W.ej0 16 (fun w'=>Below w.heap.size w w') (by kernel_rfl) (by kernel_rfl) (by kernel_rfl) (by kernel_rfl) ((Below.refl w.heap.size w).drew) ?_;refine U234 ?_;refine D.va (fun w' C1=>(m3 rfl)) ?_;refine U234 ?_;refine D.va (fun w' C1=>(m3 rfl)) ?_;refine U436 ?_;refine D.va (fun w' C1=>(A0 (v:=.int .i64 ((s.val th (Q0 (⟨(th:Nat),wh,7,vv⟩:O1))))) rfl underlying2 rfl (xm0 (Z1.j0 C1) (by omega) (J0 _) rfl))) ?_;refine U246 ?_;refine D.va (fun w' C1=>(il0 (κ:=.i64) rfl rfl)) ?_;refine U436 ?_;refine D.nil (fun w P1=>?_);refine U411 ?_;intro hb Z1 n3 Y3;clear P1;refine L.put (b:=b2) (o:=14+th*2+Q0 (⟨(th:Nat),wh,7,vv⟩:O1)*1) (vs:=[.int .i64 (IntKind.i64.wrap ((s.val th (Q0 (⟨(th:Nat),wh,7,vv⟩:O1)))+vv))]) _ rfl rfl rfl sz2 rfl rfl Z1 (by rw[n5];have h9:=J0 (⟨(th:Nat),wh,7,vv⟩:O1);omega) (xk0 (by omega) (J0 _) (IntKind.i64.wrap ((s.val th (Q0 (⟨(th:Nat),wh,7,vv⟩:O1)))+vv))) (fun w Z0 hg I2=>?_);have n3:=O0.other n3 hg (O0.ne n3 Z1 (by decide));refine U69 ?_;intro Y3 hb Z1;clear Z0 hg I2;refine U65 ?_;refine W.fl 9 [8] [0,1,2,3,4,5,6,7,8] (fun w'=>O0 w' b2 (stA s1) 40/\O0 w' b3 #[.int .i64 (th:Nat),.int .i64 wh,.int .i64 7,.int .i64 vv] 52) (by kernel_rfl) (by kernel_rfl) (by kernel_rfl) (by kernel_rfl) (by kernel_rfl) (⟨Z1.j0 (Below.refl w.heap.size w).drew,n3.j0 (Below.refl w.heap.size w).drew⟩) ?_;refine U76 ?_;intro L4 hb Z1 n3;have Y3:=Y3.j0 L4;clear L4;generalize w.drew=w at *;refine F.va rfl rfl (fun w' C1=>(bg0 (s:=s1) rfl C1.1)) ?_;refine U480 ?_;refine U245 ?_;refine F.va rfl rfl (fun w' C1=>(M1 (i:=Q0 (⟨(th:Nat),wh,7,vv⟩:O1)) (n:=2) rfl rfl underlying37 sz2 (J0 _))) ?_;refine F.va rfl rfl (fun w' C1=>(A0 (v:=.int .i64 (IntKind.i64.wrap ((s.val th (Q0 (⟨(th:Nat),wh,7,vv⟩:O1)))+vv))) rfl underlying2 rfl (xm0 C1.1 (by omega) (J0 _) (by rw[hs1];exact fi0)))) ?_;refine F.doo rfl rfl ?_;refine U61 ?_;intro w Z0 hg I2 hb;refine U290 ?_;intro Z1 n3;have Y3:=Z0;clear Z0 hg I2;refine L.nil ⟨rfl,⟨Z1,n3⟩,?_⟩;refine U6 ?_;refine U9 ?_;refine U475 ?_;exact⟨by rw[xb0 rfl (t:=th) rfl];rw[hs1];rfl,hb⟩
set_option maxHeartbeats 1000000 in
theorem gq1 (wh vv:Int) (th:Nat) (ht:th<6) (s:PS) (w0:World):C prog 38 #[.agg (stA s),.agg #[.int .i64 (th:Nat),.int .i64 wh,.int .i64 5,.int .i64 vv]] w0 fun v w=>v= .tuple #[.agg (stA (Z5 (⟨(th:Nat),wh,5,vv⟩:O1) s).1),.int .i64 (Z5 (⟨(th:Nat),wh,5,vv⟩:O1) s).2]/\Below w0.heap.size w0 w:=by
 refine U27 ?_;intro hb;obtain⟨s1,hs1⟩:∃s1,s1=s:=⟨_,rfl⟩
 refine U33 ?_;intro w b2 F2 lt2 hb Z1;refine L.box (cs:=#[.int .i64 (th:Nat),.int .i64 wh,.int .i64 5,.int .i64 vv]) rfl rfl (fun w b3 F3=>?_);refine U10 ?_;intro lt3 hb Z1 n3;refine U30 ?_;intro w b4 F4 kt0 lt4 hb Z1 n3;have Y3:=F4.blk;refine U7 ?_;refine L.va (j1 (cs:=[.int .i64 (th:Nat),.int .i64 wh,.int .i64 5,.int .i64 vv]) rfl underlying52 rfl w6 rfl (n3.J4 rfl)) ?_;refine L.call (C2 rfl func15 rfl E9 rfl) (l5 (⟨(th:Nat),wh,5,vv⟩:O1) _) ?_;rintro _ w ⟨rfl,P1⟩;refine U32 ?_;intro hb Z1 n3 Y3;refine L.va (A0 rfl underlying3 rfl (n3.E0 2 (v:=.int .i64 5) rfl)) ?_;refine U405 ?_;refine U271 ?_;refine U4 ?_;refine U272 ?_;refine U74 ?_;refine L.va (E1 (r:=false) (by decide) (H2 (m:=5) (k:=6) rfl rfl)) ?_;refine U68 ?_;refine L.va (E1 (r:=false) (by decide) (H2 (m:=5) (k:=9) rfl rfl)) ?_;refine U4 ?_;refine L.va (E1 (r:=false) (by decide) (H2 (m:=5) (k:=7) rfl rfl)) ?_;refine U74 ?_;refine U274 ?_;refine U57 ?_;refine W.Q4 rfl ?_;refine W.seq ?_;refine W.fl 9 [8] [0,1,2,3,4,5,6,7,8] (fun w'=>O0 w' b2 (stA s) 40/\O0 w' b3 #[.int .i64 (th:Nat),.int .i64 wh,.int .i64 5,.int .i64 vv] 52) (by kernel_rfl) (by kernel_rfl) (by kernel_rfl) (by kernel_rfl) (by kernel_rfl) (⟨Z1.j0 (Below.refl w.heap.size w).drew,n3.j0 (Below.refl w.heap.size w).drew⟩) ?_;refine U76 ?_;intro L4 hb Z1 n3;have Y3:=Y3.j0 L4;clear L4;generalize w.drew=w at *;refine U566 ?_;refine U245 ?_;refine F.va rfl rfl (fun w' C1=>(M1 (i:=Q0 (⟨(th:Nat),wh,5,vv⟩:O1)) (n:=2) rfl rfl underlying37 sz2 (J0 _))) ?_;refine F.va rfl rfl (fun w' C1=>(A0 (v:=.int .i64 ((s.val th (Q0 (⟨(th:Nat),wh,5,vv⟩:O1))))) rfl underlying2 rfl (xm0 C1.1 (by omega) (J0 _) rfl))) ?_;refine F.doo rfl rfl ?_;refine U289 ?_;intro w Z0 hg I2 hb;refine U290 ?_;intro Z1 n3;have Y3:=Z0;clear Z0 hg I2;refine L.nil ⟨rfl,⟨Z1,n3⟩,?_⟩;refine U6 ?_;refine U9 ?_;refine U259 ?_;exact⟨by rw[bw0 (.inl rfl) (t:=th) rfl];rfl,hb⟩
set_option maxHeartbeats 1000000 in
theorem gr1 (wh vv:Int) (th:Nat) (ht:th<6) (s:PS) (w0:World):C prog 38 #[.agg (stA s),.agg #[.int .i64 (th:Nat),.int .i64 wh,.int .i64 8,.int .i64 vv]] w0 fun v w=>v= .tuple #[.agg (stA (Z5 (⟨(th:Nat),wh,8,vv⟩:O1) s).1),.int .i64 (Z5 (⟨(th:Nat),wh,8,vv⟩:O1) s).2]/\Below w0.heap.size w0 w:=by
 refine U27 ?_;intro hb;obtain⟨s1,hs1⟩:∃s1,s1=s:=⟨_,rfl⟩
 refine U33 ?_;intro w b2 F2 lt2 hb Z1;refine L.box (cs:=#[.int .i64 (th:Nat),.int .i64 wh,.int .i64 8,.int .i64 vv]) rfl rfl (fun w b3 F3=>?_);refine U10 ?_;intro lt3 hb Z1 n3;refine U30 ?_;intro w b4 F4 kt0 lt4 hb Z1 n3;have Y3:=F4.blk;refine U7 ?_;refine L.va (j1 (cs:=[.int .i64 (th:Nat),.int .i64 wh,.int .i64 8,.int .i64 vv]) rfl underlying52 rfl w6 rfl (n3.J4 rfl)) ?_;refine L.call (C2 rfl func15 rfl E9 rfl) (l5 (⟨(th:Nat),wh,8,vv⟩:O1) _) ?_;rintro _ w ⟨rfl,P1⟩;refine U32 ?_;intro hb Z1 n3 Y3;refine L.va (A0 rfl underlying3 rfl (n3.E0 2 (v:=.int .i64 8) rfl)) ?_;refine U8 ?_;refine L.va (E1 (r:=false) (by decide) (H2 (m:=8) (k:=1) rfl rfl)) ?_;refine U4 ?_;refine L.va (E1 (r:=false) (by decide) (H2 (m:=8) (k:=2) rfl rfl)) ?_;refine U4 ?_;refine L.va (E1 (r:=false) (by decide) (H2 (m:=8) (k:=3) rfl rfl)) ?_;refine U4 ?_;refine L.va (E1 (r:=false) (by decide) (H2 (m:=8) (k:=4) rfl rfl)) ?_;refine U74 ?_;refine L.va (E1 (r:=false) (by decide) (H2 (m:=8) (k:=6) rfl rfl)) ?_;refine U68 ?_;refine L.va (E1 (r:=false) (by decide) (H2 (m:=8) (k:=9) rfl rfl)) ?_;refine U4 ?_;refine L.va (E1 (r:=false) (by decide) (H2 (m:=8) (k:=7) rfl rfl)) ?_;refine U74 ?_;refine L.va (E1 (r:=false) (by decide) (H2 (m:=8) (k:=5) rfl rfl)) ?_;refine U68 ?_;refine L.va (E1 (r:=true) (by decide) (H2 (m:=8) (k:=8) rfl rfl)) ?_;refine U34 ?_;refine W.seq ?_;refine W.fl 9 [8] [0,1,2,3,4,5,6,7,8] (fun w'=>O0 w' b2 (stA s) 40/\O0 w' b3 #[.int .i64 (th:Nat),.int .i64 wh,.int .i64 8,.int .i64 vv] 52) (by kernel_rfl) (by kernel_rfl) (by kernel_rfl) (by kernel_rfl) (by kernel_rfl) (⟨Z1.j0 (Below.refl w.heap.size w).drew,n3.j0 (Below.refl w.heap.size w).drew⟩) ?_;refine U76 ?_;intro L4 hb Z1 n3;have Y3:=Y3.j0 L4;clear L4;generalize w.drew=w at *;refine U566 ?_;refine U245 ?_;refine F.va rfl rfl (fun w' C1=>(M1 (i:=Q0 (⟨(th:Nat),wh,8,vv⟩:O1)) (n:=2) rfl rfl underlying37 sz2 (J0 _))) ?_;refine F.va rfl rfl (fun w' C1=>(A0 (v:=.int .i64 ((s.val th (Q0 (⟨(th:Nat),wh,8,vv⟩:O1))))) rfl underlying2 rfl (xm0 C1.1 (by omega) (J0 _) rfl))) ?_;refine F.doo rfl rfl ?_;refine U289 ?_;intro w Z0 hg I2 hb;refine U290 ?_;intro Z1 n3;have Y3:=Z0;clear Z0 hg I2;refine L.nil ⟨rfl,⟨Z1,n3⟩,?_⟩;refine U6 ?_;refine U9 ?_;refine U259 ?_;exact⟨by rw[bw0 (.inr rfl) (t:=th) rfl];rfl,hb⟩
structure fq0 (w:World) (a:Option Addr) (l:List Int):Prop where
 sl:SL a l.length
 cell:∀(k:Nat) (x:Int),l[k]? =some x->w.cell? ⟨ab a,ao a+k*1,none⟩=some (.int .i64 x)
omit [Ctx prog] in
theorem fq0.j0 {w w':World} {a:Option Addr} {l:List Int} (h:fq0 w a l) (hb:Below w.heap.size w w'):fq0 w' a l:=⟨h.sl,fun k x hk=>C5 (h.cell k x hk) hb⟩
omit [Ctx prog] in
theorem fq0.own {w:World} {B c:Nat} {a:Option Addr} {l:List Int} (h:Own w B 2 1 a l.length c (jj0 l)):fq0 w a l :=
 ⟨h.sl,fun k x hk=>by rw[h.off,Nat.zero_add,Nat.mul_one];exact h.cell (by rw[List.getElem?_map,hk];rfl)⟩
theorem Gh0 (a1 a2:Option Addr) (c1 c2:Nat) (l:List Int) (hl:l.length <=1000000) (w0:World) (hA:fq0 w0 a1 l) (hA2:fq0 w0 a2 l):C prog 14 #[.slice a1 l.length c1,.slice a2 l.length c2] w0 fun v w=>v= .bool true/\Below w0.heap.size w0 w:=by
 refine C.enter (n:=26) func14 rfl rfl ?_;refine U3 ?_;intro hb;refine U11 ?_;refine U14 ?_;refine U285 ?_;refine U285 ?_;refine L.va (ax0 rfl rfl) ?_;refine U5 ?_;refine W.r6 (rb (decide_eq_false (fun z=>z rfl))) ?_;refine U57 ?_;refine U54 ?_;refine W.loop (fun k e w=>∃(j:Nat),k=l.length-j/\e 0= .slice a1 l.length c1/\e 1= .slice a2 l.length c2/\e 5= .int .i64 (j:Nat)/\j <=l.length/\fq0 w a1 l/\fq0 w a2 l/\Below w0.heap.size w0 w) _ ⟨0,rfl,rfl,rfl,rfl,Nat.zero_le _,hA,hA2,hb⟩ ?_;rintro k e w ⟨j,hk,s0,s1,s5,hj,hA,hA2,hb⟩;rw[V0 s0,V0 s1,V0 s5];clear s0 s1 s5;refine U15 ?_;refine U285 ?_;refine U25 ?_;refine W.Q8 rfl (fun h14=>?_) (fun h14=>?_)
 ·obtain⟨x,hx⟩:∃x,l[j]? =some x:=⟨_,List.getElem?_eq_getElem (by omega)⟩
  refine U134 ?_;refine U26 ?_;refine D.va (fun w' C1=>(S3 (i:=j) rfl rfl underlying45 sz2 hA.sl (by omega))) ?_;refine D.va (fun w' C1=>(A0 (v:=.int .i64 x) rfl underlying2 rfl ((hA.j0 C1).cell j x hx))) ?_;refine U26 ?_;refine D.va (fun w' C1=>(S3 (i:=j) rfl rfl underlying45 sz2 hA2.sl (by omega))) ?_;refine D.va (fun w' C1=>(A0 (v:=.int .i64 x) rfl underlying2 rfl ((hA2.j0 C1).cell j x hx))) ?_;refine D.va (fun w' C1=>(E1 (r:=false) (decide_eq_false (fun z=>z rfl)) (ax0 rfl rfl))) ?_;refine U130 ?_;intro w P1 hb;have hA:=hA.j0 P1;have hA2:=hA2.j0 P1;refine U138 ?_;refine U29 ?_;exact⟨_,by omega,⟨j+1,rfl,rfl,rfl,rfl,(by omega),hA,hA2,hb⟩⟩
 ·refine W.exit ?_;refine U72 ?_;exact U96
end
theorem Cv0:∀(vs old pre post:List Value),vs.length=old.length->setRow (pre++(old++post)).toArray pre.length vs=(pre++(vs++post)).toArray:=by
 intro vs
 induction vs with
 |nil=>intro old pre post h;have:old=[]:=List.length_eq_zero_iff.1 h.symm;subst this;rfl
 |cons v vs ih=>
  intro old pre post h;cases old with
  |nil=>cases h
  |cons o old=>
   have h:vs.length=old.length:=by simpa using h
   show setRow ((pre++(o::old++post)).toArray.setIfInBounds pre.length v) (pre.length+1) vs=_;have e1:(pre++(o::old++post)).toArray.setIfInBounds pre.length v=((pre ++ [v])++(old++post)).toArray:=by
    apply Array.toList_inj.1;simp
   rw[e1,show pre.length+1=(pre ++ [v]).length by simp,ih old (pre ++ [v]) post h];simp
theorem jp0 {α:Type} {f:α->List Value} {k:Nat} (hf:∀x,(f x).length=k):∀l:List α,(l.flatMap f).length=l.length*k
 | []=>by simp
 |x::l=>by rw[List.flatMap_cons,List.length_append,hf,jp0 hf l,List.length_cons,Nat.succ_mul];omega
theorem Gi0 {α:Type} (f:α->List Value) (k:Nat) (hf:∀x,(f x).length=k) {l:List α} {i:Nat} (x:α) (hi:i<l.length):setRow (l.flatMap f).toArray (0+i*k) (f x)=((l.set i x).flatMap f).toArray:=by
 have e1:l=l.take i++(l[i]::l.drop (i+1)):=by rw[<- List.drop_eq_getElem_cons hi,List.take_append_drop]
 have e2:l.set i x=l.take i++(x::l.drop (i+1)):=by rw[List.set_eq_take_append_cons_drop,if_pos hi]
 have e3:l.flatMap f=(l.take i).flatMap f++(f l[i]++(l.drop (i+1)).flatMap f):=by
  have e6:l.flatMap f=(l.take i++(l[i]::l.drop (i+1))).flatMap f:=congrArg (fun z:List α=>z.flatMap f) e1;rw[e6,List.flatMap_append,List.flatMap_cons]
 have e4:(l.set i x).flatMap f=(l.take i).flatMap f++(f x++(l.drop (i+1)).flatMap f):=by
  rw[e2];simp
 have e5:0+i*k=((l.take i).flatMap f).length:=by rw[jp0 hf,List.length_take,Nat.min_eq_left (Nat.le_of_lt hi),Nat.zero_add]
 rw[e3,e4,e5];exact Cv0 _ _ _ _ (by rw[hf,hf])
theorem vk0 {w w':World} {B B':Nat} {TS:List TypeId} (h:T3 w w' B TS) (hB:B' <=B):T3 w w' B' TS:=⟨h.os,h.tape,h.output,h.size,fun k hk=>h.low k (by omega),h.stay⟩
theorem jq0 {w w':World} {B s n c:Nat} {E:TypeId} {a:Option Addr} {xs:List Value} {TS:List TypeId} (h:Own w B E s a n c xs) (hg:w.grownBy w' (Value.ownBlock (.slice a n c))) (hB:B <=w.heap.size) (hT:TS.contains E=true):T3 w w' B TS:=by
 have Qz0:=kn0 h;rw[Ln0 Qz0]at hg;split at hg
 ·refine⟨hg.os,hg.tape,hg.output,hg.size,fun k hk=>hg.block k (by omega) (fun e=>by cases e),fun b cs T hb _=>(hg.block b (K3 hb).lt (fun e=>by cases e)).trans hb⟩
 ·rename_i ha;obtain⟨cur,hc,hle,_⟩:=h.row ha;exact T3.put hc hg hle hT
structure My where
 gb:Nat
 rb:Nat
 eb:Nat
 xb:Nat
 tb:Nat
 sb:Nat
 z4:Nat
 z6:Nat
 la:Nat->Option Addr
 lc:Nat->Nat
 ea:Option Addr
 ec:Nat
 evs:List (Nat×Stp)
 ends:List Int
 W4:List Stp
 stuck:Bool
 used:Nat
 tl:Nat->List Int
 s:PS
abbrev My.rC (m:Nat) (M:My):Array Value:=#[.slice M.ea M.evs.length M.ec,.slice none 0 0,.slice (some ⟨M.eb,0,none⟩) m m,.slice (some ⟨M.xb,0,none⟩) m m,.bool M.stuck,.int .i64 (M.used:Int)]
structure RY (w0:World) (B2 m:Nat) (w:World) (M:My):Prop where
 hG:O0 w M.gb (arr m fun i=>.slice (M.la i) (M.s.W1 i).length (M.lc i)) 45
 hR:O0 w M.rb (M.rC m) 30
 hE:O0 w M.eb (M.ends.map (Value.int .i64)).toArray 3
 hX:O0 w M.xb (M.W4.flatMap spC).toArray 47
 hA:O0 w M.tb (Ac0 m M.tl) 3
 hS:O0 w M.sb (stA M.s) 40
 h4:∃cs,cs.size=6/\O0 w M.z4 cs 30
 h6:∃cs,cs.size=26/\O0 w M.z6 cs 40
 hL:∀i,i<m->Own w B2 2 1 (M.la i) (M.s.W1 i).length (M.lc i) (jj0 (M.s.W1 i))
 hV:Own w B2 49 4 M.ea M.evs.length M.ec (M.evs.flatMap evC)
 inj:∀i j,i<m->j<m->i≠j->M.la i≠none->M.la j≠none->ab (M.la i)≠ab (M.la j)
 le:M.ends.length=m
 lw:M.W4.length=m
 et:M.eb≠M.tb
 r4:M.z4≠M.rb
 s6:M.z6≠M.sb
 bs:B2 <=w.heap.size
 b0:w0.heap.size <=B2
 lo:M.gb<B2/\M.rb<B2/\M.eb<B2/\M.xb<B2/\M.tb<B2/\M.sb<B2/\M.z4<B2/\M.z6<B2
 hi:w0.heap.size <=M.gb/\w0.heap.size <=M.rb/\w0.heap.size <=M.eb/\w0.heap.size <=M.xb/\w0.heap.size <=M.tb/\w0.heap.size <=M.sb/\w0.heap.size <=M.z4/\w0.heap.size <=M.z6
 hb:Below w0.heap.size w0 w
theorem bx0 {w w':World} {B n b:Nat} {T:TypeId} {TS:List TypeId} (h:∃cs,cs.size=n/\O0 w b cs T) (hm:T3 w w' B TS) (hT:TS.contains T=false):∃cs,cs.size=n/\O0 w' b cs T:=let⟨cs,h1,h2⟩:=h;⟨cs,h1,h2.mod hm hT⟩
theorem Ni0 {w w':World} {n b c:Nat} {T:TypeId} (h:∃cs,cs.size=n/\O0 w b cs T) (hg:w.grownBy w' (some c)) (hn:b≠c):∃cs,cs.size=n/\O0 w' b cs T:=let⟨cs,h1,h2⟩:=h;⟨cs,h1,h2.other hg hn⟩
section
variable {w0 w w':World}{B2 m:Nat}{M:My}
theorem RY.j0 (h:RY w0 B2 m w M) (hb:Below w.heap.size w w'):RY w0 B2 m w' M :=
 ⟨h.hG.j0 hb,h.hR.j0 hb,h.hE.j0 hb,h.hX.j0 hb,h.hA.j0 hb,h.hS.j0 hb,let⟨cs,h1,h2⟩:=h.h4;⟨cs,h1,h2.j0 hb⟩,let⟨cs,h1,h2⟩:=h.h6;⟨cs,h1,h2.j0 hb⟩,fun i hi=>Own.congr (h.hL i hi) fun ha=>hb.block _ ((h.hL i hi).lt ha),Own.congr h.hV fun ha=>hb.block _ (h.hV.lt ha),h.inj,h.le,h.lw,h.et,h.r4,h.s6,Nat.le_trans h.bs hb.size,h.b0,h.lo,h.hi,P0 h.hb hb⟩
theorem RY.mo1 (h:RY w0 B2 m w M) (i:Nat) (v:Stp) (Z0:O0 w' M.xb ((M.W4.set i v).flatMap spC).toArray 47) (hg:w.grownBy w' (some M.xb)):RY w0 B2 m w' {M with W4:=M.W4.set i v}:=by
 have hm:T3 w w' w0.heap.size [47]:=T3.put h.hX hg h.hi.2.2.2.1 rfl;exact⟨h.hG.mod hm rfl,h.hR.mod hm rfl,h.hE.mod hm rfl,Z0,h.hA.mod hm rfl,h.hS.mod hm rfl,bx0 h.h4 hm rfl,bx0 h.h6 hm rfl,fun i hi=>(h.hL i hi).mod hm rfl,h.hV.mod hm rfl,h.inj,h.le,by rw[List.length_set];exact h.lw,h.et,h.r4,h.s6,Nat.le_trans h.bs hm.size,h.b0,h.lo,h.hi,Below.wb0 h.hb hm⟩
theorem RY.Jl0 (h:RY w0 B2 m w M) (i:Nat) (z:Int) (Z0:O0 w' M.eb ((M.ends.set i z).map (Value.int .i64)).toArray 3) (hg:w.grownBy w' (some M.eb)):RY w0 B2 m w' {M with ends:=M.ends.set i z}:=by
 have hm:T3 w w' w0.heap.size [3]:=T3.put h.hE hg h.hi.2.2.1 rfl;exact⟨h.hG.mod hm rfl,h.hR.mod hm rfl,Z0,h.hX.mod hm rfl,h.hA.other hg h.et.symm,h.hS.mod hm rfl,bx0 h.h4 hm rfl,bx0 h.h6 hm rfl,fun i hi=>(h.hL i hi).mod hm rfl,h.hV.mod hm rfl,h.inj,by rw[List.length_set];exact h.le,h.lw,h.et,h.r4,h.s6,Nat.le_trans h.bs hm.size,h.b0,h.lo,h.hi,Below.wb0 h.hb hm⟩
theorem RY.mp1 (h:RY w0 B2 m w M) (tl:Nat->List Int) (Z0:O0 w' M.tb (Ac0 m tl) 3) (hg:w.grownBy w' (some M.tb)):RY w0 B2 m w' {M with tl:=tl}:=by
 have hm:T3 w w' w0.heap.size [3]:=T3.put h.hA hg h.hi.2.2.2.2.1 rfl;exact⟨h.hG.mod hm rfl,h.hR.mod hm rfl,h.hE.other hg h.et,h.hX.mod hm rfl,Z0,h.hS.mod hm rfl,bx0 h.h4 hm rfl,bx0 h.h6 hm rfl,fun i hi=>(h.hL i hi).mod hm rfl,h.hV.mod hm rfl,h.inj,h.le,h.lw,h.et,h.r4,h.s6,Nat.le_trans h.bs hm.size,h.b0,h.lo,h.hi,Below.wb0 h.hb hm⟩
theorem RY.mq1 (h:RY w0 B2 m w M) (z:Nat) (Z0:O0 w' M.rb (My.rC m {M with used:=z}) 30) (hg:w.grownBy w' (some M.rb)):RY w0 B2 m w' {M with used:=z}:=by
 exact U337
theorem RY.mr1 (h:RY w0 B2 m w M) (z:Bool) (Z0:O0 w' M.rb (My.rC m {M with stuck:=z}) 30) (hg:w.grownBy w' (some M.rb)):RY w0 B2 m w' {M with stuck:=z}:=by
 exact U337
theorem RY.ms1 (h:RY w0 B2 m w M) (s':PS) (ht:s'.W1=M.s.W1) (Z0:O0 w' M.sb (stA s') 40) (hg:w.grownBy w' (some M.sb)):RY w0 B2 m w' {M with s:=s'}:=by
 have hm:T3 w w' w0.heap.size [40]:=T3.put h.hS hg h.hi.2.2.2.2.2.1 rfl;refine⟨?_,h.hR.mod hm rfl,h.hE.mod hm rfl,h.hX.mod hm rfl,h.hA.mod hm rfl,Z0,bx0 h.h4 hm rfl,Ni0 h.h6 hg h.s6,fun i hi=>?_,h.hV.mod hm rfl,h.inj,h.le,h.lw,h.et,h.r4,h.s6,Nat.le_trans h.bs hm.size,h.b0,h.lo,h.hi,Below.wb0 h.hb hm⟩
 ·show O0 w' M.gb (arr m fun i=>.slice (M.la i) (s'.W1 i).length (M.lc i)) _;rw[ht];exact h.hG.mod hm rfl
 ·show Own w' B2 _ 1 (M.la i) (s'.W1 i).length (M.lc i) (jj0 (s'.W1 i));rw[ht];exact(h.hL i hi).mod hm rfl
theorem RY.mt1 (h:RY w0 B2 m w M) {cs:Array Value} (hc:cs.size=6) (Z0:O0 w' M.z4 cs 30) (hg:w.grownBy w' (some M.z4)):RY w0 B2 m w' M:=by
 obtain⟨cs0,_,h40⟩:=h.h4;have hm:T3 w w' w0.heap.size [30]:=T3.put h40 hg h.hi.2.2.2.2.2.2.1 rfl;exact⟨h.hG.mod hm rfl,h.hR.other hg h.r4.symm,h.hE.mod hm rfl,h.hX.mod hm rfl,h.hA.mod hm rfl,h.hS.mod hm rfl,⟨cs,hc,Z0⟩,bx0 h.h6 hm rfl,fun i hi=>(h.hL i hi).mod hm rfl,h.hV.mod hm rfl,h.inj,h.le,h.lw,h.et,h.r4,h.s6,Nat.le_trans h.bs hm.size,h.b0,h.lo,h.hi,Below.wb0 h.hb hm⟩
theorem RY.mu1 (h:RY w0 B2 m w M) {cs:Array Value} (hc:cs.size=26) (Z0:O0 w' M.z6 cs 40) (hg:w.grownBy w' (some M.z6)):RY w0 B2 m w' M:=by
 obtain⟨cs0,_,h60⟩:=h.h6;have hm:T3 w w' w0.heap.size [40]:=T3.put h60 hg h.hi.2.2.2.2.2.2.2 rfl;exact⟨h.hG.mod hm rfl,h.hR.mod hm rfl,h.hE.mod hm rfl,h.hX.mod hm rfl,h.hA.mod hm rfl,h.hS.other hg h.s6.symm,bx0 h.h4 hm rfl,⟨cs,hc,Z0⟩,fun i hi=>(h.hL i hi).mod hm rfl,h.hV.mod hm rfl,h.inj,h.le,h.lw,h.et,h.r4,h.s6,Nat.le_trans h.bs hm.size,h.b0,h.lo,h.hi,Below.wb0 h.hb hm⟩
theorem RY.za0 {w1:World} {a':Option Addr} {c':Nat} (h:RY w0 B2 m w M) (x:Nat×Stp) (hga:w.grownBy w1 (Value.ownBlock (.slice M.ea M.evs.length M.ec))) (hO:Own w1 B2 49 4 a' (M.evs.length+1) c' (M.evs.flatMap evC++evC x)) (Z0:O0 w' M.rb (My.rC m {M with ea:=a',ec:=c',evs:=M.evs ++ [x]}) 30) (hg:w1.grownBy w' (some M.rb)):RY w0 B2 m w' {M with ea:=a',ec:=c',evs:=M.evs ++ [x]}:=by
 have hm1:T3 w w1 w0.heap.size [49]:=vk0 (jq0 (TS:=[49]) h.hV hga h.bs rfl) h.b0;have hm2:T3 w1 w' w0.heap.size [30]:=T3.put (h.hR.mod hm1 rfl) hg h.hi.2.1 rfl;have hm:T3 w w' w0.heap.size [49,30]:=(hm1.wide rfl).trans (hm2.wide rfl);refine⟨h.hG.mod hm rfl,Z0,h.hE.mod hm rfl,h.hX.mod hm rfl,h.hA.mod hm rfl,h.hS.mod hm rfl,Ni0 (bx0 h.h4 hm1 rfl) hg h.r4,bx0 h.h6 hm rfl,fun i hi=>(h.hL i hi).mod hm rfl,?_,h.inj,h.le,h.lw,h.et,h.r4,h.s6,Nat.le_trans h.bs hm.size,h.b0,h.lo,h.hi,Below.wb0 h.hb hm⟩;have h9:=hO.mod hm2 rfl;show Own w' B2 _ 4 a' (M.evs ++ [x]).length c' ((M.evs ++ [x]).flatMap evC);rw[List.length_append,List.flatMap_append];simpa using h9
theorem RY.Zb0 {w1:World} {a':Option Addr} {c' i:Nat} (h:RY w0 B2 m w M) (hi:i<m) (x:Int) (hga:w.grownBy w1 (Value.ownBlock (.slice (M.la i) (M.s.W1 i).length (M.lc i)))) (hwh:a'≠none->(M.la i≠none/\ab a'=ab (M.la i))\/w.heap.size <=ab a') (hO:Own w1 B2 2 1 a' ((M.s.W1 i).length+1) c' (jj0 (M.s.W1 i) ++ [.int .i64 x])) (Z0:O0 w' M.gb (arr m fun j=>.slice (D7 M.la i a' j) (D7 M.s.W1 i (M.s.W1 i ++ [x]) j).length (D7 M.lc i c' j)) 45) (hg:w1.grownBy w' (some M.gb)):RY w0 B2 m w' {M with la:=D7 M.la i a',lc:=D7 M.lc i c',s:=J5 i (M.s,x)}:=by
 have hm1:T3 w w1 w0.heap.size [2]:=vk0 (jq0 (TS:=[2]) (h.hL i hi) hga h.bs rfl) h.b0;have hm2:T3 w1 w' w0.heap.size [45]:=T3.put (h.hG.mod hm1 rfl) hg h.hi.1 rfl;have hm:T3 w w' w0.heap.size [2,45]:=(hm1.wide rfl).trans (hm2.wide rfl);refine⟨Z0,h.hR.mod hm rfl,h.hE.mod hm rfl,h.hX.mod hm rfl,h.hA.mod hm rfl,h.hS.mod hm rfl,bx0 h.h4 hm rfl,bx0 h.h6 hm rfl,fun j hj=>?_,h.hV.mod hm rfl,fun j k hj hk hjk h1 h2=>?_,h.le,h.lw,h.et,h.r4,h.s6,Nat.le_trans h.bs hm.size,h.b0,h.lo,h.hi,Below.wb0 h.hb hm⟩
 ·show Own w' B2 _ 1 (D7 M.la i a' j) (D7 M.s.W1 i (M.s.W1 i ++ [x]) j).length (D7 M.lc i c' j) (jj0 (D7 M.s.W1 i (M.s.W1 i ++ [x]) j));by_cases V2:j=i
  ·subst V2;rw[R3,R3,R3,List.length_append];show Own w' B2 _ 1 a' _ c' ((M.s.W1 j ++ [x]).map _);rw[List.map_append];exact hO.mod hm2 rfl
  ·rw[j4 V2,j4 V2,j4 V2];refine Own.mod (Own.congr (h.hL j hj) fun ha=>?_) hm2 rfl;refine hga.block _ ((h.hL j hj).lt ha) fun e=>?_;obtain⟨hz,e2⟩:=wk0 e.symm;exact h.inj j i hj hi V2 ha hz e2
 ·have h1:D7 M.la i a' j≠none:=h1;have h2:D7 M.la i a' k≠none:=h2;show ab (D7 M.la i a' j)≠ab (D7 M.la i a' k);have key:∀j,j<m->j≠i->M.la j≠none->a'≠none->ab (M.la j)≠ab a':=fun j hj V2 ha hb e=>by
   rcases hwh hb with⟨z1,z2⟩|z
   ·exact h.inj j i hj hi V2 ha z1 (e.trans z2)
   ·have:=(h.hL j hj).lt ha;omega
  by_cases e1:j=i
  ·have e2:k≠i:=fun e=>hjk (e1.trans e.symm);rw[e1,R3]at h1⊢;rw[j4 e2]at h2⊢;exact fun e=>key k hk e2 h2 h1 e.symm
  ·rw[j4 e1]at h1⊢;by_cases e2:k=i
   ·rw[e2,R3]at h2⊢;exact key j hj e1 h1 h2
   ·rw[j4 e2]at h2⊢;exact h.inj j k hj hk hjk h1 h2
theorem RY.gs1 (h:RY w0 B2 m w M) {i:Nat} (hi:i<m):w.cell? ⟨M.gb,0+i*1,none⟩=some (.slice (M.la i) (M.s.W1 i).length (M.lc i)):=by
 rw[Nat.zero_add,Nat.mul_one];exact h.hG.E0 i (v7 hi)
structure Ry0 (N m:Nat) (M:My):Prop where
 la:∀i,i<m->M.la i≠none->ab (M.la i)<N
 ea:M.ea≠none->ab M.ea<N
theorem RY.mv1 (h:RY w0 B2 m w M):Ry0 w.heap.size m M:=⟨fun i hi ha=>(h.hL i hi).lt ha,fun ha=>h.hV.lt ha⟩
theorem RY.gt1 {N:Nat} (h:RY w0 B2 m w M) (hl:Ry0 N m M) (hN:B2 <=N) (hb:Below N w w'):RY w0 B2 m w' M:=by
 have lo:=h.lo;have k:∀{b:Nat} {cs:Array Value} {T:TypeId},O0 w b cs T->b<N->O0 w' b cs T:=fun hB Y1=>(hb.block _ Y1).trans hB;exact⟨k h.hG (by omega),k h.hR (by omega),k h.hE (by omega),k h.hX (by omega),k h.hA (by omega),k h.hS (by omega),let⟨cs,h1,h2⟩:=h.h4;⟨cs,h1,k h2 (by omega)⟩,let⟨cs,h1,h2⟩:=h.h6;⟨cs,h1,k h2 (by omega)⟩,fun i hi=>Own.congr (h.hL i hi) fun ha=>hb.block _ (hl.la i hi ha),Own.congr h.hV fun ha=>hb.block _ (hl.ea ha),h.inj,h.le,h.lw,h.et,h.r4,h.s6,Nat.le_trans h.bs hb.size,h.b0,h.lo,h.hi,h.hb.trans (hb.mono (Nat.le_trans h.b0 hN))⟩
end
section
variable [Ctx prog]{n:Nat}{Q:Exit->Env->World->Prop}{e:Env}{ops:Array Oper}{rest:List Oper}{ty:TypeId}{ps:String}{af:Array Edge}{T:TypeId}{x y:Operand}
variable {w0 w:World}{B2 m:Nat}{M:My}
theorem L.yE {i:Nat} {z:Int} (h:RY w0 B2 m w M) (hi:i<m) (hx:ev e x= .pointer (some ⟨M.eb,0+i*1,none⟩)) (hy:ev e y= .int .i64 z) (hs:(prog.info? T).map (·.size)=some 1)
  (k:∀w1,RY w0 B2 m w1 {M with ends:=M.ends.set i z}->w.grownBy w1 (some M.eb)->L prog n ops Q rest e w1):L prog n ops Q (⟨none,.store T x y,ty,ps,af,none⟩::rest) e w:=by
 refine L.put (vs:=[.int .i64 z]) ((M.ends.set i z).map (Value.int .i64)).toArray hx hy rfl hs rfl rfl h.hE (by rw[Nat.zero_add,Nat.mul_one];simp[h.le];omega) ?_ (fun w1 Z0 hg _=>k w1 (h.Jl0 i z Z0 hg) hg);rw[Nat.zero_add,Nat.mul_one];apply Array.toList_inj.1;simp[setRow,List.map_set]
theorem L.yX {i:Nat} {z:Stp} (h:RY w0 B2 m w M) (hi:i<m) (hx:ev e x= .pointer (some ⟨M.xb,0+i*3,none⟩)) (hy:ev e y=gk0 z) (hs:(prog.info? T).map (·.size)=some 3)
  (k:∀w1,RY w0 B2 m w1 {M with W4:=M.W4.set i z}->w.grownBy w1 (some M.xb)->L prog n ops Q rest e w1):L prog n ops Q (⟨none,.store T x y,ty,ps,af,none⟩::rest) e w:=by
 have hln:(M.W4.flatMap spC).length=m*3:=by rw[jp0 (f:=spC) (k:=3) (fun _=>rfl),h.lw]
 exact L.put (vs:=spC z) _ hx hy rfl hs rfl rfl h.hX (by simp only[List.size_toArray,hln];omega) (Gi0 spC 3 (fun _=>rfl) z (by rw[h.lw];exact hi)) (fun w1 Z0 hg _=>k w1 (h.mo1 i z Z0 hg) hg)
theorem L.yU {z:Nat} (h:RY w0 B2 m w M) (hx:ev e x= .pointer (some ⟨M.rb,5,none⟩)) (hy:ev e y= .int .i64 (z:Int)) (hs:(prog.info? T).map (·.size)=some 1)
  (k:∀w1,RY w0 B2 m w1 {M with used:=z}->w.grownBy w1 (some M.rb)->L prog n ops Q rest e w1):L prog n ops Q (⟨none,.store T x y,ty,ps,af,none⟩::rest) e w :=
 L.put (vs:=[.int .i64 (z:Int)]) (My.rC m {M with used:=z}) hx hy rfl hs rfl rfl h.hR (Nat.le_of_ble_eq_true rfl) rfl (fun w1 Z0 hg _=>k w1 (h.mq1 z Z0 hg) hg)
theorem L.yK {z:Bool} (h:RY w0 B2 m w M) (hx:ev e x= .pointer (some ⟨M.rb,4,none⟩)) (hy:ev e y= .bool z) (hs:(prog.info? T).map (·.size)=some 1)
  (k:∀w1,RY w0 B2 m w1 {M with stuck:=z}->w.grownBy w1 (some M.rb)->L prog n ops Q rest e w1):L prog n ops Q (⟨none,.store T x y,ty,ps,af,none⟩::rest) e w :=
 L.put (vs:=[.bool z]) (My.rC m {M with stuck:=z}) hx hy rfl hs rfl rfl h.hR (Nat.le_of_ble_eq_true rfl) rfl (fun w1 Z0 hg _=>k w1 (h.mr1 z Z0 hg) hg)
theorem L.yS {s':PS} (h:RY w0 B2 m w M) (ht:s'.W1=M.s.W1) (hx:ev e x= .pointer (some ⟨M.sb,0,none⟩)) (hy:ev e y= .agg (stA s'))
  (k:∀w1,RY w0 B2 m w1 {M with s:=s'}->w.grownBy w1 (some M.sb)->L prog n ops Q rest e w1):L prog n ops Q (⟨none,.store 40 x y,ty,ps,af,none⟩::rest) e w :=
 L.Af0 hx hy h.hS (n5 _) fun w1 Z0 hg _=>k w1 (h.ms1 s' ht Z0 hg) hg
theorem L.y6 {s':PS} (h:RY w0 B2 m w M) (hx:ev e x= .pointer (some ⟨M.z6,0,none⟩)) (hy:ev e y= .agg (stA s'))
  (k:∀w1,RY w0 B2 m w1 M->O0 w1 M.z6 (stA s') 40->w.grownBy w1 (some M.z6)->L prog n ops Q rest e w1):L prog n ops Q (⟨none,.store 40 x y,ty,ps,af,none⟩::rest) e w:=by
 obtain⟨cs,hc,h6⟩:=h.h6;exact L.Af0 hx hy h6 hc fun w1 Z0 hg _=>k w1 (h.mu1 (n5 _) Z0 hg) Z0 hg
theorem L.yA {i:Nat} {tl:Nat->List Int} (h:RY w0 B2 m w M) (hi:i<m) (hk:∀d,(tl d).length=if d=i then(M.tl i).length+1 else(M.tl d).length) (hx:ev e x= .pointer (some ⟨M.tb,0+i*1,none⟩)) (hy:ev e y= .int .i64 (((M.tl i).length:Nat)+1:Int)) (hs:(prog.info? T).map (·.size)=some 1)
  (k:∀w1,RY w0 B2 m w1 {M with tl:=tl}->w.grownBy w1 (some M.tb)->L prog n ops Q rest e w1):L prog n ops Q (⟨none,.store T x y,ty,ps,af,none⟩::rest) e w :=
 L.put (vs:=[.int .i64 (((M.tl i).length:Nat)+1:Int)]) (Ac0 m tl) hx hy rfl hs rfl rfl h.hA (by show _ <=(arr m _).size;rw[H8];omega) (Nh0 rfl hk) (fun w1 Z0 hg _=>k w1 (h.mp1 tl Z0 hg) hg)
theorem L.yEv {w1:World} {a':Option Addr} {c':Nat} (h:RY w0 B2 m w M) (v:Nat×Stp) (hga:w.grownBy w1 (Value.ownBlock (.slice M.ea M.evs.length M.ec))) (hO:Own w1 B2 49 4 a' (M.evs.length+1) c' (M.evs.flatMap evC++evC v))
  (hx:ev e x= .pointer (some ⟨M.rb,0,none⟩)) (hy:ev e y= .slice a' (M.evs.length+1) c') (hs:(prog.info? T).map (·.size)=some 1)
  (k:∀w2,RY w0 B2 m w2 {M with ea:=a',ec:=c',evs:=M.evs ++ [v]}->w1.grownBy w2 (some M.rb)->L prog n ops Q rest e w2):L prog n ops Q (⟨none,.store T x y,ty,ps,af,none⟩::rest) e w1:=by
 have hm1:T3 w w1 B2 [49]:=jq0 h.hV hga h.bs rfl;refine L.put (vs:=[.slice a' (M.evs.length+1) c']) (My.rC m {M with ea:=a',ec:=c',evs:=M.evs ++ [v]}) hx hy rfl hs rfl rfl (h.hR.mod hm1 rfl) (Nat.le_of_ble_eq_true rfl) ?_ (fun w2 Z0 hg _=>k w2 (h.za0 v hga hO Z0 hg) hg);simp[setRow]
theorem L.yG {w1:World} {a':Option Addr} {c' i:Nat} (h:RY w0 B2 m w M) (hi:i<m) (v:Int) (hga:w.grownBy w1 (Value.ownBlock (.slice (M.la i) (M.s.W1 i).length (M.lc i)))) (hwh:a'≠none->(M.la i≠none/\ab a'=ab (M.la i))\/w.heap.size <=ab a') (hO:Own w1 B2 2 1 a' ((M.s.W1 i).length+1) c' (jj0 (M.s.W1 i) ++ [.int .i64 v]))
  (hx:ev e x= .pointer (some ⟨M.gb,0+i*1,none⟩)) (hy:ev e y= .slice a' ((M.s.W1 i).length+1) c') (hs:(prog.info? T).map (·.size)=some 1)
  (k:∀w2,RY w0 B2 m w2 {M with la:=D7 M.la i a',lc:=D7 M.lc i c',s:=J5 i (M.s,v)}->w1.grownBy w2 (some M.gb)->L prog n ops Q rest e w2):L prog n ops Q (⟨none,.store T x y,ty,ps,af,none⟩::rest) e w1:=by
 have hm1:T3 w w1 B2 [2]:=jq0 (h.hL i hi) hga h.bs rfl;exact L.put (vs:=[.slice a' ((M.s.W1 i).length+1) c']) (arr m fun j=>.slice (D7 M.la i a' j) (D7 M.s.W1 i (M.s.W1 i ++ [v]) j).length (D7 M.lc i c' j)) hx hy rfl hs rfl rfl (h.hG.mod hm1 rfl) (by rw[H8];omega) (zt0 (r:=⟨M.la,M.lc⟩) v) (fun w2 Z0 hg _=>k w2 (h.Zb0 hi v hga hwh hO Z0 hg) hg)
end
end Go.Vy.Sc
end
section
namespace Go.Vy
open Go Go.Yc Go.RowKit Go.Proofs
open Go.Vc
theorem Ag0 {fn:Func} {p u q:Tmp} {ty tq:TypeId} (h:fn.results=#[.cell p ty,.tmp u,.cell q tq]) (tmps:Array Value) (P:Program) (w:World) :
  (results fn tmps).run P w=((do let a <- asAddr (tmps.getD p undef);let x <- loadVar ty a;let b <- asAddr (tmps.getD q undef);let y <- loadVar tq b;pure (.tuple #[x,tmps.getD u undef,y])):Sem Value).run P w:=by
 simp[results,h]
theorem ends.Ah0 {P:Program} [Ctx P] {fn:Func} {R:Value->World->Prop} {x:Exit} {e:Env} {w:World} {t u v b c:Nat} {cs ds:Array Value} {T E T' E':TypeId} {d d2:TypeDesc} (hx:x= .normal\/x= .ret) (hr:fn.results=#[.cell t T,.tmp u,.cell v T'])
  (he:e t= .pointer (some ⟨b,0,Option.none⟩)) (he':e v= .pointer (some ⟨c,0,Option.none⟩)) (hT:P.underlying T=some d) (hu:g7 d=false) (hs:(P.info? T).map (·.size)=some cs.size) (hT':P.underlying T'=some d2) (hu':g7 d2=false) (hs':(P.info? T').map (·.size)=some ds.size) (hB:O0 w b cs E) (hC:O0 w c ds E') (h:R (.tuple #[.agg cs,e u,.agg ds]) w):ends P fn R x e w :=
 ⟨hx,_,fun tmps ht=>af0 ag0 fun τ d'=>by
  have hB:O0 (N2 w τ d') b cs E:=hB;have hC:O0 (N2 w τ d') c ds E':=hC;generalize N2 w τ d'=w at hB hC⊢;have h3:tmps.getD t undef= .pointer (some ⟨b,0,Option.none⟩):=by rw[ht,he]
  have h4:tmps.getD v undef= .pointer (some ⟨c,0,Option.none⟩):=by rw[ht,he']
  rw[Ag0 hr,h3,h4];simp[asAddr,gx0 hT hu hs hB,gx0 hT' hu' hs' hC,ht],h⟩
end Go.Vy
namespace Go.Vy.Sc
open Go Go.Conc Go.Yc Go.RowKit Go.Proofs Go.Proofs.YtnifpkopeheodaaGreat Tryz
open Go.Vc Go.Wg
theorem Gj0 {α:Type} {l:List α} {k:Nat} {a:α} (v:α) (h:l[k]? =some a):(l.set k v)[k]? =some v:=by
 obtain⟨h1,_⟩:=List.getElem?_eq_some_iff.1 h;rw[List.getElem?_set_self h1]
theorem jr0 {α:Type} {l:List α} {k q:Nat} (v:α) (h:q≠k):(l.set k v)[q]? =l[q]?:=List.getElem?_set_ne (Ne.symm h)
theorem Nj0 {p:V3} {q:PR (L1 p)} {i k:Nat} {o:O1} (hf:q.ft[i]? =some (.inl k)) (ho:(p.bo i)[k]? =some o):(L1 p).v5 q i={q with s:=J5 i (Z5 o q.s),ft:=q.ft.set i (R8 (p.bo i) (k+1)),evs:=q.evs ++ [(i,stepOf o)],r2:=q.r2++tell i (q.evs.length+1) [],outs:=q.outs ++ [C4 (p.bo i) (k+1) (J5 i (Z5 o q.s))],who:=q.who ++ [some i],used:=q.used+1}:=by
 have hs:(L1 p).stp i k=stepOf o:=by
  show(match(p.bo i)[k]? with|some o=>(⟨o.call,o.I3,(Q0 o:Nat)⟩:Stp)|none=>⟨0,0,0⟩)=_;rw[ho];rfl
 have ht:(L1 p).v5 q i={q with s:=(goP (p.bo i) i k q.s).s,ft:=q.ft.set i (goP (p.bo i) i k q.s).K8,evs:=q.evs ++ [(i,(L1 p).stp i k)],r2:=q.r2++tell i (q.evs.length+1) (goP (p.bo i) i k q.s).r2,outs:=q.outs ++ [goP (p.bo i) i k q.s],who:=q.who ++ [some i],used:=q.used+1}:=by
  unfold Sys.v5;rw[hf]
 rw[ht,wz0 ho,hs];rfl
theorem gu1 {p:V3}:∀q,(L1 p).Reach q->∀j f,q.ft[j]? =some f->f=R8 (p.bo j) (q.s.W1 j).length:=by
 refine Sys.gl1 (Y:=L1 p) (fun q=>∀j f,q.ft[j]? =some f->f=R8 (p.bo j) (q.s.W1 j).length) (fun j f h=>by cases h) (fun q hR hq _=>?_) (fun q i k hR hq _ hf _=>?_)
 ·intro j f h;have h:(q.ft ++ [R8 (p.bo q.ft.length) 0])[j]? =some f:=h;show f=R8 (p.bo j) (q.s.W1 j).length;rcases bb0 h with h|⟨hj,h⟩
  ·exact hq j f h
  ·rw[<- h,hj,(eg0 q hR).new _ (Nat.le_refl _)];rfl
 ·obtain⟨h1,h2⟩:=(eg0 q hR).o5 i k hf;obtain⟨o,ho⟩:∃o,(p.bo i)[k]? =some o:=⟨_,List.getElem?_eq_getElem h2⟩
  rw[Nj0 hf ho];intro j f h;have h:(q.ft.set i (R8 (p.bo i) (k+1)))[j]? =some f:=h;show f=R8 (p.bo j) ((J5 i (Z5 o q.s)).W1 j).length;rw[gz0,K9];by_cases V2:j=i
  ·subst V2;rw[Gj0 _ hf]at h;rw[if_pos rfl,List.length_append,h1];exact(Option.some.inj h).symm
  ·rw[jr0 _ V2]at h;rw[if_neg V2];exact hq j f h
section
variable {p:V3}{q:PR (L1 p)}{j k:Nat}{o:O1}
theorem gv1 (hR:(L1 p).Reach q) (hl:q.ft.length=p.m) (hj:j<p.m) (hk:(q.s.W1 j).length=k) (ho:(p.bo j)[k]? =some o):q.ft[j]? =some (.inl k):=by
 obtain⟨f,hf⟩:∃f,q.ft[j]? =some f:=⟨_,List.getElem?_eq_getElem (by omega)⟩
 rw[hf,gu1 q hR j f hf,hk];unfold R8;rw[if_pos (List.getElem?_eq_some_iff.1 ho).1]
theorem Zc0 (hR:(L1 p).Reach q) (hl:q.ft.length=p.m) (hj:j<p.m) (hk:¬(q.s.W1 j).length<(p.bo j).length):q.ft[j]? =some (.inr 1):=by
 obtain⟨f,hf⟩:∃f,q.ft[j]? =some f:=⟨_,List.getElem?_eq_getElem (by omega)⟩
 rw[hf,gu1 q hR j f hf];unfold R8;rw[if_neg hk]
theorem Zd0 (hf:q.ft[j]? =some (.inl k)) (ho:(p.bo j)[k]? =some o):(L1 p).B7 q j=O8 o q.s:=by
 unfold Sys.B7;rw[hf];show(match(p.bo j)[k]? with|some o=>O8 o q.s|none=>true)=_;rw[ho]
theorem Ek0 (hf:q.ft[j]? =some (.inr 1)):(L1 p).B7 q j=false:=by
 unfold Sys.B7;rw[hf]
theorem Ai0 {Y:Sys} {p:PR Y} {e:Int} (h:Y.rds p≠[]):∃i l,p.ft[i]? =some (.inl l)/\(Y.rds p)[C7 e (Y.rds p).length]? =some i/\Y.step p e=Y.v5 p i:=by
 have hl:0<(Y.rds p).length:=List.length_pos_iff.2 h;obtain⟨i,hi⟩:∃i,(Y.rds p)[C7 e (Y.rds p).length]? =some i:=⟨_,List.getElem?_eq_getElem (kh0 _ hl)⟩
 obtain⟨_,hr⟩:=Sys.mi0 hi;unfold Sys.B7 at hr;cases hx:p.ft[i]? with
 |none=>rw[hx]at hr;cases hr
 |some f=>
  cases f with
  |inl l=>exact⟨i,l,hx,hi,by unfold Sys.step;rw[hi]⟩
  |inr x=>rw[hx]at hr;cases hr
theorem Cw0 {Y:Sys}:∀n,(Y.P4 n).evs=[]/\(Y.P4 n).used=0
 |0=>⟨rfl,rfl⟩
 |n+1=>by
  show(Y.bgn (Y.P4 n)).evs=[]/\(Y.bgn (Y.P4 n)).used=0;unfold Sys.bgn;split <;> exact Cw0 n
theorem ow0:∀n,((L1 p).P4 n).s=ps0
 |0=>rfl
 |n+1=>ow0 n
theorem El0 {r:Nat->Bool} {i:Nat} (h:r i=true):(List.range (i+1)).filter r=(List.range i).filter r ++ [i]:=by rw[List.range_succ,List.filter_append];simp[h]
theorem xn0 {r:Nat->Bool} {i:Nat} (h:r i=false):(List.range (i+1)).filter r=(List.range i).filter r:=by rw[List.range_succ,List.filter_append];simp[h]
theorem Nk0 {r:Nat->Bool} (i:Nat):((List.range i).filter r).length <=i:=by have:=List.length_filter_le r (List.range i);simpa using this
theorem Ze0 (e:Int) {n:Nat} (hn:0<n):-(n:Int)<e.tmod (n:Int)/\e.tmod (n:Int)<(n:Int) :=
 ⟨by have:=Int.lt_tmod_of_pos e (b:=(n:Int)) (by omega);omega,Int.tmod_lt_of_pos e (by omega)⟩
end
structure MQ (p:V3) (q:PR (L1 p)) (M:My):Prop where
 s:M.s=q.s
 tl:M.tl=q.s.W1
 evs:M.evs=q.evs
 used:M.used=q.used
 ez:∀x,x<p.m->(q.s.W1 x).length<(p.bo x).length->M.ends[x]? =some 0
def Tld (p:V3) (q:PR (L1 p)) (j:Nat) (M:My):Prop:=∀x,x<j->M.ends[x]? =some (Y9 q.ft[x]?)/\M.W4[x]? =some (Ks0 (L1 p) x q.ft[x]?)
def oy0 (q:List (Nat ⊕ Nat)) (j:Nat):Bool:=(q.take j).any (·.isLeft)
section
variable {p:V3}{q:PR (L1 p)}{M:My}{j k:Nat}{o:O1}
theorem Rz0 (hf:q.ft[j]? =some (.inl k)):oy0 q.ft (j+1)=true:=by
 unfold oy0;rw[List.take_add_one,hf];simp
theorem Nl0 (hf:q.ft[j]? =some (.inr 1)):oy0 q.ft (j+1)=oy0 q.ft j:=by
 unfold oy0;rw[List.take_add_one,hf];simp
theorem Nm0 (hl:q.ft.length=p.m):oy0 q.ft p.m=q.ft.any (·.isLeft):=by
 unfold oy0;rw[List.take_of_length_le (by omega)]
theorem Nn0 (h:Tld p q j M) (hf:q.ft[j]? =some (.inl k)) (ho:(p.bo j)[k]? =some o) (he:M.ends[j]? =some 0) (hw:j<M.W4.length):Tld p q (j+1) {M with W4:=M.W4.set j (stepOf o)}:=by
 intro x hx;by_cases e:x=j
 ·subst e;rw[hf];refine⟨he,?_⟩;show(M.W4.set x (stepOf o))[x]? =some (match(p.bo x)[k]? with|some o=>(⟨o.call,o.I3,(Q0 o:Nat)⟩:Stp)|none=>⟨0,0,0⟩);rw[List.getElem?_set_self hw,ho];rfl
 ·have:=h x (by omega);refine⟨this.1,?_⟩;show(M.W4.set j (stepOf o))[x]? =_;rw[jr0 _ e];exact this.2
theorem Sa0 (h:Tld p q j M) (hf:q.ft[j]? =some (.inr 1)) (he:j<M.ends.length) (hw:j<M.W4.length):Tld p q (j+1) {M with ends:=M.ends.set j 1,W4:=M.W4.set j sp0}:=by
 intro x hx;by_cases e:x=j
 ·subst e;rw[hf];refine⟨?_,?_⟩
  ·show(M.ends.set x 1)[x]? =some 1;rw[List.getElem?_set_self he]
  ·show(M.W4.set x sp0)[x]? =some sp0;rw[List.getElem?_set_self hw]
 ·have:=h x (by omega);refine⟨?_,?_⟩
  ·show(M.ends.set j 1)[x]? =_;rw[jr0 _ e];exact this.1
  ·show(M.W4.set j sp0)[x]? =_;rw[jr0 _ e];exact this.2
theorem Tld.lists (h:Tld p q p.m M) (he:M.ends.length=p.m) (hw:M.W4.length=p.m):M.ends=(List.range p.m).map (fun j=>Y9 q.ft[j]?)/\M.W4=(List.range p.m).map (fun j=>Ks0 (L1 p) j q.ft[j]?):=by
 constructor
 ·apply List.ext_getElem?;intro j;rcases Nat.lt_or_ge j p.m with hj|hj
  ·rw[(h j hj).1];simp[hj]
  ·rw[List.getElem?_eq_none (by omega),List.getElem?_eq_none (by simpa using hj)]
 ·apply List.ext_getElem?;intro j;rcases Nat.lt_or_ge j p.m with hj|hj
  ·rw[(h j hj).2];simp[hj]
  ·rw[List.getElem?_eq_none (by omega),List.getElem?_eq_none (by simpa using hj)]
theorem MQ.v5 {i:Nat} {M':My} (h:MQ p q M) (hf:q.ft[i]? =some (.inl k)) (ho:(p.bo i)[k]? =some o) (hk:(q.s.W1 i).length=k) (e1:M'.s=J5 i (Z5 o q.s)) (e2:M'.tl=(J5 i (Z5 o q.s)).W1) (e3:M'.evs=q.evs ++ [(i,stepOf o)]) (e4:M'.used=q.used+1) (e5:M'.ends=M.ends):MQ p ((L1 p).v5 q i) M':=by
 rw[Nj0 hf ho];refine⟨e1,e2,e3,e4,fun x hx Y1=>?_⟩;rw[e5];refine h.ez x hx ?_;have Y1:((J5 i (Z5 o q.s)).W1 x).length<(p.bo x).length:=Y1;rw[gz0,K9]at Y1;split at Y1
 ·rename_i hxi;subst hxi;rw[List.length_append]at Y1;simp at Y1;omega
 ·exact Y1
end
structure NW (N:Nat) (w:World):Prop where
 le:N <=w.heap.size
theorem NW.j0 {N:Nat} {w w':World} (h:NW N w) (hb:Below w.heap.size w w'):NW N w':=⟨Nat.le_trans h.le hb.size⟩
theorem NW.grown {N:Nat} {w w':World} {r:Option Nat} (h:NW N w) (hg:w.grownBy w' r):NW N w':=⟨Nat.le_trans h.le hg.size⟩
theorem Sb0 [Ctx prog] (o:O1) (s:PS) (ho:POk o) (w0:World):C prog 40 #[.agg (stA s),.agg #[.int .i64 o.I3,.int .i64 o.J9,.int .i64 o.call,.int .i64 o.val]] w0 fun v w=>v= .bool (O8 o s)/\Below w0.heap.size w0 w:=by
 obtain⟨th,wh,ca,vv⟩:=o;by_cases h1:ca=1
 ·subst h1;have ht:th=1\/th=2:=by
   rcases ho with⟨h,_⟩|⟨h,_⟩|⟨h,h2⟩|⟨h,h2⟩|⟨h,h2⟩ <;> simp only at h <;> first|omega|(simp only at h2;omega)
  rcases ht with rfl|rfl
  ·cases h:s.held 1 (Q0 (⟨1,wh,1,vv⟩:O1))with
   |true=>exact Ru0 wh vv s w0 h
   |false=>exact Rv0 wh vv s w0 h
  ·cases h:s.held 2 (Q0 (⟨2,wh,1,vv⟩:O1))with
   |true=>exact Rw0 wh vv s w0 h
   |false=>exact Rx0 wh vv s w0 h
 by_cases h3:ca=3
 ·subst h3;exact gm1 wh vv s w0 th
 ·exact gn1 wh vv ca th s w0 h1 h3
theorem mw1 [Ctx prog] (o:O1) (s:PS) (ho:POk o) (hrd:∀n,0 <=s.u4 n/\s.u4 n <=1000000) (w0:World):C prog 38 #[.agg (stA s),.agg #[.int .i64 o.I3,.int .i64 o.J9,.int .i64 o.call,.int .i64 o.val]] w0 fun v w=>v= .tuple #[.agg (stA (Z5 o s).1),.int .i64 (Z5 o s).2]/\Below w0.heap.size w0 w:=by
 obtain⟨th,wh,ca,vv⟩:=o;obtain⟨tn,hb,ht⟩:∃tn:Nat,th=(tn:Int)/\tn<6:=by
  have:1 <=th/\th <=5:=by
   rcases ho with⟨h,_⟩|⟨h,_⟩|⟨h,_⟩|⟨h,_⟩|⟨h,_⟩ <;> simp only at h <;> omega
  exact⟨th.toNat,by omega,by omega⟩
 have hc:ca=1\/ca=2\/ca=3\/ca=4\/ca=5\/ca=6\/ca=7\/ca=8\/ca=9:=by
  rcases ho with⟨_,h⟩|⟨_,h⟩|⟨_,h⟩|⟨_,h⟩|⟨_,h⟩ <;> simp only at h <;> omega
 clear ho;subst hb;rcases hc with rfl|rfl|rfl|rfl|rfl|rfl|rfl|rfl|rfl
 ·exact do_1 wh vv tn ht s w0
 ·exact mj1 wh vv tn ht s w0
 ·exact mk1 wh vv tn ht s (hrd _) w0
 ·rcases Int.lt_or_eq_of_le (hrd (Q0 (⟨(tn:Nat),wh,4,vv⟩:O1))).1 with z|z
  ·exact go1 wh vv tn ht s ⟨z,(hrd _).2⟩ w0
  ·exact gp1 wh vv tn ht s z.symm w0
 ·exact gq1 wh vv tn ht s w0
 ·exact ml1 wh vv tn ht s w0
 ·exact mn1 wh vv tn ht s w0
 ·exact gr1 wh vv tn ht s w0
 ·exact mm1 wh vv tn ht s w0
end Go.Vy.Sc
end
section
namespace Go.Vy.Sc
open Go Go.Conc Go.Yc Go.RowKit Go.Proofs Go.Proofs.YtnifpkopeheodaaGreat Tryz
open Go.Vc Go.Wg
theorem gw1 (z:Value) (n:Nat):madeCells #[z] n=Array.replicate n z:=gi0 z 1 Nat.one_pos n
theorem Gk0 {α:Type} (f:α->List Value) (s:Nat) (hs:0<s) (hf:∀x,(f x).length=s) (x:α) (m:Nat):madeCells (f x).toArray (m*s)=((List.replicate m x).flatMap f).toArray:=by
 have hl:((List.replicate m x).flatMap f).length=m*s:=by rw[jp0 hf,List.length_replicate]
 apply Array.ext
 ·simp[madeCells,hl]
 ·intro i h1 h2;have hi:i<m*s:=by simpa [madeCells]using h1
  have hm:i%s<s:=Nat.mod_lt _ hs;have hd:i/s<m:=Nat.div_lt_of_lt_mul (by rw[Nat.mul_comm];exact hi);have h3:=xj0 f s hf (List.replicate m x) (i/s) x (i%s) ((f x)[i%s]'(by rw[hf];exact hm)) (by rw[List.getElem?_replicate,if_pos hd]) (List.getElem?_eq_getElem _);rw[show i/s*s+i%s=i by rw[Nat.mul_comm];exact Nat.div_add_mod i s]at h3;have h4:((List.replicate m x).flatMap f)[i]? =some (((List.replicate m x).flatMap f).toArray[i]'h2):=List.getElem?_eq_getElem _;rw[h3]at h4;have h5:=Option.some.inj h4;rw[<- h5];simp[madeCells,hf];rw[List.getElem?_eq_getElem (by rw[hf];exact hm)];rfl
abbrev my0 (m gb rb eb xb tb sb z4 z6:Nat):My:=⟨gb,rb,eb,xb,tb,sb,z4,z6,fun _=>none,fun _=>0,none,0,[],List.replicate m 0,List.replicate m sp0,false,0,fun _=>[],ps0⟩
theorem No0 {w0 w:World} {m gb rb eb xb tb sb z4 z6:Nat} (hb0:Below w0.heap.size w0 w) (hG:O0 w gb (Array.replicate (m*1) (.slice none 0 0)) 45) (hR:O0 w rb #[.slice none 0 0,.slice none 0 0,.slice (some ⟨eb,0,none⟩) m m,.slice (some ⟨xb,0,none⟩) m m,.bool false,.int .i64 0] 30)
  (hE:O0 w eb (madeCells #[.int .i64 0] (m*1)) 3) (hX:O0 w xb (madeCells #[.int .i64 0,.int .i64 0,.int .i64 0] (m*3)) 47) (hT:O0 w tb (Array.replicate (m*1) (.int .i64 0)) 3) (hS:O0 w sb (stA ps0) 40) (h4:∃cs,cs.size=6/\O0 w z4 cs 30) (h6:∃cs,cs.size=26/\O0 w z6 cs 40)
  (et:eb≠tb) (r4:z4≠rb) (s6:z6≠sb) (hi:w0.heap.size <=gb/\w0.heap.size <=rb/\w0.heap.size <=eb/\w0.heap.size <=xb/\w0.heap.size <=tb/\w0.heap.size <=sb/\w0.heap.size <=z4/\w0.heap.size <=z6):RY w0 w.heap.size m w (my0 m gb rb eb xb tb sb z4 z6):=by
 have lt:∀{b:Nat} {cs:Array Value} {T:TypeId},O0 w b cs T->b<w.heap.size:=fun h=>(K3 h).lt;refine⟨?_,hR,?_,?_,?_,hS,h4,h6,fun i hi=>Own.nil _ _ _ _,Own.nil _ _ _ _,fun i j _ _ _ h=>absurd rfl h,by simp,by simp,et,r4,s6,Nat.le_refl _,hb0.size,⟨lt hG,lt hR,lt hE,lt hX,lt hT,lt hS,let⟨_,_,h⟩:=h4;lt h,let⟨_,_,h⟩:=h6;lt h⟩,hi,hb0⟩
 ·have h9:=hG;rw[xd0]at h9;exact h9
 ·have h9:=hE;rw[gw1,Nat.mul_one]at h9;have e:Array.replicate m (Value.int .i64 0)=((List.replicate m (0:Int)).map (Value.int .i64)).toArray:=by
   apply Array.toList_inj.1;simp
  rw[e]at h9;exact h9
 ·have h9:=hX;have e:=Gk0 spC 3 (by decide) (fun _=>rfl) sp0 m;have e2:(spC sp0).toArray=#[.int .i64 0,.int .i64 0,.int .i64 0]:=rfl;rw[<- e2,e]at h9;exact h9
 ·have h9:=hT;rw[Gg0]at h9;exact h9
theorem Np0 {p:V3} {gb rb eb xb tb sb z4 z6:Nat}:MQ p ((L1 p).P4 p.m) (my0 p.m gb rb eb xb tb sb z4 z6) :=
 ⟨(ow0 _).symm,by rw[ow0];rfl,(Cw0 p.m).1.symm,(Cw0 p.m).2.symm,fun x hx _=>by show(List.replicate p.m (0:Int))[x]? =_;rw[List.getElem?_replicate,if_pos hx]⟩
section
variable [Ctx prog]
end
section
theorem Sc0 (x0:Option Addr) (x1:Nat) (x2:Nat) (x3:Option Addr) (x4:Nat) (x5:Nat):prog.built 30 [(2,.slice x0 x1 x2),(3,.slice x3 x4 x5)]=some #[.slice none 0 0,.slice none 0 0,.slice x0 x1 x2,.slice x3 x4 x5,.bool false,.int .i64 0]:=by kernel_rfl
theorem Sd0:prog.built 47 []=some #[.int .i64 0,.int .i64 0,.int .i64 0]:=by kernel_rfl
theorem Se0 (x0:Int) (x1:Int) (x2:Int) (x3:Int):prog.built 49 [(0,.int .i64 x0),(1,.agg #[.int .i64 x1,.int .i64 x2,.int .i64 x3])]=some #[.int .i64 x0,.int .i64 x1,.int .i64 x2,.int .i64 x3]:=by kernel_rfl
end
section
variable [Ctx prog]
set_option maxHeartbeats 4000000 in
theorem Sf0 {p:V3} (hp:y5 p) {bc sn scp:Nat} {sc:Nat->Int} {ba sa:Option Addr} {oa:Nat->Option Addr} {oc:Nat->Nat} (w0:World) (hBo:A7 w0 ba p.m p.bo oa oc) (hSc:od0 w0 sa sn scp sc) (hm:p.m <=16) (hsn:sn <=20000) (hbl:∀i,i<p.m->(p.bo i).length <=3000) :
  C prog 12 #[.slice ba p.m bc,.slice sa sn scp] w0 fun v w=>∃M B2,v= .tuple #[.agg (My.rC p.m M),.slice (some ⟨M.gb,0,none⟩) p.m p.m,.agg (stA M.s)]/\RY w0 B2 p.m w M/\MQ p ((L1 p).pn sc sn) M/\Tld p ((L1 p).pn sc sn) p.m M/\M.stuck=(((L1 p).pn sc sn).ft.any (·.isLeft)&&((L1 p).rds ((L1 p).pn sc sn)).isEmpty):=by
 refine C.enter (n:=168) func12 rfl rfl ?_;refine U3 ?_;intro hb;refine U514 ?_;intro w b4 F4 lt4 hb;have Y3:=F4.blk;refine L.va (cu0 rfl) ?_;refine L.alloc (cs:=stA ps0) Pf0 rfl (fun w b6 F6=>?_);have lt6:=F6.lq hb.size;have hb:=P0 hb F6.below;have Y3:=Y3.j0 F6.below;have u6:=F6.blk;refine U13 ?_;refine U120 ?_;refine U9 ?_;refine W.seq ?_;refine W.el1 6 (fun i=>match i with|0=>.lk (.int .i64 (p.m:Nat))|1=>.nw (fun b=>.slice (some ⟨b,0,none⟩) p.m p.m) (madeCells #[.int .i64 0] (p.m*1)) 3|2=>.lk (.int .i64 (p.m:Nat))|3=>.nw (fun b=>.slice (some ⟨b,0,none⟩) p.m p.m) (madeCells #[.int .i64 0,.int .i64 0,.int .i64 0] (p.m*3)) 47|_=>.nw (fun b=>.pointer (some ⟨b,0,none⟩)) #[.slice none 0 0,.slice none 0 0,.slice none 0 0,.slice none 0 0,.bool false,.int .i64 0] 30) 4 25 (fun e=>.agg #[.slice none 0 0,.slice none 0 0,e 22,e 24,.bool false,.int .i64 0]) [(1,22),(3,24)] (by kernel_rfl) (by kernel_rfl) (by kernel_rfl) (by kernel_rfl) (by kernel_rfl) (by kernel_rfl) (by kernel_rfl) (fun e e2 h=>by rw[h (1,22) (by simp),h (3,24) (by simp)]) (fun i o hi o3 ho=>?_) (fun o ho e w h=>?_) (Lf0 (by kernel_rfl)) (fun e9 w9 h9=>?_)
 ·match i,hi,o3,ho with
  |0,_,_,ho=>cases ho;exact fun e w hf hd=>m3 ((hf 7 (by kernel_rfl)).trans rfl)
  |1,_,_,ho=>cases ho;exact fun e w hf hd=>Dx0 (m:=p.m) (zv:=.int .i64 0) (hd 0 _ 21 _ (by decide) rfl rfl (by kernel_rfl) rfl) (hd 0 _ 21 _ (by decide) rfl rfl (by kernel_rfl) rfl) underlying23 in3 (by omega) (by omega)
  |2,_,_,ho=>cases ho;exact fun e w hf hd=>m3 ((hf 7 (by kernel_rfl)).trans rfl)
  |3,_,_,ho=>cases ho;exact fun e w hf hd=>Dx0 (m:=p.m) (zv:=.agg #[.int .i64 0,.int .i64 0,.int .i64 0]) (hd 2 _ 23 _ (by decide) rfl rfl (by kernel_rfl) rfl) (hd 2 _ 23 _ (by decide) rfl rfl (by kernel_rfl) rfl) underlying28 bf1 (by omega) (by omega)
  |5,_,_,ho=>cases ho;exact fun e w hf hd=>io0 (v:=.agg #[.slice none 0 0,.slice none 0 0,.slice none 0 0,.slice none 0 0,.bool false,.int .i64 0]) Bj0
  |4,_,o3,_=>exact absurd rfl o3
  |n+6,hi,_,_=>exact absurd hi (by omega)
 ·cases ho;obtain⟨b22,s22,_,_⟩:=h (1,22) (by simp);obtain⟨b24,s24,_,_⟩:=h (3,24) (by simp);show Does _ _ _ (.val (.agg #[.slice none 0 0,.slice none 0 0,e 22,e 24,.bool false,.int .i64 0])) _;rw[s22,s24];exact C3 (parts:=[(2,.tmp 22),(3,.tmp 24)]) (vs:=[(2,.slice (some ⟨b22,0,none⟩) p.m p.m),(3,.slice (some ⟨b24,0,none⟩) p.m p.m)]) (by show [(2,e 22),(3,e 24)]=_;rw[s22,s24]) ((Sc0 (some ⟨b22,0,none⟩) p.m p.m (some ⟨b24,0,none⟩) p.m p.m))
 ·have hwz:∀{b:Nat} {cs:Array Value} {T:TypeId},O0 w b cs T->b<w.heap.size:=fun h=>(K3 h).lt;obtain⟨b22,s22,ly0,Zf0⟩:=h9.slot 1 _ 22 (by decide) (by decide) rfl rfl rfl;obtain⟨b24,s24,oz0,Zg0⟩:=h9.slot 3 _ 24 (by decide) (by decide) rfl rfl rfl;obtain⟨b8,s8,hB8,lt8⟩:=h9.slot 5 _ 8 (by decide) (by decide) rfl rfl rfl;have ne8:b4≠b8:=by have h7:=hwz Y3;omega
  clear hwz;have Zf0:=Nat.le_trans hb.size Zf0;have Zg0:=Nat.le_trans hb.size Zg0;have lt8:=Nat.le_trans hb.size lt8;have hb:=P0 hb h9.hb;have Y3:=Y3.j0 h9.hb;have u6:=u6.j0 h9.hb;have s25:e9 25= .agg #[.slice none 0 0,.slice none 0 0,.slice (some ⟨b22,0,none⟩) p.m p.m,.slice (some ⟨b24,0,none⟩) p.m p.m,.bool false,.int .i64 0]:=by
   have h7:=(h9.evl rfl).1;rw[h7];show Value.agg #[_,_,e9 22,e9 24,_,_]=_;rw[s22,s24]
  have s0:e9 0= .slice ba p.m bc:=(h9.free 0 (by kernel_rfl)).trans rfl;have s1:e9 1= .slice sa sn scp:=(h9.free 1 (by kernel_rfl)).trans rfl;have s4:e9 4= .pointer (some ⟨b4,0,none⟩):=(h9.free 4 (by kernel_rfl)).trans rfl;have s5:e9 5= .slice none 0 0:=(h9.free 5 (by kernel_rfl)).trans rfl;have s6:e9 6= .p b6:=(h9.free 6 (by kernel_rfl)).trans rfl;have s7:e9 7= .int .i64 (p.m:Nat):=(h9.free 7 (by kernel_rfl)).trans rfl;rw[V0 s0,V0 s1,V0 s4,V0 s5,V0 s6,V0 s7,V0 s8,V0 s25];clear s0 s1 s4 s5 s6 s7 s8 s25 s22 s24 h9
  rename World=>w
  refine L.pa [.slice none 0 0,.slice none 0 0,.slice (some ⟨b22,0,none⟩) p.m p.m,.slice (some ⟨b24,0,none⟩) p.m p.m,.bool false,.int .i64 0] df0 hB8 (fun w Z0 hg I2=>?_);have Y3:=O0.other Y3 hg ne8;have u6:=O0.other u6 hg (O0.ne u6 hB8 (by decide));have ly0:=O0.other ly0 hg (O0.ne ly0 hB8 (by decide));have oz0:=O0.other oz0 hg (O0.ne oz0 hB8 (by decide));have hb:=D3 hb hb.size hg lt8;clear hB8;have hB8:=Z0;clear Z0 hg I2;refine U5 ?_;refine U89 ?_;refine L.make (m:=p.m) rfl rfl underlying31 be1 (z0:=.slice none 0 0) rfl (by decide) (by omega) (by omega) (fun w b27 F27=>?_);have mx1:=F27.lq hb.size;have hb:=P0 hb F27.below;have Y3:=Y3.j0 F27.below;have u6:=u6.j0 F27.below;have ly0:=ly0.j0 F27.below;have oz0:=oz0.j0 F27.below;have hB8:=hB8.j0 F27.below;have Gl0:=F27.blk;refine U204 ?_;refine U89 ?_;refine L.make (m:=p.m) rfl rfl underlying23 in3 (z0:=.int .i64 0) rfl (by decide) (by omega) (by omega) (fun w b29 F29=>?_);have et9:b22≠b29:=by have h9:=F29.here;have h8:=ly0.lt;omega
  have et1:=F29.lq hb.size;have hb:=P0 hb F29.below;have Y3:=Y3.j0 F29.below;have u6:=u6.j0 F29.below;have ly0:=ly0.j0 F29.below;have oz0:=oz0.j0 F29.below;have hB8:=hB8.j0 F29.below;have Gl0:=Gl0.j0 F29.below;have Fx0:=F29.blk;refine U310 ?_;refine L.alloc (cs:=stA ps0) Pf0 rfl (fun w b11 F11=>?_);have s69:b6≠b11:=by have h9:=F11.here;have h8:=u6.lt;omega
  have ft1:=F11.lq hb.size;have hb:=P0 hb F11.below;have Y3:=Y3.j0 F11.below;have u6:=u6.j0 F11.below;have ly0:=ly0.j0 F11.below;have oz0:=oz0.j0 F11.below;have hB8:=hB8.j0 F11.below;have Gl0:=Gl0.j0 F11.below;have Fx0:=Fx0.j0 F11.below;have rk0:=F11.blk;refine L.nil ?_;have hR:=No0 hb Gl0 hB8 ly0 oz0 Fx0 rk0 ⟨_,rfl,Y3⟩ ⟨_,n5 _,u6⟩ et9 ne8 s69 ⟨mx1,lt8,Zf0,Zg0,et1,ft1,lt4,lt6⟩;have hMQ:=Np0 (p:=p) (gb:=b27) (rb:=b8) (eb:=b22) (xb:=b24) (tb:=b29) (sb:=b11) (z4:=b4) (z6:=b6);obtain⟨B2,Z1⟩:∃B2,B2=w.heap.size:=⟨_,rfl⟩
  rw[<- Z1]at hR;clear Z1 Gl0 hB8 ly0 oz0 Fx0 rk0 Y3 u6;show W _ _ _ _ _ _;refine W.block ?_;refine W.loop (fun k e w=>∃(q:Nat),∃(M:My),k=sn-q/\e 0= .slice ba p.m bc/\e 1= .slice sa sn scp/\e 4= .p M.z4/\e 5= .slice none 0 0/\e 6= .p M.z6/\e 7= .int .i64 (p.m:Nat)/\e 8= .p M.rb/\e 9= .slice (some ⟨M.gb,0,none⟩) p.m (p.m)/\e 10= .slice (some ⟨M.tb,0,none⟩) p.m (p.m)/\e 11= .p M.sb/\q <=sn/\RY w0 B2 p.m w M/\MQ p ((L1 p).pn sc q) M/\M.used=q/\M.stuck=false) _ ⟨0,(my0 p.m b27 b8 b22 b24 b29 b11 b4 b6),rfl,rfl,rfl,rfl,rfl,rfl,rfl,rfl,rfl,rfl,rfl,Nat.zero_le _,hR,hMQ,rfl,rfl⟩ ?_;rintro k e w ⟨q,M,hk,s0,s1,s4,s5,s6,s7,s8,s9,s10,s11,hq,hR,hMQ,hus,T2⟩;rw[V0 s0,V0 s1,V0 s4,V0 s5,V0 s6,V0 s7,V0 s8,V0 s9,V0 s10,V0 s11];clear s0 s1 s4 s5 s6 s7 s8 s9 s10 s11;obtain⟨N,hN⟩:∃N,N=w.heap.size:=⟨_,rfl⟩
  have hlo:Ry0 N p.m M:=by rw[hN];exact hR.mv1
  have hBN:B2 <=N:=by rw[hN];exact hR.bs
  have hNw:NW N w:=⟨Nat.le_of_eq hN⟩
  clear hN;have hre:(L1 p).Reach ((L1 p).pn sc q):=.inr ⟨sc,q,rfl⟩;have my1:((L1 p).pn sc q).evs.length <=20000:=Nat.le_trans (Sys.nz0 sc q).1 (by omega);have hfl:((L1 p).pn sc q).ft.length=p.m:=Sys.b9 sc q;refine U230 ?_;refine U310 ?_;refine U11 ?_;refine U54 ?_;refine W.loop (fun k e w=>∃(j:Nat),∃(wv:Bool),∃(M:My),∃(n:Nat),∃(a:Option Addr),∃(cp:Nat),k=p.m-j/\e 0= .slice ba p.m bc/\e 1= .slice sa sn scp/\e 4= .p M.z4/\e 5= .slice none 0 0/\e 6= .p M.z6/\e 7= .int .i64 (p.m:Nat)/\e 8= .p M.rb/\e 9= .slice (some ⟨M.gb,0,none⟩) p.m (p.m)/\e 10= .slice (some ⟨M.tb,0,none⟩) p.m (p.m)/\e 11= .p M.sb/\e 12= .slice a n cp/\e 13= .bool wv/\e 14= .int .i64 (j:Nat)/\j <=p.m/\RY w0 B2 p.m w M/\MQ p ((L1 p).pn sc q) M/\M.used=q/\M.stuck=false/\Ry0 N p.m M/\Tld p ((L1 p).pn sc q) j M/\n=((List.range j).filter ((L1 p).B7 ((L1 p).pn sc q))).length/\Own w N 3 1 a n cp (((List.range j).filter ((L1 p).B7 ((L1 p).pn sc q))).map fun k=>.int .i64 ((k:Nat):Int))/\NW N w/\wv=oy0 ((L1 p).pn sc q).ft j) _ ⟨0,false,M,0,none,0,rfl,rfl,rfl,rfl,rfl,rfl,rfl,rfl,rfl,rfl,rfl,rfl,rfl,rfl,Nat.zero_le _,hR,hMQ,hus,T2,hlo,(fun x hx=>absurd hx (Nat.not_lt_zero _)),rfl,Own.nil _ _ _ _,hNw,rfl⟩ ?_;rintro k e w ⟨j,wv,M,n,a,cp,hk,s0,s1,s4,s5,s6,s7,s8,s9,s10,s11,s12,s13,s14,hj,hR,hMQ,hus,T2,hlo,hen,hn,hl,hNw,hwv⟩;rw[V0 s0,V0 s1,V0 s4,V0 s5,V0 s6,V0 s7,V0 s8,V0 s9,V0 s10,V0 s11,V0 s12,V0 s13,V0 s14];clear s0 s1 s4 s5 s6 s7 s8 s9 s10 s11 s12 s13 s14;refine U15 ?_;refine L.va (m3 rfl) ?_;refine U25 ?_;refine W.Q8 rfl (fun h32=>?_) (fun h32=>?_)
  ·have Y1:j<p.m:=by omega
   refine U189 ?_;refine W.seq ?_;refine W.seq ?_;have mz1:=hR.le;have Zh0:=hR.lw;obtain⟨k,hk⟩:∃k,(M.tl j).length=k:=⟨_,rfl⟩
   have hkq:(((L1 p).pn sc q).s.W1 j).length=k:=by rw[<- hMQ.tl];exact hk
   have qa1:=hbl j Y1;by_cases hkl:(((L1 p).pn sc q).s.W1 j).length<(p.bo j).length
   ·obtain⟨o,ho⟩:∃o,(p.bo j)[k]? =some o:=⟨_,List.getElem?_eq_getElem (by omega)⟩
    have hf:=gv1 hre hfl Y1 hkq ho;have hrd:=Zd0 hf ho;have he0:=hMQ.ez j Y1 hkl;have hok:=hp.ops j o (List.mem_of_getElem? ho);have hwt:oy0 ((L1 p).pn sc q).ft (j+1)=true:=Rz0 hf;refine U348 ?_;intro z7;refine U26 ?_;refine U239 ?_;refine U26 ?_;refine U569 ?_;refine D.va (fun w' C1=>(E1 (r:=false) (decide_eq_false (by omega)) (yh0 rfl rfl))) ?_;refine D.nil (fun w P1=>?_);refine U141 ?_;intro hR z7 hl hNw;clear P1;refine U376 ?_;refine U57 ?_;refine U2 ?_;refine U11 ?_;refine W.seq ?_;refine W.fl 14 [13] [0,1,2,3,4,5,6,7,8,9,10,11,12,13] (fun w'=>O0 w' M.rb #[.slice M.ea M.evs.length M.ec,.slice none 0 0,.slice (some ⟨M.eb,0,none⟩) p.m p.m,.slice (some ⟨M.xb,0,none⟩) p.m p.m,.bool M.stuck,.int .i64 (M.used:Int)] 30/\RY w0 B2 p.m w' M) (by kernel_rfl) (by kernel_rfl) (by kernel_rfl) (by kernel_rfl) (by kernel_rfl) (⟨z7.j0 (Below.refl w.heap.size w).drew,hR.j0 (Below.refl w.heap.size w).drew⟩) ?_;refine U184 ?_;intro L4 hR;have z7:=z7.j0 L4;have hl:=hl.j0 L4;have hNw:=hNw.j0 L4;clear L4;generalize w.drew=w at *;refine F.va rfl rfl (fun w' C1=>(G0 rfl underlying30 rfl Bi0 (by decide))) ?_;refine F.va rfl rfl (fun w' C1=>(A0 rfl underlying28 rfl (C1.1.E0 3 (v:=.slice (some ⟨M.xb,0,none⟩) p.m p.m) rfl))) ?_;refine F.va rfl rfl (fun w' C1=>(m3 rfl)) ?_;refine U168 ?_;refine F.va rfl rfl (fun w' C1=>(S3 (i:=j) rfl rfl underlying22 Bk0 hBo.sl Y1)) ?_;refine F.va rfl rfl (fun w' C1=>(A0 (v:=.slice (oa j) (p.bo j).length (oc j)) rfl underlying50 rfl (C5 (hBo.row j Y1) (RY.hb C1.2)))) ?_;refine U168 ?_;refine F.va rfl rfl (fun w' C1=>(S3 (i:=j) rfl rfl underlying23 z8 (fun _=>rfl) Y1)) ?_;refine F.va rfl rfl (fun w' C1=>(A0 (v:=.int .i64 (k:Nat)) rfl underlying3 rfl (jo0 (RY.hA C1.2) Y1 hk))) ?_;refine F.va rfl rfl (fun w' C1=>(S3 (i:=k) rfl rfl underlying50 w6 (hBo.ops j Y1).sl (List.getElem?_eq_some_iff.1 ho).1)) ?_;refine F.va rfl rfl (fun w' C1=>(j1 (cs:=re0 o) rfl underlying52 rfl w6 rfl (fun z v hq=>((hBo.j0 (RY.hb C1.2)).ops j Y1).cell k o ho z v hq))) ?_;refine U517 ?_;rintro _ w ⟨rfl,P1⟩;refine U141 ?_;intro hR z7 hl hNw;refine L.nil ⟨rfl,⟨z7,hR⟩,?_⟩;refine U6 ?_;refine L.va (S3 (i:=j) rfl rfl underlying28 dg0 (fun _=>rfl) Y1) ?_;refine L.yX (i:=j) (z:=stepOf o) hR Y1 rfl rfl dg0 (fun w hR2 hg=>?_);have hl:=hl.G5 hg (Own.Lh0 hl (K3 hR.hX) (by decide));have hNw:=hNw.grown hg;have hR:=hR2;refine U244 ?_;intro z7;refine U65 ?_;refine W.ej0 11 (fun w'=>Below w.heap.size w w') (by kernel_rfl) (by kernel_rfl) (by kernel_rfl) (by kernel_rfl) ((Below.refl w.heap.size w).drew) ?_;refine D.va (fun w' C1=>(bg0 (s:=M.s) rfl (RY.hS (M:=({M with W4:=M.W4.set j (stepOf o)}:My)) (hR.j0 C1)))) ?_;refine U26 ?_;refine U332 ?_;refine U26 ?_;refine U239 ?_;refine D.va (fun w' C1=>(S3 (i:=k) rfl rfl underlying50 w6 (hBo.ops j Y1).sl (List.getElem?_eq_some_iff.1 ho).1)) ?_;refine D.va (fun w' C1=>(j1 (cs:=re0 o) rfl underlying52 rfl w6 rfl (fun z v hq=>((hBo.j0 (RY.hb (hR.j0 C1))).ops j Y1).cell k o ho z v hq))) ?_;refine D.nil (fun w P1=>?_);refine U141 ?_;intro hR z7 hl hNw;clear P1;refine L.call (Q3 rfl rfl func40 rfl jp1 rfl) (Sb0 o M.s hok _) ?_;rintro _ w ⟨rfl,P1⟩;refine U141 ?_;intro hR z7 hl hNw;refine U5 ?_;refine W.cond rfl (fun h80=>?_) (fun h80=>?_)
    ·refine W.region rfl ?_;refine U28 ?_;refine L.fd0 (cs:=#[.int .i64 (j:Nat)]) rfl rfl underlying23 z8 rfl ⟨_,zr3⟩ (by decide) (fun w b83 F83=>?_);have qb1:=Nat.le_refl w.heap.size;have hR:=hR.j0 F83.below;have z7:=z7.j0 F83.below;have hl:=hl.j0 F83.below;have hNw:=hNw.j0 F83.below;have gx1:=F83.blk;have Nq0:(L1 p).B7 ((L1 p).pn sc q) j=true:=by rw[hrd,<- hMQ.s];exact h80
     have na1:n <=16:=by rw[hn];exact Nat.le_trans (Nk0 j) (by omega)
     refine L.cy0 (B:=N) (m:=1) rfl rfl underlying23 in3 rfl (by decide) hl (fun h=>by cases h) (news:=[.int .i64 (j:Int)]) rfl (fun ad had y u hj=>by
      cases had;rw[Addr.add_lit]
      match y,hj with
      |0,hj=>cases hj;exact gx1.E0 0 rfl) (fun u hu=>by simp only[List.mem_cons,List.not_mem_nil,or_false]at hu;subst hu;rfl) (by omega) (by omega) hNw.le (fun a84 c84 w2 hl2 hg2 cg0 _=>?_)
     have hR2:RY w0 B2 p.m w2 ({M with W4:=M.W4.set j (stepOf o)}:My):=hR.gt1 ⟨hlo.la,hlo.ea⟩ hBN cg0;have hNw:NW N w2:=⟨Nat.le_trans hNw.le cg0.size⟩
     clear hl hg2 cg0 z7 hR gx1;have hR:=hR2;clear hR2
     rename World=>w
     refine U198 ?_;refine U29 ?_;exact⟨_,by omega,⟨j+1,true,{M with W4:=M.W4.set j (stepOf o)},n+1,a84,c84,rfl,rfl,rfl,rfl,rfl,rfl,rfl,rfl,rfl,rfl,rfl,rfl,rfl,rfl,Y1,hR,⟨hMQ.s,hMQ.tl,hMQ.evs,hMQ.used,hMQ.ez⟩,hus,T2,⟨hlo.la,hlo.ea⟩,(Nn0 hen hf ho he0 (by rw[Zh0];exact Y1)),(by rw[El0 Nq0,List.length_append,hn];rfl),(by rw[El0 Nq0,List.map_append];exact hl2),hNw,hwt.symm⟩⟩
    ·have Nq0:(L1 p).B7 ((L1 p).pn sc q) j=false:=by rw[hrd,<- hMQ.s];exact h80
     refine U185 ?_;refine U29 ?_;exact⟨_,by omega,⟨j+1,true,{M with W4:=M.W4.set j (stepOf o)},n,a,cp,rfl,rfl,rfl,rfl,rfl,rfl,rfl,rfl,rfl,rfl,rfl,rfl,rfl,rfl,Y1,hR,⟨hMQ.s,hMQ.tl,hMQ.evs,hMQ.used,hMQ.ez⟩,hus,T2,⟨hlo.la,hlo.ea⟩,(Nn0 hen hf ho he0 (by rw[Zh0];exact Y1)),(by rw[xn0 Nq0];exact hn),(by rw[xn0 Nq0];exact hl),hNw,hwt.symm⟩⟩
   ·have hf:=Zc0 hre hfl Y1 hkl;have hwt:oy0 ((L1 p).pn sc q).ft (j+1)=oy0 ((L1 p).pn sc q).ft j:=Nl0 hf;refine U348 ?_;intro z7;refine U26 ?_;refine U239 ?_;refine U26 ?_;refine U569 ?_;refine D.va (fun w' C1=>(E1 (r:=true) (decide_eq_true (by omega)) (yh0 rfl rfl))) ?_;refine D.nil (fun w P1=>?_);refine U141 ?_;intro hR z7 hl hNw;clear P1;show W _ _ _ _ _ _;refine W.Q4 rfl ?_;refine U2 ?_;refine L.va (G0 rfl underlying30 rfl wj0 (by decide)) ?_;refine L.va (A0 rfl underlying23 rfl (z7.E0 2 (v:=.slice (some ⟨M.eb,0,none⟩) p.m p.m) rfl)) ?_;refine L.va (m3 rfl) ?_;refine L.va (S3 (i:=j) rfl rfl underlying23 z8 (fun _=>rfl) Y1) ?_;refine L.yE (i:=j) (z:=1) hR Y1 rfl rfl z8 (fun w hR2 hg=>?_);have hl:=hl.G5 hg (fun ha=>by obtain⟨_,_,hle,_⟩:=hl.row ha;have h7:=hR.lo.2.2.1;show ab a≠M.eb;have h7:M.eb<B2:=h7;omega);have hNw:=hNw.grown hg;have hR:=hR2;refine U244 ?_;intro z7;refine U13 ?_;refine L.va (G0 rfl underlying30 rfl Bi0 (by decide)) ?_;refine L.va (A0 rfl underlying28 rfl (z7.E0 3 (v:=.slice (some ⟨M.xb,0,none⟩) p.m p.m) rfl)) ?_;refine L.va (m3 rfl) ?_;refine L.va (C3 (parts:=[]) rfl Sd0) ?_;refine L.va (S3 (i:=j) rfl rfl underlying28 dg0 (fun _=>rfl) Y1) ?_;refine L.yX (i:=j) (z:=sp0) hR Y1 rfl rfl dg0 (fun w hR2 hg=>?_);have hl:=hl.G5 hg (Own.Lh0 hl (K3 hR.hX) (by decide));have hNw:=hNw.grown hg;have hR:=hR2;refine U244 ?_;intro z7;refine U5 ?_;refine W.exit ?_;refine U90 ?_;refine W.region rfl ?_;refine U29 ?_;exact⟨_,by omega,⟨j+1,wv,{M with ends:=M.ends.set j 1,W4:=M.W4.set j sp0},n,a,cp,rfl,rfl,rfl,rfl,rfl,rfl,rfl,rfl,rfl,rfl,rfl,rfl,rfl,rfl,Y1,hR,⟨hMQ.s,hMQ.tl,hMQ.evs,hMQ.used,fun x hx hz=>(jr0 _ (fun e=>hkl (by rw[<- e];exact hz))).trans (hMQ.ez x hx hz)⟩,hus,T2,⟨hlo.la,hlo.ea⟩,(Sa0 hen hf (by rw[mz1];exact Y1) (by rw[Zh0];exact Y1)),(by rw[xn0 (Ek0 hf)];exact hn),(by rw[xn0 (Ek0 hf)];exact hl),hNw,(by rw[hwt];exact hwv)⟩⟩
  ·refine W.exit ?_;refine U90 ?_;refine W.seq ?_;refine W.seq ?_;have hjm:j=p.m:=by omega
   have z7:O0 w M.rb #[.slice M.ea M.evs.length M.ec,.slice none 0 0,.slice (some ⟨M.eb,0,none⟩) p.m p.m,.slice (some ⟨M.xb,0,none⟩) p.m p.m,.bool M.stuck,.int .i64 (M.used:Int)] 30:=hR.hR;refine W.region rfl ?_;refine U87 ?_;refine U370 ?_;refine L.fc0 6 [88,89,90,91,92,93,94] 94 (.bool (decide (n=0\/M.used=sn))) (tj:=88) rfl (fun Zi0=>?_) (fun Zi0=>?_) (fun f=>?_)
   ·refine L.off rfl ?_;refine U70 ?_;refine U83 ?_;refine⟨rfl,congrArg Value.bool ((decide_eq_true (.inl (by have:=of_decide_eq_true Zi0;omega))).symm),?_⟩;exact S0.upd rfl (S0.upd rfl (S0.upd rfl (S0.upd rfl (S0.upd rfl (S0.upd rfl (S0.upd rfl (S0.refl _ _)))))))
   ·refine L.on rfl ?_;refine U279 ?_;refine L.va (A0 rfl underlying3 rfl (z7.E0 5 (v:=.int .i64 (M.used:Int)) rfl)) ?_;refine L.on rfl ?_;refine U304 ?_;refine U547 ?_;refine⟨rfl,congrArg Value.bool (by rw[decide_eq_decide];have:=of_decide_eq_false Zi0;constructor <;> intro h <;> omega),?_⟩;exact S0.upd rfl (S0.upd rfl (S0.upd rfl (S0.upd rfl (S0.upd rfl (S0.upd rfl (S0.upd rfl (S0.refl _ _)))))))
   refine U5 ?_;refine W.Q8 rfl (fun h94=>?_) (fun h94=>?_)
   ·have bk0:n=0\/M.used=sn:=h94;refine U2 ?_;refine L.va (y9 rfl) ?_;refine L.va (y9 rfl) ?_;refine L.fc0 4 [96,97,98,99,100] 100 (.bool (wv&&decide (n=0))) (tj:=96) rfl (fun Zj0=>?_) (fun Zj0=>?_) (fun f=>?_)
    ·refine L.on rfl ?_;refine U304 ?_;refine U116 ?_;refine U83 ?_;refine⟨rfl,congrArg Value.bool (by rw[Zj0];show decide _=decide _;rw[decide_eq_decide];constructor <;> intro h <;> omega),?_⟩;exact S0.upd rfl (S0.upd rfl (S0.upd rfl (S0.upd rfl (S0.upd rfl (S0.refl _ _)))))
    ·refine L.off rfl ?_;refine U218 ?_;refine⟨rfl,congrArg Value.bool (by rw[Zj0];rfl),?_⟩;exact S0.upd rfl (S0.upd rfl (S0.upd rfl (S0.upd rfl (S0.upd rfl (S0.refl _ _)))))
    refine L.va (G0 rfl underlying30 rfl sz4 (by decide)) ?_;refine L.yK (z:=(wv&&decide (n=0))) hR rfl rfl sz4 (fun w hR2 hg=>?_);have hR:=hR2;clear hR2 hg z7;have z7:O0 w M.rb #[.slice M.ea M.evs.length M.ec,.slice none 0 0,.slice (some ⟨M.eb,0,none⟩) p.m p.m,.slice (some ⟨M.xb,0,none⟩) p.m p.m,.bool (wv&&decide (n=0)),.int .i64 (M.used:Int)] 30:=hR.hR;refine U65 ?_;refine W.fl 5 [3] [0,1,2,3,4] (fun w'=>O0 w' M.rb #[.slice M.ea M.evs.length M.ec,.slice none 0 0,.slice (some ⟨M.eb,0,none⟩) p.m p.m,.slice (some ⟨M.xb,0,none⟩) p.m p.m,.bool (wv&&decide (n=0)),.int .i64 (M.used:Int)] 30/\RY w0 B2 p.m w' ({M with stuck:=(wv&&decide (n=0))}:My)) (by kernel_rfl) (by kernel_rfl) (by kernel_rfl) (by kernel_rfl) (by kernel_rfl) (⟨z7.j0 (Below.refl w.heap.size w).drew,hR.j0 (Below.refl w.heap.size w).drew⟩) ?_;refine U184 ?_;intro L4 hR;have z7:=z7.j0 L4;clear L4;generalize w.drew=w at *;refine F.va rfl rfl (fun w' C1=>(j1 (cs:=[.slice M.ea M.evs.length M.ec,.slice none 0 0,.slice (some ⟨M.eb,0,none⟩) p.m p.m,.slice (some ⟨M.xb,0,none⟩) p.m p.m,.bool (wv&&decide (n=0)),.int .i64 (M.used:Int)]) rfl underlying30 rfl df0 rfl (C1.1.J4 rfl))) ?_;refine F.va rfl rfl (fun w' C1=>(I7 rfl)) ?_;refine F.va rfl rfl (fun w' C1=>(bg0 (s:=M.s) rfl (RY.hS (M:=({M with stuck:=(wv&&decide (n=0))}:My)) C1.2))) ?_;refine F.doo rfl rfl ?_;obtain⟨cs4,hc4,h49⟩:=hR.h4;have gy1:=hR.r4;refine L.storeAll (vs:=[.slice M.ea M.evs.length M.ec,.slice none 0 0,.slice (some ⟨M.eb,0,none⟩) p.m p.m,.slice (some ⟨M.xb,0,none⟩) p.m p.m,.bool (wv&&decide (n=0)),.int .i64 (M.used:Int)]) (s:=6) rfl rfl rfl df0 rfl hc4 (by intro u hu;simp only[List.mem_cons,List.not_mem_nil,or_false]at hu;rcases hu with rfl|rfl|rfl|rfl|rfl|rfl <;> rfl) h49 (fun w Z0 hg I2=>?_);have hR:=hR.mt1 rfl Z0 hg;have z7:=O0.other z7 hg gy1.symm;have Y3:O0 w M.z4 #[.slice M.ea M.evs.length M.ec,.slice none 0 0,.slice (some ⟨M.eb,0,none⟩) p.m p.m,.slice (some ⟨M.xb,0,none⟩) p.m p.m,.bool (wv&&decide (n=0)),.int .i64 (M.used:Int)] 30:=Z0;clear Z0 hg I2 h49 hc4 gy1;refine L.nil ⟨rfl,⟨z7,hR⟩,?_⟩;refine U591 ?_;have h69:=hR.h6;refine L.y6 (s':=M.s) hR rfl rfl (fun w hR2 Z0 hg=>?_);obtain⟨cs6,hc6,h69⟩:=h69;have Y3:=O0.other Y3 hg (O0.ne Y3 h69 (by decide));have hR:=hR2;have u6:O0 w M.z6 (stA M.s) 40:=Z0;clear hR2 Z0 hg h69 hc6;refine U5 ?_;refine U160 ?_;refine ends.Ah0 (cs:=#[.slice M.ea M.evs.length M.ec,.slice none 0 0,.slice (some ⟨M.eb,0,none⟩) p.m p.m,.slice (some ⟨M.xb,0,none⟩) p.m p.m,.bool (wv&&decide (n=0)),.int .i64 (M.used:Int)]) (ds:=stA M.s) (.inr rfl) rfl rfl rfl underlying30 rfl df0 underlying40 rfl (by rw[n5];exact Jb0) Y3 u6 ?_;rw[hjm]at hn hen;have hrl:((L1 p).rds ((L1 p).pn sc q)).length=n:=hn.symm;have hPn:(L1 p).pn sc q=(L1 p).pn sc sn:=by
     rcases bk0 with h0|h0
     ·obtain⟨d9,hd9⟩:∃d9,sn=q+d9:=⟨sn-q,by omega⟩
      rw[hd9];exact(Sys.oa0 (List.length_eq_zero_iff.1 (hrl.trans h0)) d9).symm
     ·rw[show q=sn by omega]
    have hse:(wv&&decide (n=0))=(((L1 p).pn sc q).ft.any (·.isLeft)&&((L1 p).rds ((L1 p).pn sc q)).isEmpty):=by
     rw[hwv,<- Nm0 hfl,<- hjm];congr 1;cases hz9:(L1 p).rds ((L1 p).pn sc q)with
     |nil=>rw[hz9]at hrl;exact decide_eq_true hrl.symm
     |cons x l=>rw[hz9]at hrl;exact decide_eq_false (by intro h9;rw[h9]at hrl;cases hrl)
    obtain⟨M9,hM9⟩:∃M9:My,M9={M with stuck:=(wv&&decide (n=0))}:=⟨_,rfl⟩
    have hR9:RY w0 B2 p.m w M9:=by rw[hM9];exact hR
    have Sg0:MQ p ((L1 p).pn sc q) M9:=by rw[hM9];exact⟨hMQ.s,hMQ.tl,hMQ.evs,hMQ.used,hMQ.ez⟩
    have gz1:Tld p ((L1 p).pn sc q) p.m M9:=by rw[hM9];exact hen
    rw[hPn]at Sg0 gz1 hse;exact⟨M9,B2,by rw[hM9];rfl,hR9,Sg0,gz1,by rw[hM9];exact hse⟩
   ·rw[hjm]at hn hl hen;have hn0:0<n:=by omega
    have hqs:q<sn:=by omega
    have o3:(L1 p).rds ((L1 p).pn sc q)≠[]:=List.length_pos_iff.1 (by show 0<(((List.range p.m).filter ((L1 p).B7 ((L1 p).pn sc q)))).length;rw[<- hn];exact hn0);obtain⟨i,k,hfi,hpi,A3⟩:=Ai0 (e:=sc q) o3;have hpi:(((List.range p.m).filter ((L1 p).B7 ((L1 p).pn sc q))))[C7 (sc q) n]? =some i:=by rw[hn];exact hpi
    have him:i<p.m:=by have:=(List.getElem?_eq_some_iff.1 hfi).1;omega
    obtain⟨hkq,hkl⟩:=(eg0 _ hre).o5 i k hfi;obtain⟨o,ho⟩:∃o,(p.bo i)[k]? =some o:=⟨_,List.getElem?_eq_getElem hkl⟩
    have hok:=hp.ops i o (List.mem_of_getElem? ho);have hk:(M.tl i).length=k:=by rw[hMQ.tl];exact hkq
    have qc1:=Ze0 (sc q) hn0;have na1:n <=16:=by rw[hn];exact Nat.le_trans (Nk0 _) hm
    have nt1:M.used <=20000:=by omega
    have qd1:M.evs.length <=20000:=by rw[hMQ.evs];exact my1
    have qe1:=hbl i him;have nb1:∀n,0 <=M.s.u4 n/\M.s.u4 n <=1000000:=by
     obtain⟨st,hT⟩:=Gf0 ((L1 p).pn sc q) hre;intro n;have h8:=hT.rd (by omega) _ (Nat.le_refl _) n;rw[hT.s1,<- hMQ.s]at h8;exact⟨h8.1,by omega⟩
    refine U57 ?_;refine U2 ?_;refine L.va (I7 rfl) ?_;refine U415 ?_;refine L.va (S3 (i:=M.used) rfl rfl underlying23 z8 hSc.sl (by omega)) ?_;refine L.va (A0 (v:=.int .i64 (sc q)) rfl underlying3 rfl (by rw[hus];exact C5 (hSc.cell q hqs) (RY.hb hR))) ?_;refine U7 ?_;refine U28 ?_;refine U87 ?_;refine L.va (lc0 (κ:=.i64) (m:=sc q) (k:=(n:Int)) rfl rfl (by omega)) ?_;refine U87 ?_;refine L.va (ey0 (m:=(sc q).tmod (n:Int)) (k:=(n:Int)) rfl rfl (by omega)) ?_;refine U87 ?_;refine L.va (v:=.int .i64 ((C7 (sc q) n:Nat):Int)) (by rw[<- dp1 (sc q) (n:=n) hn0];exact lc0 rfl rfl (by omega)) ?_;refine L.va (S3 (i:=C7 (sc q) n) rfl rfl underlying23 z8 hl.sl (kh0 _ hn0)) ?_;refine L.va (A0 (v:=.int .i64 (i:Int)) rfl underlying3 rfl (by rw[hl.off,Nat.zero_add,Nat.mul_one];exact hl.cell (by rw[List.getElem?_map,hpi];rfl))) ?_;refine U7 ?_;refine U415 ?_;refine L.va (nb0 rfl rfl (by omega)) ?_;refine L.va (G0 rfl underlying30 rfl z8 (by decide)) ?_;refine L.yU (z:=M.used+1) hR rfl rfl z8 (fun w hR2 hg=>?_);have hR:=hR2;clear hR2 hg z7 hl;have z7:O0 w M.rb #[.slice M.ea M.evs.length M.ec,.slice none 0 0,.slice (some ⟨M.eb,0,none⟩) p.m p.m,.slice (some ⟨M.xb,0,none⟩) p.m p.m,.bool M.stuck,.int .i64 ((M.used+1:Nat):Int)] 30:=hR.hR;refine U65 ?_;refine W.fl 11 [10] [0,1,2,3,4,5,6,7,8,9,10] (fun w'=>RY w0 B2 p.m w' ({M with used:=M.used+1}:My)) (by kernel_rfl) (by kernel_rfl) (by kernel_rfl) (by kernel_rfl) (by kernel_rfl) (hR.j0 (Below.refl w.heap.size w).drew) ?_;refine U184 ?_;intro L4 hR;have z7:=z7.j0 L4;clear L4;generalize w.drew=w at *;refine U168 ?_;refine F.va rfl rfl (fun w' C1=>(S3 (i:=i) rfl rfl underlying22 Bk0 hBo.sl him)) ?_;refine F.va rfl rfl (fun w' C1=>(A0 (v:=.slice (oa i) (p.bo i).length (oc i)) rfl underlying50 rfl (C5 (hBo.row i him) (RY.hb C1)))) ?_;refine U168 ?_;refine F.va rfl rfl (fun w' C1=>(S3 (i:=i) rfl rfl underlying23 z8 (fun _=>rfl) him)) ?_;refine F.va rfl rfl (fun w' C1=>(A0 (v:=.int .i64 (k:Nat)) rfl underlying3 rfl (jo0 (RY.hA C1) him hk))) ?_;refine F.va rfl rfl (fun w' C1=>(S3 (i:=k) rfl rfl underlying50 w6 (hBo.ops i him).sl (List.getElem?_eq_some_iff.1 ho).1)) ?_;refine F.va rfl rfl (fun w' C1=>(j1 (cs:=re0 o) rfl underlying52 rfl w6 rfl (fun z v hq=>((hBo.j0 (RY.hb C1)).ops i him).cell k o ho z v hq))) ?_;refine F.doo rfl rfl ?_;have hd1:=hR;have Uk0:=z7;refine L.alloc (cs:=#[.int .i64 0,.int .i64 0,.int .i64 0,.int .i64 0]) bj1 rfl (fun w b17 F17=>?_);have qf1:=Nat.le_refl w.heap.size;have hR:=hR.j0 F17.below;have do0:=F17.blk;refine L.nil ⟨rfl,hR,?_⟩;refine U6 ?_;refine L.pa [.int .i64 o.I3,.int .i64 o.J9,.int .i64 o.call,.int .i64 o.val] w6 do0 (fun w Z0 hg I2=>?_);have j8:=D3 F17.below F17.below.size hg (by have:=F17.here;omega);have hR:=hd1.j0 j8;have z7:=Uk0.j0 j8;have do0:=Z0;clear Z0 hg I2 j8 F17 hd1 Uk0;refine U65 ?_;refine W.fl 7 [4,6] [0,1,2,3,4,5,6] (fun w'=>O0 w' M.rb #[.slice M.ea M.evs.length M.ec,.slice none 0 0,.slice (some ⟨M.eb,0,none⟩) p.m p.m,.slice (some ⟨M.xb,0,none⟩) p.m p.m,.bool M.stuck,.int .i64 ((M.used+1:Nat):Int)] 30/\O0 w' b17 #[.int .i64 o.I3,.int .i64 o.J9,.int .i64 o.call,.int .i64 o.val] 52) (by kernel_rfl) (by kernel_rfl) (by kernel_rfl) (by kernel_rfl) (by kernel_rfl) (⟨z7.j0 (Below.refl w.heap.size w).drew,do0.j0 (Below.refl w.heap.size w).drew⟩) ?_;refine U184 ?_;intro L4 hR;have z7:=z7.j0 L4;have do0:=do0.j0 L4;clear L4;generalize w.drew=w at *;refine F.va rfl rfl (fun w' C1=>(G0 rfl underlying30 rfl nq0 (by decide))) ?_;refine F.va rfl rfl (fun w' C1=>(A0 rfl underlying26 rfl (C1.1.E0 0 (v:=.slice M.ea M.evs.length M.ec) rfl))) ?_;refine F.va rfl rfl (fun w' C1=>(m3 rfl)) ?_;refine F.va rfl rfl (fun w' C1=>(j1 (cs:=[.int .i64 o.I3,.int .i64 o.J9,.int .i64 o.call,.int .i64 o.val]) rfl underlying52 rfl w6 rfl (C1.2.J4 rfl))) ?_;refine U517 ?_;rintro _ w ⟨rfl,P1⟩;refine U291 ?_;intro hR z7;have do0:=do0.j0 P1;refine L.nil ⟨rfl,⟨z7,do0⟩,?_⟩;refine F.va rfl rfl (fun w' C1=>(C3 (parts:=[(0,.tmp 139),(1,.tmp 141)]) rfl (Se0 (i:Nat) o.call o.I3 (Q0 o:Nat)))) ?_;refine F.doo rfl rfl ?_;refine L.fd0 (cs:=#[.int .i64 (i:Nat),.int .i64 o.call,.int .i64 o.I3,.int .i64 (Q0 o:Nat)]) rfl rfl underlying26 yw0 rfl ⟨_,bg1⟩ (by decide) (fun w qg1 Sh0=>?_);have nu1:=Nat.le_refl w.heap.size;have hR:=hR.j0 Sh0.below;have z7:=z7.j0 Sh0.below;have do0:=do0.j0 Sh0.below;have Aj0:=Sh0.blk;refine L.nil ⟨rfl,⟨z7,do0⟩,?_⟩;refine U6 ?_;refine L.iy0 (B:=B2) (m:=1) rfl rfl underlying26 bh1 rfl (by decide) hR.hV (news:=[.int .i64 (i:Int),.int .i64 o.call,.int .i64 o.I3,.int .i64 ((Q0 o:Nat):Int)]) rfl (fun y u hy=>?_) (fun u hu=>by simp at hu;rcases hu with rfl|rfl|rfl|rfl <;> rfl) (by show M.evs.length+1 <=_;omega) (by show(M.evs.length+1)*_ <=_;omega) hR.bs (fun Gm0 Gn0 w2 hO hga _=>?_)
    ·rw[Addr.add_lit]
     match y,hy with
     |0,hy=>cases hy;exact Aj0.E0 0 rfl
     |1,hy=>cases hy;exact Aj0.E0 1 rfl
     |2,hy=>cases hy;exact Aj0.E0 2 rfl
     |3,hy=>cases hy;exact Aj0.E0 3 rfl
    have z7:=O0.app z7 hR.hV hga (by decide);have do0:=O0.app do0 hR.hV hga (by decide);refine L.va (G0 rfl underlying30 rfl nq0 (by decide)) ?_;refine L.yEv hR (i,stepOf o) hga hO rfl rfl nq0 (fun w hR2 hg=>?_);have hR:=hR2;have do0:=O0.other do0 hg (O0.ne do0 z7 (by decide));clear hR2 hg hga hO z7 Aj0;have z7:O0 w M.rb #[.slice Gm0 ((M.evs ++ [(i,stepOf o)]).length) Gn0,.slice none 0 0,.slice (some ⟨M.eb,0,none⟩) p.m p.m,.slice (some ⟨M.xb,0,none⟩) p.m p.m,.bool M.stuck,.int .i64 ((M.used+1:Nat):Int)] 30:=hR.hR;refine U13 ?_;refine U7 ?_;refine L.va (bg0 (s:=M.s) rfl (RY.hS (M:=({M with used:=M.used+1,ea:=Gm0,ec:=Gn0,evs:=M.evs ++ [(i,stepOf o)]}:My)) hR)) ?_;refine L.va (j1 (cs:=[.int .i64 o.I3,.int .i64 o.J9,.int .i64 o.call,.int .i64 o.val]) rfl underlying52 rfl w6 rfl (do0.J4 rfl)) ?_;refine L.call (Q3 rfl rfl func38 rfl jn1 rfl) (mw1 o M.s hok nb1 _) ?_;rintro _ w ⟨rfl,P1⟩;refine U291 ?_;intro hR z7;have do0:=do0.j0 P1;clear P1;refine U286 ?_;refine L.yS (s':=(Z5 o M.s).1) hR (K9 o M.s) rfl rfl (fun w hR2 hg=>?_);have hR:=hR2;clear hR2 hg z7 do0;have z7:O0 w M.rb #[.slice Gm0 ((M.evs ++ [(i,stepOf o)]).length) Gn0,.slice none 0 0,.slice (some ⟨M.eb,0,none⟩) p.m p.m,.slice (some ⟨M.xb,0,none⟩) p.m p.m,.bool M.stuck,.int .i64 ((M.used+1:Nat):Int)] 30:=hR.hR;refine U7 ?_;refine U28 ?_;refine U28 ?_;refine L.va (S3 (i:=i) rfl rfl underlying31 yv0 (fun _=>rfl) him) ?_;refine L.va (A0 (v:=.slice (M.la i) ((Z5 o M.s).1.W1 i).length (M.lc i)) rfl underlying45 rfl (RY.gs1 hR him)) ?_;refine L.va (m3 rfl) ?_;refine L.fd0 (cs:=#[.int .i64 ((Z5 o M.s).2)]) rfl rfl underlying45 sz2 rfl ⟨_,zr2⟩ (by decide) (fun w qh1 Zk0=>?_);have nv1:=Nat.le_refl w.heap.size;have hR:=hR.j0 Zk0.below;have z7:=z7.j0 Zk0.below;have Ul0:=Zk0.blk;have qi1:((Z5 o M.s).1.W1 i).length=k:=by rw[K9,hMQ.s];exact hkq
    refine L.iy0 (B:=B2) (m:=1) rfl rfl underlying45 in2 rfl (by decide) (hR.hL i him) (news:=[.int .i64 (Z5 o M.s).2]) rfl (fun y u hy=>?_) (fun u hu=>by simp at hu;subst hu;rfl) (by show((Z5 o M.s).1.W1 i).length+1 <=_;omega) (by show(((Z5 o M.s).1.W1 i).length+1)*_ <=_;omega) hR.bs (fun he1 hf1 w2 hO hga hwh=>?_)
    ·rw[Addr.add_lit]
     match y,hy with
     |0,hy=>cases hy;exact Ul0.E0 0 rfl
    refine L.va (S3 (i:=i) rfl rfl underlying31 yv0 (fun _=>rfl) him) ?_;refine L.yG hR him (Z5 o M.s).2 hga hwh hO rfl rfl yv0 (fun w hR2 hg=>?_);have hR:RY w0 B2 p.m w ({M with used:=M.used+1,ea:=Gm0,ec:=Gn0,evs:=M.evs ++ [(i,stepOf o)],la:=D7 M.la i he1,lc:=D7 M.lc i hf1,s:=J5 i (Z5 o M.s)}:My):=hR2;clear hR2 hg hga hO hwh z7 Ul0;have z7:O0 w M.rb #[.slice Gm0 ((M.evs ++ [(i,stepOf o)]).length) Gn0,.slice none 0 0,.slice (some ⟨M.eb,0,none⟩) p.m p.m,.slice (some ⟨M.xb,0,none⟩) p.m p.m,.bool M.stuck,.int .i64 ((M.used+1:Nat):Int)] 30:=hR.hR;refine U49 ?_;refine U28 ?_;refine L.va (S3 (i:=i) rfl rfl underlying23 z8 (fun _=>rfl) him) ?_;refine L.va (A0 (v:=.int .i64 (k:Nat)) rfl underlying3 rfl (jo0 (RY.hA hR) him hk)) ?_;refine L.va (ey0 rfl rfl (by omega)) ?_;refine L.va (S3 (i:=i) rfl rfl underlying23 z8 (fun _=>rfl) him) ?_;refine L.yA (i:=i) (tl:=(J5 i (Z5 o M.s)).W1) hR him (fun d=>by show((J5 i (Z5 o M.s)).W1 d).length=if d=i then(M.tl i).length+1 else(M.tl d).length;rw[gz0,K9,hMQ.tl,hMQ.s];split <;> simp) rfl (by show(Value.int .i64 ((k:Int)+1))= .int .i64 (((M.tl i).length:Nat)+1:Int);rw[hk]) z8 (fun w hR2 hg=>?_);obtain⟨M9,hM9⟩:∃M9,M9=({M with used:=M.used+1,ea:=Gm0,ec:=Gn0,evs:=M.evs ++ [(i,stepOf o)],la:=D7 M.la i he1,lc:=D7 M.lc i hf1,tl:=(J5 i (Z5 o M.s)).W1,s:=J5 i (Z5 o M.s)}:My):=⟨_,rfl⟩
    have hR9:RY w0 B2 p.m w M9:=by rw[hM9];exact hR2
    have Sg0:MQ p ((L1 p).pn sc (q+1)) M9:=by
     show MQ p ((L1 p).step ((L1 p).pn sc q) (sc q)) M9;rw[A3,hM9];exact hMQ.v5 hfi ho hkq (by show J5 i (Z5 o M.s)=_;rw[hMQ.s]) (by show(J5 i (Z5 o M.s)).W1=_;rw[hMQ.s]) (by show M.evs++_=_;rw[hMQ.evs]) (by show M.used+1=_;rw[hMQ.used]) rfl
    have nc1:M9.used=q+1:=by rw[hM9];show M.used+1=q+1;rw[hus]
    have nd1:M9.stuck=false:=by rw[hM9];exact T2
    have g0:M9.z4=M.z4:=by rw[hM9]
    have g1:M9.z6=M.z6:=by rw[hM9]
    have g2:M9.rb=M.rb:=by rw[hM9]
    have g3:M9.sb=M.sb:=by rw[hM9]
    have g4:M9.gb=M.gb:=by rw[hM9]
    have g5:M9.tb=M.tb:=by rw[hM9]
    rw[<- g0,<- g1,<- g2,<- g3,<- g4,<- g5];clear hR hR2 hg z7 hM9;refine U318 ?_;refine T.nrm ?_;exact⟨_,by omega,⟨q+1,M9,rfl,rfl,rfl,rfl,rfl,rfl,rfl,rfl,rfl,rfl,rfl,hqs,hR9,Sg0,nc1,nd1⟩⟩
end
end Go.Vy.Sc
end
section
namespace Go.Vy
open Go Go.Conc Go.Yc Go.RowKit
open Go.Vc
section
variable {P:Program}
theorem xo0 {t:TypeId} {fs:Array Field} {s off:Nat} {cs:Array Value} (hT:P.underlying t=some (.struct fs)) (hs:(P.info? t).map (·.size)=some s) (w:World):(part t cs off).run P w= .ok (.agg (cs.extract off (off+s))) w:=by
 have h0:g7 (.struct fs)=false:=rfl;simp[part,Go.Vc.W8 hT,Go.Vc.run_sizeOf hs,h0]
theorem xp0 {d:Nat} {xs:Array Value} (w:World):(Op.eqFields d xs xs []).run P w= .ok true w:=rfl
theorem N8 {d:Nat} {xs:Array Value} {f:Field} {fs:List Field} {v:Value} (hn:f.name≠ "_") (hp:∀w,(part f.type xs f.offset).run P w= .ok v w) (he:∀w,(Op.equalIn d f.type v v).run P w= .ok true w) (hr:∀w,(Op.eqFields d xs xs fs).run P w= .ok true w) (w:World):(Op.eqFields d xs xs (f::fs)).run P w= .ok true w:=by
 simp[Op.eqFields,hn,hp,he,hr]
theorem eq_int {d:Nat} {t:TypeId} {κ κ':IntKind} {a:Int} (h:P.underlying t=some (.int κ')) (w:World):(Op.equalIn (d+1) t (.int κ a) (.int κ a)).run P w= .ok true w:=by
 rw[run_equalIn_int w d t κ κ' a a h];simp
theorem Zl0 {d:Nat} {t:TypeId} {a:ByteArray} (h:P.underlying t=some .string) (w:World):(Op.equalIn (d+1) t (.string a) (.string a)).run P w= .ok true w:=by
 rw[run_equalIn_string w d t a a h];simp
theorem ku0 {d:Nat} {t:TypeId} {xs:Array Value} {fs:Array Field} (ht:P.underlying t=some (.struct fs)) (hp:P.stoodInHeld t=false) (h:∀w,(Op.eqFields d xs xs fs.toList).run P w= .ok true w) (w:World):(Op.equalIn (d+1) t (.agg xs) (.agg xs)).run P w= .ok true w:=by
 have hf:P.fieldsOf t=fs:=by unfold Program.fieldsOf;rw[ht]
 rw[run_equalIn_struct w d t xs xs (by rw[hf];exact ht) hp,hf];exact h w
end
section
variable {P:Program}{ρ:Operand->Value}{w:World}{d:Option Nat}{ty:TypeId}{ps:String}{af:Array Edge}{g:Option (Nat×Bool)}{x y:Operand}{T T':TypeId}
theorem kv0 {cs:Array Value} (hx:ρ x= .agg cs) (hy:ρ y= .agg cs) (he:∀w,(Op.equalIn (9999+1) T (.agg cs) (.agg cs)).run P w= .ok true w) (hg:P.eqGuardType P.depth T=false) (hb:∀c∈cs,X7 c=true) :
  Does P (execOp ρ ⟨d,.binOp .neq T x y T',ty,ps,af,g⟩) w (.val (.bool false)) w :=
 .B1 (If0 hg hb hx hy) rfl rfl fun τ d=>by
  simp only[execOp,hx,hy,Sem.run_bind,run_eqGuard_agg (P:=P) (w:=N2 w τ d) .neq T x y _ _ hg,Result.andThen_ok,run_neq_struct];rw[he];rfl
theorem rx0 {a:Bool} (hx:ρ x= .bool a) (hy:ρ y= .bool a) (hT:P.underlying T=some .bool):Does P (execOp ρ ⟨d,.binOp .neq T x y T',ty,ps,af,g⟩) w (.val (.bool false)) w:=by
 have h1:∀w:World,(binOp .neq T (.bool a) (.bool a)).run P w= .ok (.bool false) w:=fun w=>by
  have h2:=run_equal_bool (P:=P) w T a a hT;simp[binOp,h2]
 have h3:D1 P (binOp .neq T (.bool a) (.bool a)):=mf0 (am0 (n:=9999) rfl) rfl;refine .B1 (dz0 hx hy (fv0 (fun _ h=>by cases h) (fun h=>by cases h)) h3) rfl rfl fun τ d=>?_;have h2:∀w:World,(eqGuard .neq T x y (.bool a) (.bool a)).run P w= .ok () w:=fun w=>by simp[eqGuard]
 simp only[execOp,hx,hy,Sem.run_bind,h2,h1,Result.andThen_ok];rfl
end
end Go.Vy
end
section
namespace Go.Vy.Sc
open Go Go.Conc Go.Yc Go.RowKit Go.Proofs Go.Proofs.YtnifpkopeheodaaGreat Tryz
open Go.Vc Go.Wg
theorem k4.Si0 {B j:Nat} {x:Int} {w:World} {R:Rn} (h:k4 w B R) (hj:R.ends[j]? =some x):w.cell? ⟨R.eb,j,none⟩=some (.int .i64 x):=by
 have h1:O0 w R.eb (R.ends.map (Value.int .i64)).toArray 3:=h.ends;exact h1.E0 j (by simp[hj])
theorem k4.Zm0 {B j k:Nat} {x:Stp} {v:Value} {w:World} {R:Rn} (h:k4 w B R) (hj:R.W4[j]? =some x) (hv:(spC x)[k]? =some v):w.cell? ⟨R.wb,j*3+k,none⟩=some v:=by
 have h1:O0 w R.wb (R.W4.flatMap spC).toArray 47:=h.W4;refine h1.E0 (j*3+k) ?_;rw[List.getElem?_toArray];have hkl:k<3:=(List.getElem?_eq_some_iff.1 hv).1;have key:∀(l:List Stp) (j:Nat),l[j]? =some x->(l.flatMap spC)[j*3+k]? =some v:=by
  intro l
  induction l with
  |nil=>intro j h;cases h
  |cons a l ih=>
   intro j h;cases j with
   |zero=>
    cases h;rw[List.flatMap_cons,List.getElem?_append_left (by simpa [spC]using hkl)];simpa using hv
   |succ j=>
    rw[List.flatMap_cons,List.getElem?_append_right (by simp[spC];omega)];have:(j+1)*3+k-(spC a).length=j*3+k:=by simp[spC];omega
    rw[this];exact ih j (by simpa using h)
 exact key _ _ hj
theorem k4.Zn0 {B i k:Nat} {x:Nat×Stp} {v:Value} {w:World} {R:Rn} (h:k4 w B R) (hi:R.evs[i]? =some x) (hv:(evC x)[k]? =some v):w.cell? ⟨ab R.ea,ao R.ea+i*4+k,none⟩=some v:=by
 have hkl:k<4:=(List.getElem?_eq_some_iff.1 hv).1;have key:∀(l:List (Nat×Stp)) (i:Nat),l[i]? =some x->(l.flatMap evC)[i*4+k]? =some v:=by
  intro l
  induction l with
  |nil=>intro i h;cases h
  |cons a l ih=>
   intro i h;cases i with
   |zero=>
    cases h;rw[List.flatMap_cons,List.getElem?_append_left (by simpa [evC]using hkl)];simpa using hv
   |succ i=>
    rw[List.flatMap_cons,List.getElem?_append_right (by simp[evC];omega)];have:(i+1)*4+k-(evC a).length=i*4+k:=by simp[evC];omega
    rw[this];exact ih i (by simpa using h)
 rw[h.evs.off,Nat.zero_add];exact h.evs.cell (key _ _ hi)
structure dp0 (w:World) (ea na za wa:Option Addr) (m:Nat) (evs:List (Nat×Stp)) (r2:List (Nat×Nat×Nte)) (ends:List Int) (W4:List Stp):Prop where
 esl:SL ea evs.length
 nsl:SL na r2.length
 zsl:SL za m
 wsl:SL wa m
 hz:ends.length=m
 hw:W4.length=m
 ev:∀(i:Nat) x (k:Nat) v,evs[i]? =some x->(evC x)[k]? =some v->w.cell? ⟨ab ea,ao ea+i*4+k,none⟩=some v
 nt:∀(i:Nat) x (k:Nat) v,r2[i]? =some x->(ntC x)[k]? =some v->w.cell? ⟨ab na,ao na+i*4+k,none⟩=some v
 en:∀(i:Nat) (x:Int),ends[i]? =some x->w.cell? ⟨ab za,ao za+i*1,none⟩=some (.int .i64 x)
 wt:∀(i:Nat) x (k:Nat) v,W4[i]? =some x->(spC x)[k]? =some v->w.cell? ⟨ab wa,ao wa+i*3+k,none⟩=some v
section
variable {w w':World}{ea na za wa:Option Addr}{m B:Nat}{evs:List (Nat×Stp)}{r2:List (Nat×Nat×Nte)}{ends:List Int}{W4:List Stp}{R:Rn}
theorem dp0.j0 (h:dp0 w ea na za wa m evs r2 ends W4) (hb:Below w.heap.size w w'):dp0 w' ea na za wa m evs r2 ends W4 :=
 ⟨h.esl,h.nsl,h.zsl,h.wsl,h.hz,h.hw,fun i x k v h1 h2=>C5 (h.ev i x k v h1 h2) hb,fun i x k v h1 h2=>C5 (h.nt i x k v h1 h2) hb,fun i x h1=>C5 (h.en i x h1) hb,fun i x k v h1 h2=>C5 (h.wt i x k v h1 h2) hb⟩
theorem k4.Zo0 {i k:Nat} {x:Nat×Nat×Nte} {v:Value} (h:k4 w B R) (hi:R.r2[i]? =some x) (hv:(ntC x)[k]? =some v):w.cell? ⟨ab R.na,ao R.na+i*4+k,none⟩=some v:=by
 have hkl:k<4:=(List.getElem?_eq_some_iff.1 hv).1;have key:∀(l:List (Nat×Nat×Nte)) (i:Nat),l[i]? =some x->(l.flatMap ntC)[i*4+k]? =some v:=by
  intro l
  induction l with
  |nil=>intro i h;cases h
  |cons a l ih=>
   intro i h;cases i with
   |zero=>
    cases h;rw[List.flatMap_cons,List.getElem?_append_left (by simpa [ntC]using hkl)];simpa using hv
   |succ i=>
    rw[List.flatMap_cons,List.getElem?_append_right (by simp[ntC];omega)];have:(i+1)*4+k-(ntC a).length=i*4+k:=by simp[ntC];omega
    rw[this];exact ih i (by simpa using h)
 rw[h.r2.off,Nat.zero_add];exact h.r2.cell (key _ _ hi)
theorem k4.Nr0 (h:k4 w B R):dp0 w R.ea R.na (some ⟨R.eb,0,none⟩) (some ⟨R.wb,0,none⟩) R.m R.evs R.r2 R.ends R.W4:=by
 refine⟨h.evs.sl,h.r2.sl,SL.mk _ _ _,SL.mk _ _ _,h.ep0,h.iz0,fun i x k v h1 h2=>h.Zn0 h1 h2,fun i x k v h1 h2=>h.Zo0 h1 h2,fun i x h1=>?_,fun i x k v h1 h2=>?_⟩
 ·show w.cell? ⟨R.eb,0+i*1,none⟩=_;rw[Nat.zero_add,Nat.mul_one];exact h.Si0 h1
 ·show w.cell? ⟨R.wb,0+i*3+k,none⟩=_;rw[Nat.zero_add];exact h.Zm0 h1 h2
end
theorem hh0 {d:Nat} {a:Int} (w:World):(Op.equalIn (d+1) 3 (.int .i64 a) (.int .i64 a)).run prog w= .ok true w:=eq_int underlying3 w
theorem bh0:prog.plainKey 3=true:=by kernel_rfl
theorem Ns0:prog.plainKey 9=true:=by kernel_rfl
theorem Um0 (d:Nat) (a b c:Int) (w:World):(Op.equalIn (d+2) 47 (.agg #[.int .i64 a,.int .i64 b,.int .i64 c]) (.agg #[.int .i64 a,.int .i64 b,.int .i64 c])).run prog w= .ok true w :=
 ku0 underlying47 (by kernel_rfl) (N8 (by decide) (fun w=>run_part_plain w bh0 rfl) hh0 (N8 (by decide) (fun w=>run_part_plain w bh0 rfl) hh0 (N8 (by decide) (fun w=>run_part_plain w bh0 rfl) hh0 xp0))) w
theorem ne1 (d:Nat) (a b c e:Int) (w:World):(Op.equalIn (d+3) 49 (.agg #[.int .i64 a,.int .i64 b,.int .i64 c,.int .i64 e]) (.agg #[.int .i64 a,.int .i64 b,.int .i64 c,.int .i64 e])).run prog w= .ok true w :=
 ku0 underlying49 (by kernel_rfl) (N8 (by decide) (fun w=>run_part_plain w bh0 rfl) hh0 (N8 (v:=.agg #[.int .i64 b,.int .i64 c,.int .i64 e]) (by decide) (fun w=>xo0 underlying47 dg0 w) (Um0 d b c e) xp0)) w
theorem nf1 (d:Nat) (a b c:Int) (s:ByteArray) (w:World):(Op.equalIn (d+2) 98 (.agg #[.int .i64 a,.int .i64 b,.int .i64 c,.string s]) (.agg #[.int .i64 a,.int .i64 b,.int .i64 c,.string s])).run prog w= .ok true w :=
 ku0 underlying98 (by kernel_rfl) (N8 (by decide) (fun w=>run_part_plain w bh0 rfl) hh0 (N8 (by decide) (fun w=>run_part_plain w bh0 rfl) hh0 (N8 (by decide) (fun w=>run_part_plain w bh0 rfl) hh0 (N8 (by decide) (fun w=>run_part_plain w Ns0 rfl) (Zl0 underlying9) xp0)))) w
theorem Sj0 {a b c:Value} (h:X7 a=true/\X7 b=true/\X7 c=true):∀x∈#[a,b,c],X7 x=true:=fun x hx=>by
 simp at hx;rcases hx with rfl|rfl|rfl
 ·exact h.1
 ·exact h.2.1
 ·exact h.2.2
theorem Em0 {a b c d:Value} (h:X7 a=true/\X7 b=true/\X7 c=true/\X7 d=true):∀x∈#[a,b,c,d],X7 x=true:=fun x hx=>by
 simp at hx;rcases hx with rfl|rfl|rfl|rfl
 ·exact h.1
 ·exact h.2.1
 ·exact h.2.2.1
 ·exact h.2.2.2
theorem RY.Nr0 {w0 w:World} {B2 m:Nat} {M:My} (h:RY w0 B2 m w M):dp0 w M.ea none (some ⟨M.eb,0,none⟩) (some ⟨M.xb,0,none⟩) m M.evs [] M.ends M.W4:=by
 refine⟨h.hV.sl,SL.zero _,SL.mk _ _ _,SL.mk _ _ _,h.le,h.lw,fun i x k v h1 h2=>?_,fun i x k v h1 _=>?_,fun i x h1=>?_,fun i x k v h1 h2=>?_⟩
 ·rw[h.hV.off,Nat.zero_add];exact h.hV.cell (xj0 evC 4 (fun _=>rfl) _ i x k v h1 h2)
 ·cases h1
 ·show w.cell? ⟨M.eb,0+i*1,none⟩=_;rw[Nat.zero_add,Nat.mul_one];have h9:=h.hE;exact h9.E0 i (by simp[h1])
 ·show w.cell? ⟨M.xb,0+i*3+k,none⟩=_;rw[Nat.zero_add];have h9:=h.hX;refine h9.E0 (i*3+k) ?_;rw[List.getElem?_toArray];exact xj0 spC 3 (fun _=>rfl) _ i x k v h1 h2
structure Un0 (p:V3) (R:Rn) (M:My):Prop where
 evs:R.evs=M.evs
 r2:R.r2=[]
 ends:R.ends=M.ends
 W4:R.W4=M.W4
 stuck:R.stuck=M.stuck
 used:R.used=M.used
 m:R.m=p.m
theorem Zp0 {p:V3} {sc:Nat->Int} {sn B B2:Nat} {w w0 w1:World} {R:Rn} {M:My} (hX:gc0 (L1 p) sc sn B R w1) (hZ:RY w0 B2 p.m w M) (hMQ:MQ p ((L1 p).pn sc sn) M) (hT:Tld p ((L1 p).pn sc sn) p.m M) (T2:M.stuck=(((L1 p).pn sc sn).ft.any (·.isLeft)&&((L1 p).rds ((L1 p).pn sc sn)).isEmpty)):Un0 p R M:=by
 have hl:=hT.lists hZ.le hZ.lw;have hm:R.m=p.m:=hX.hm;refine⟨hX.evs.trans hMQ.evs.symm,hX.r2.trans (Ud0 _ (.inr ⟨sc,sn,rfl⟩)),?_,?_,hX.stuck.trans T2.symm,hX.used.trans hMQ.used.symm,hm⟩
 ·rw[hl.1];apply List.ext_getElem?;intro j;rcases Nat.lt_or_ge j p.m with hj|hj
  ·rw[hX.ends j hj];simp[hj]
  ·rw[List.getElem?_eq_none (by have:=hX.mem.ep0;omega),List.getElem?_eq_none (by simpa using hj)]
 ·rw[hl.2];apply List.ext_getElem?;intro j;rcases Nat.lt_or_ge j p.m with hj|hj
  ·rw[hX.W4 j hj];simp[hj]
  ·rw[List.getElem?_eq_none (by have:=hX.mem.iz0;omega),List.getElem?_eq_none (by simpa using hj)]
section
variable [Ctx prog]
set_option maxHeartbeats 1000000 in
theorem Zq0 {m:Nat} {evs:List (Nat×Stp)} {r2:List (Nat×Nat×Nte)} {ens:List Int} {W4:List Stp} {ea na za wa ea' na' za' wa':Option Addr} {ec nc zc wc ec' nc' zc' wc':Nat} {st:Bool} {us:Int} (w0:World) (hl:evs.length <=1000000000000/\r2.length <=1000000000000/\m <=1000000000000) (h1:dp0 w0 ea na za wa m evs r2 ens W4) (h2:dp0 w0 ea' na' za' wa' m evs r2 ens W4) :
  C prog 13 #[.agg #[.slice ea evs.length ec,.slice na r2.length nc,.slice za m zc,.slice wa m wc,.bool st,.int .i64 us],.agg #[.slice ea' evs.length ec',.slice na' r2.length nc',.slice za' m zc',.slice wa' m wc',.bool st,.int .i64 us]] w0 fun v w=>v= .bool true/\Below w0.heap.size w0 w:=by
 refine C.enter (n:=123) func13 rfl rfl ?_;refine U3 ?_;intro hb;refine L.box (cs:=#[.slice ea evs.length ec,.slice na r2.length nc,.slice za m zc,.slice wa m wc,.bool st,.int .i64 us]) rfl rfl (fun w b2 F2=>?_);refine U16 ?_;intro lt2 hb;have h1:=h1.j0 F2.below;have h2:=h2.j0 F2.below;have Z1:=F2.blk;refine L.box (cs:=#[.slice ea' evs.length ec',.slice na' r2.length nc',.slice za' m zc',.slice wa' m wc',.bool st,.int .i64 us]) rfl rfl (fun w b3 F3=>?_);refine U82 ?_;intro lt3 hb;have h1:=h1.j0 F3.below;have h2:=h2.j0 F3.below;have Z1:=Z1.j0 F3.below;have n3:=F3.blk;refine U11 ?_;refine U14 ?_;refine U417 ?_;refine L.va (S6 rfl underlying26 rfl) ?_;refine L.va (G0 rfl underlying30 rfl nq0 (by decide)) ?_;refine L.va (A0 rfl underlying26 rfl (n3.E0 0 (v:=.slice ea' evs.length ec') rfl)) ?_;refine L.va (S6 rfl underlying26 rfl) ?_;refine L.va (E1 (r:=false) (decide_eq_false (fun h=>h rfl)) (ax0 (m:=(evs.length:Int)) (k:=(evs.length:Int)) rfl rfl)) ?_;refine U44 ?_;refine U550 ?_;refine L.va (A0 rfl underlying27 rfl (Z1.E0 1 (v:=.slice na r2.length nc) rfl)) ?_;refine U592 ?_;refine L.on rfl ?_;refine U550 ?_;refine L.va (A0 rfl underlying27 rfl (n3.E0 1 (v:=.slice na' r2.length nc') rfl)) ?_;refine U592 ?_;refine L.on rfl ?_;refine L.va (E1 (r:=false) (decide_eq_false (fun h=>h rfl)) (ax0 (m:=(r2.length:Int)) (k:=(r2.length:Int)) rfl rfl)) ?_;refine U67 ?_;refine U551 ?_;refine L.va (A0 rfl underlying23 rfl (Z1.E0 2 (v:=.slice za m zc) rfl)) ?_;refine U258 ?_;refine L.on rfl ?_;refine U551 ?_;refine L.va (A0 rfl underlying23 rfl (n3.E0 2 (v:=.slice za' m zc') rfl)) ?_;refine U258 ?_;refine U446 ?_;refine U67 ?_;refine U552 ?_;refine L.va (A0 rfl underlying28 rfl (Z1.E0 3 (v:=.slice wa m wc) rfl)) ?_;refine U593 ?_;refine L.on rfl ?_;refine U552 ?_;refine L.va (A0 rfl underlying28 rfl (n3.E0 3 (v:=.slice wa' m wc') rfl)) ?_;refine U593 ?_;refine U446 ?_;refine U67 ?_;refine U557 ?_;refine L.va (A0 rfl underlying4 rfl (Z1.E0 4 (v:=.bool st) rfl)) ?_;refine L.on rfl ?_;refine U557 ?_;refine L.va (A0 rfl underlying4 rfl (n3.E0 4 (v:=.bool st) rfl)) ?_;refine L.on rfl ?_;refine L.va (rx0 rfl rfl underlying4) ?_;refine U67 ?_;refine U279 ?_;refine L.va (A0 rfl underlying3 rfl (Z1.E0 5 (v:=.int .i64 us) rfl)) ?_;refine L.on rfl ?_;refine U279 ?_;refine L.va (A0 rfl underlying3 rfl (n3.E0 5 (v:=.int .i64 us) rfl)) ?_;refine L.on rfl ?_;refine L.va (E1 (r:=false) (decide_eq_false (fun h=>h rfl)) (ax0 (m:=(us:Int)) (k:=(us:Int)) rfl rfl)) ?_;refine L.va (u7 rfl) ?_;refine U48 ?_;refine U54 ?_;refine W.loop (fun k e w=>∃(i:Nat),k=evs.length-i/\e 2= .pointer (some ⟨b2,0,none⟩)/\e 3= .pointer (some ⟨b3,0,none⟩)/\e 5= .int .i64 (i:Int)/\i <=evs.length/\dp0 w ea na za wa m evs r2 ens W4/\dp0 w ea' na' za' wa' m evs r2 ens W4/\O0 w b2 #[.slice ea evs.length ec,.slice na r2.length nc,.slice za m zc,.slice wa m wc,.bool st,.int .i64 us] 30/\O0 w b3 #[.slice ea' evs.length ec',.slice na' r2.length nc',.slice za' m zc',.slice wa' m wc',.bool st,.int .i64 us] 30/\Below w0.heap.size w0 w) _ ⟨0,rfl,rfl,rfl,rfl,Nat.zero_le _,h1,h2,Z1,n3,hb⟩ ?_;rintro k e w ⟨i,hk,s2,s3,s5,hi,h1,h2,Z1,n3,hb⟩;rw[V0 s2,V0 s3,V0 s5];clear s2 s3 s5;refine U15 ?_;refine U417 ?_;refine L.va (S6 rfl underlying26 rfl) ?_;refine U25 ?_;refine W.Q8 rfl (fun h60=>?_) (fun h60=>?_)
 ·have Y1:i<evs.length:=by omega
  obtain⟨x,hx⟩:∃x,evs[i]? =some x:=⟨_,List.getElem?_eq_getElem Y1⟩
  refine U134 ?_;refine D.va (fun w' C1=>(G0 rfl underlying30 rfl nq0 (by decide))) ?_;refine D.va (fun w' C1=>(A0 rfl underlying26 rfl ((Z1.j0 C1).E0 0 (v:=.slice ea evs.length ec) rfl))) ?_;refine D.va (fun w' C1=>(m3 rfl)) ?_;refine D.va (fun w' C1=>(S3 (i:=i) rfl rfl underlying26 yw0 h1.esl Y1)) ?_;refine D.va (fun w' C1=>(j1 (cs:=[.int .i64 (x.1:Int),.int .i64 x.2.kind,.int .i64 x.2.obj,.int .i64 x.2.num]) rfl underlying49 rfl yw0 rfl (fun j v hv=>(h1.j0 C1).ev i x j v hx hv))) ?_;refine D.va (fun w' C1=>(G0 rfl underlying30 rfl nq0 (by decide))) ?_;refine D.va (fun w' C1=>(A0 rfl underlying26 rfl ((n3.j0 C1).E0 0 (v:=.slice ea' evs.length ec') rfl))) ?_;refine D.va (fun w' C1=>(m3 rfl)) ?_;refine D.va (fun w' C1=>(S3 (i:=i) rfl rfl underlying26 yw0 h2.esl Y1)) ?_;refine D.va (fun w' C1=>(j1 (cs:=[.int .i64 (x.1:Int),.int .i64 x.2.kind,.int .i64 x.2.obj,.int .i64 x.2.num]) rfl underlying49 rfl yw0 rfl (fun j v hv=>(h2.j0 C1).ev i x j v hx hv))) ?_;refine D.va (fun w' C1=>(kv0 rfl rfl (ne1 9997 _ _ _ _) (by kernel_rfl) (Em0 ⟨rfl,rfl,rfl,rfl⟩))) ?_;refine U130 ?_;intro w P1 hb;have h1:=h1.j0 P1;have h2:=h2.j0 P1;have Z1:=Z1.j0 P1;have n3:=n3.j0 P1;refine U138 ?_;exact U270
 ·refine W.exit ?_;refine U90 ?_;refine U54 ?_;refine W.loop (fun k e w=>∃(i:Nat),k=r2.length-i/\e 2= .pointer (some ⟨b2,0,none⟩)/\e 3= .pointer (some ⟨b3,0,none⟩)/\e 6= .int .i64 (i:Int)/\i <=r2.length/\dp0 w ea na za wa m evs r2 ens W4/\dp0 w ea' na' za' wa' m evs r2 ens W4/\O0 w b2 #[.slice ea evs.length ec,.slice na r2.length nc,.slice za m zc,.slice wa m wc,.bool st,.int .i64 us] 30/\O0 w b3 #[.slice ea' evs.length ec',.slice na' r2.length nc',.slice za' m zc',.slice wa' m wc',.bool st,.int .i64 us] 30/\Below w0.heap.size w0 w) _ ⟨0,rfl,rfl,rfl,rfl,Nat.zero_le _,h1,h2,Z1,n3,hb⟩ ?_;rintro k e w ⟨i,hk,s2,s3,s6,hi,h1,h2,Z1,n3,hb⟩;rw[V0 s2,V0 s3,V0 s6];clear s2 s3 s6;refine U15 ?_;refine L.va (G0 rfl underlying30 rfl Pc0 (by decide)) ?_;refine L.va (A0 rfl underlying27 rfl (Z1.E0 1 (v:=.slice na r2.length nc) rfl)) ?_;refine L.va (S6 rfl underlying27 rfl) ?_;refine U25 ?_;refine W.Q8 rfl (fun h78=>?_) (fun h78=>?_)
  ·have Y1:i<r2.length:=by omega
   obtain⟨x,hx⟩:∃x,r2[i]? =some x:=⟨_,List.getElem?_eq_getElem Y1⟩
   refine U134 ?_;refine D.va (fun w' C1=>(G0 rfl underlying30 rfl Pc0 (by decide))) ?_;refine D.va (fun w' C1=>(A0 rfl underlying27 rfl ((Z1.j0 C1).E0 1 (v:=.slice na r2.length nc) rfl))) ?_;refine D.va (fun w' C1=>(m3 rfl)) ?_;refine D.va (fun w' C1=>(S3 (i:=i) rfl rfl underlying27 Pg0 h1.nsl Y1)) ?_;refine D.va (fun w' C1=>(j1 (cs:=[.int .i64 (x.1:Int),.int .i64 (x.2.1:Int),.int .i64 x.2.2.kind,.string x.2.2.text]) rfl underlying98 rfl Pg0 rfl (fun j v hv=>(h1.j0 C1).nt i x j v hx hv))) ?_;refine D.va (fun w' C1=>(G0 rfl underlying30 rfl Pc0 (by decide))) ?_;refine D.va (fun w' C1=>(A0 rfl underlying27 rfl ((n3.j0 C1).E0 1 (v:=.slice na' r2.length nc') rfl))) ?_;refine D.va (fun w' C1=>(m3 rfl)) ?_;refine D.va (fun w' C1=>(S3 (i:=i) rfl rfl underlying27 Pg0 h2.nsl Y1)) ?_;refine D.va (fun w' C1=>(j1 (cs:=[.int .i64 (x.1:Int),.int .i64 (x.2.1:Int),.int .i64 x.2.2.kind,.string x.2.2.text]) rfl underlying98 rfl Pg0 rfl (fun j v hv=>(h2.j0 C1).nt i x j v hx hv))) ?_;refine D.va (fun w' C1=>(kv0 rfl rfl (nf1 9998 _ _ _ _) (by kernel_rfl) (Em0 ⟨rfl,rfl,rfl,rfl⟩))) ?_;refine U130 ?_;intro w P1 hb;have h1:=h1.j0 P1;have h2:=h2.j0 P1;have Z1:=Z1.j0 P1;have n3:=n3.j0 P1;refine U138 ?_;exact U270
  ·refine W.exit ?_;refine U90 ?_;refine U54 ?_;refine W.loop (fun k e w=>∃(i:Nat),k=m-i/\e 2= .pointer (some ⟨b2,0,none⟩)/\e 3= .pointer (some ⟨b3,0,none⟩)/\e 7= .int .i64 (i:Int)/\i <=m/\dp0 w ea na za wa m evs r2 ens W4/\dp0 w ea' na' za' wa' m evs r2 ens W4/\O0 w b2 #[.slice ea evs.length ec,.slice na r2.length nc,.slice za m zc,.slice wa m wc,.bool st,.int .i64 us] 30/\O0 w b3 #[.slice ea' evs.length ec',.slice na' r2.length nc',.slice za' m zc',.slice wa' m wc',.bool st,.int .i64 us] 30/\Below w0.heap.size w0 w) _ ⟨0,rfl,rfl,rfl,rfl,Nat.zero_le _,h1,h2,Z1,n3,hb⟩ ?_;rintro k e w ⟨i,hk,s2,s3,s7,hi,h1,h2,Z1,n3,hb⟩;rw[V0 s2,V0 s3,V0 s7];clear s2 s3 s7;refine U15 ?_;refine L.va (G0 rfl underlying30 rfl wj0 (by decide)) ?_;refine L.va (A0 rfl underlying23 rfl (Z1.E0 2 (v:=.slice za m zc) rfl)) ?_;refine L.va (S6 rfl underlying23 rfl) ?_;refine U25 ?_;refine W.Q8 rfl (fun h96=>?_) (fun h96=>?_)
   ·have Y1:i<m:=by omega
    obtain⟨x,hx⟩:∃x,ens[i]? =some x:=⟨_,List.getElem?_eq_getElem (by rw[h1.hz];exact Y1)⟩
    obtain⟨y,hy⟩:∃y,W4[i]? =some y:=⟨_,List.getElem?_eq_getElem (by rw[h1.hw];exact Y1)⟩
    refine U134 ?_;refine D.va (fun w' C1=>(G0 rfl underlying30 rfl wj0 (by decide))) ?_;refine D.va (fun w' C1=>(A0 rfl underlying23 rfl ((Z1.j0 C1).E0 2 (v:=.slice za m zc) rfl))) ?_;refine D.va (fun w' C1=>(m3 rfl)) ?_;refine D.va (fun w' C1=>(S3 (i:=i) rfl rfl underlying23 z8 h1.zsl Y1)) ?_;refine D.va (fun w' C1=>(A0 (v:=.int .i64 x) rfl underlying3 rfl ((h1.j0 C1).en i x hx))) ?_;refine D.va (fun w' C1=>(G0 rfl underlying30 rfl wj0 (by decide))) ?_;refine D.va (fun w' C1=>(A0 rfl underlying23 rfl ((n3.j0 C1).E0 2 (v:=.slice za' m zc') rfl))) ?_;refine D.va (fun w' C1=>(m3 rfl)) ?_;refine D.va (fun w' C1=>(S3 (i:=i) rfl rfl underlying23 z8 h2.zsl Y1)) ?_;refine D.va (fun w' C1=>(A0 (v:=.int .i64 x) rfl underlying3 rfl ((h2.j0 C1).en i x hx))) ?_;refine D.va (fun w' C1=>(E1 (r:=false) (decide_eq_false (fun h=>h rfl)) (ax0 (m:=(x:Int)) (k:=(x:Int)) rfl rfl))) ?_;refine D.va (fun w' C1=>(y9 rfl)) ?_;refine U499 ?_;refine D.on rfl ?_;refine D.va (fun w' C1=>(A0 rfl underlying28 rfl ((Z1.j0 C1).E0 3 (v:=.slice wa m wc) rfl))) ?_;refine U590 ?_;refine D.on rfl ?_;refine D.va (fun w' C1=>(S3 (i:=i) rfl rfl underlying28 dg0 h1.wsl Y1)) ?_;refine D.on rfl ?_;refine D.va (fun w' C1=>(j1 (cs:=[.int .i64 y.kind,.int .i64 y.obj,.int .i64 y.num]) rfl underlying47 rfl dg0 rfl (fun j v hv=>(h1.j0 C1).wt i y j v hy hv))) ?_;refine U499 ?_;refine D.on rfl ?_;refine D.va (fun w' C1=>(A0 rfl underlying28 rfl ((n3.j0 C1).E0 3 (v:=.slice wa' m wc') rfl))) ?_;refine U590 ?_;refine D.on rfl ?_;refine D.va (fun w' C1=>(S3 (i:=i) rfl rfl underlying28 dg0 h2.wsl Y1)) ?_;refine D.on rfl ?_;refine D.va (fun w' C1=>(j1 (cs:=[.int .i64 y.kind,.int .i64 y.obj,.int .i64 y.num]) rfl underlying47 rfl dg0 rfl (fun j v hv=>(h2.j0 C1).wt i y j v hy hv))) ?_;refine D.on rfl ?_;refine D.va (fun w' C1=>(kv0 rfl rfl (Um0 9998 _ _ _) (by kernel_rfl) (Sj0 ⟨rfl,rfl,rfl⟩))) ?_;refine D.va (fun w' C1=>(u7 rfl)) ?_;refine U130 ?_;intro w P1 hb;have h1:=h1.j0 P1;have h2:=h2.j0 P1;have Z1:=Z1.j0 P1;have n3:=n3.j0 P1;refine U138 ?_;exact U270
   ·refine W.exit ?_;refine U72 ?_;exact U96
end
section
variable [Ctx prog]
theorem Zr0 {p:V3} {sc:Nat->Int} {sn B B2:Nat} {w0:World} {R:Rn} {M:My} (w:World) (hJ:Un0 p R M) (hX:gc0 (L1 p) sc sn B R w) (hZ:RY w0 B2 p.m w M) (hm:p.m <=16) (he:M.evs.length <=20000) :
  C prog 13 #[.agg #[.slice R.ea R.evs.length R.ec,.slice R.na R.r2.length R.nc,.slice (some ⟨R.eb,0,none⟩) R.m R.m,.slice (some ⟨R.wb,0,none⟩) R.m R.m,.bool R.stuck,.int .i64 (R.used:Int)],.agg (My.rC p.m M)] w fun v w'=>v= .bool true/\Below w.heap.size w w':=by
 have h1:=hX.mem.Nr0;rw[hJ.evs,hJ.r2,hJ.ends,hJ.W4,hJ.m]at h1;rw[hJ.evs,hJ.r2,hJ.m,hJ.stuck,hJ.used];exact Zq0 w ⟨by omega,by simp,by omega⟩ h1 hZ.Nr0
theorem hg1 {p:V3} {sc:Nat->Int} {sn B B2:Nat} {w0:World} {R:Rn} {M:My} {r:j6} (w:World) (hY:bf0 p sc sn B w R r) (hZ:RY w0 B2 p.m w M) (hMQ:MQ p ((L1 p).pn sc sn) M) {i:Nat} (hi:i<p.m) (hl:(p.bo i).length <=3000) :
  C prog 14 #[.slice (r.la i) ((pS p sc sn).W1 i).length (r.lc i),.slice (M.la i) (M.s.W1 i).length (M.lc i)] w fun v w'=>v= .bool true/\Below w.heap.size w w':=by
 have h1:=(eg0 ((L1 p).pn sc sn) (.inr ⟨sc,sn,rfl⟩)).all i;have h2:=hZ.hL i hi;rw[hMQ.s]at h2⊢;exact Gh0 _ _ _ _ _ (by show(PS.W1 ((L1 p).pn sc sn).s i).length <=_;omega) w (fq0.own (hY.ans i hi)) (fq0.own h2)
theorem Sk0 {p:V3} (hp:y5 p) {m:Nat} {bo:Nat->List O1} (pm:p.m=m) (pbo:p.bo=bo) {bc sn scp:Nat} {sc:Nat->Int} {ba sa:Option Addr} {oa:Nat->Option Addr} {oc:Nat->Nat} (w0:World) (hBo:A7 w0 ba m bo oa oc) (hSc:od0 w0 sa sn scp sc) (hm:m <=16) (hsn:sn <=20000) (hbl:∀i,i<m->(bo i).length <=3000) :
  C prog 12 #[.slice ba m bc,.slice sa sn scp] w0 fun v w=>∃M B2,v= .tuple #[.agg (My.rC p.m M),.slice (some ⟨M.gb,0,none⟩) p.m p.m,.agg (stA M.s)]/\RY w0 B2 p.m w M/\MQ p ((L1 p).pn sc sn) M/\Tld p ((L1 p).pn sc sn) p.m M/\M.stuck=(((L1 p).pn sc sn).ft.any (·.isLeft)&&((L1 p).rds ((L1 p).pn sc sn)).isEmpty):=by
 subst pm pbo;exact Sf0 hp w0 hBo hSc hm hsn hbl
end
set_option maxHeartbeats 2000000 in
theorem hu1 {lb:Nat} {pl:Nat->V6} {m bc sn scp:Nat} {bo:Nat->List O1} {sc:Nat->Int} {ba sa:Option Addr} {oa:Nat->Option Addr} {oc:Nat->Nat} (w0:World) (hm:m <=1000000000000) (hsn:sn <=9223372036854775807) (hBo:A7 w0 ba m bo oa oc) (hz:∀i,m <=i->bo i=[]) (hSc:od0 w0 sa sn scp sc) :
  @C prog (V7 lb pl) 3 #[.slice ba m bc,.slice sa sn scp] w0 fun v w=>v= .bool true/\Below w0.heap.size w0 w:=by
 letI:Ctx prog:=V7 lb pl;refine C.enter (n:=59) func3 rfl rfl ?_;refine U3 ?_;intro hb;refine U11 ?_;refine U14 ?_;refine U122 ?_;refine L.call (Q3 rfl rfl func9 rfl nm9 rfl) (fm1 _ hm hsn hBo) ?_;rintro _ w ⟨bf,rfl,ng1,P1⟩;have hb:=P0 hb P1;clear P1;refine L.va (in0 rfl) ?_;refine U5 ?_;refine W.cond rfl (fun h15=>?_) (fun h15=>?_)
 ·refine W.seq ?_;refine W.region rfl ?_;refine L.call (bq0  func10 rfl bs1 rfl) (Ne0 _) ?_;rintro _ w ⟨rfl,P1⟩;have hb:=P0 hb P1;exact U96
 ·refine W.skip ?_;show W _ _ _ _ _ _;refine U2 ?_;refine U122 ?_;have hF:=ng1 (by simpa using h15);refine L.call (Q3 rfl rfl func11 rfl bt1 rfl) (Mi0 w (hBo.j0 hb) hz (hSc.j0 hb) hF) ?_;rintro _ w1 ⟨p,R,r,rfl,⟨pm,pbo,pB⟩,hP,hY,P1⟩;obtain⟨Bq,hBq⟩:∃Bq,Bq=w.heap.size:=⟨_,rfl⟩
  rw[<- hBq]at hY;clear hBq;have hb:=P0 hb P1;clear P1
  rename World=>w
  refine U300 ?_;have or0:=hY;have fl0:=hb;refine L.alloc (cs:=#[.slice none 0 0,.slice none 0 0,.slice none 0 0,.slice none 0 0,.bool false,.int .i64 0]) Bj0 rfl (fun w b5 F5=>?_);have lt5:=F5.lq hb.size;have B5:=F5.blk;refine L.pa [.slice R.ea R.evs.length R.ec,.slice R.na R.r2.length R.nc,.slice (some ⟨R.eb,0,none⟩) R.m R.m,.slice (some ⟨R.wb,0,none⟩) R.m R.m,.bool R.stuck,.int .i64 (R.used:Int)] df0 B5 (fun w Z0 hg I2=>?_);have j8:=D3 F5.below F5.below.size hg (by have:=F5.here;omega);have hY:=or0.j0 j8;have hb:=P0 fl0 j8;have B5:=Z0;clear Z0 hg I2 j8 F5 or0 fl0;refine L.va (cu0 rfl) ?_;refine U73 ?_;refine U122 ?_;have fp1:=hF.m1;have Uo0:=hF.sn1;have hbl:∀i,i<m->(bo i).length <=3000:=fun i hi=>by
   have h1:=xc0 (f:=fun i=>(bo i).length) hi;have h2:=hF.sum;have h1:(bo i).length <=Go.ConcN.sumTo m fun i=>(bo i).length:=h1;omega
  refine L.call (Q3 rfl rfl func12 rfl iv1 rfl) (Sk0 hP pm pbo w (hBo.j0 hb) (hSc.j0 hb) fp1 Uo0 hbl) ?_;rintro _ w1 ⟨M,B2,rfl,hZ,hMQ,hTd,T2⟩;have P1:=hZ.hb;have hb:=P0 hb P1;have hY:=hY.j0 P1;have B5:=B5.j0 P1;clear P1;have hJ:=Zp0 hY.run hZ hMQ hTd T2;have hh1:M.evs.length <=20000:=by rw[hMQ.evs];exact Nat.le_trans (Sys.nz0 (Y:=L1 p) sc sn).1 Uo0
  have hk1:p.m <=16:=by omega
  rename World=>w
  refine U300 ?_;have or0:=hY;have Up0:=B5;have hn1:=hZ;have fl0:=hb;refine L.alloc (cs:=#[.slice none 0 0,.slice none 0 0,.slice none 0 0,.slice none 0 0,.bool false,.int .i64 0]) Bj0 rfl (fun w b8 F8=>?_);have lt8:=F8.lq hb.size;have hb:=P0 hb F8.below;have hB8:=F8.blk;have j8:=F8.below;have g8:=Nat.le_of_eq F8.here.symm;refine L.alloc (cs:=stA ps0) Pf0 rfl (fun w b10 F10=>?_);have mh1:=F10.lq hb.size;have hB8:=hB8.j0 F10.below;have jn0:=F10.blk;have g10:=Nat.le_of_eq F10.here.symm;have g10:=Nat.le_trans j8.size g10;have j8:=P0 j8 F10.below;refine L.pa [.slice M.ea M.evs.length M.ec,.slice none 0 0,.slice (some ⟨M.eb,0,none⟩) p.m p.m,.slice (some ⟨M.xb,0,none⟩) p.m p.m,.bool M.stuck,.int .i64 (M.used:Int)] df0 hB8 (fun w Z0 hg I2=>?_);have j8:=D3 j8 j8.size hg g8;have jn0:=O0.other jn0 hg (O0.ne jn0 hB8 (by decide));have hB8:=Z0;clear Z0 hg I2;refine L.va (cu0 rfl) ?_;refine L.Af0 (s:=M.s) rfl rfl jn0 (n5 _) (fun w Z0 hg _=>?_);have j8:=D3 j8 j8.size hg g10;have hB8:=O0.other hB8 hg (O0.ne hB8 jn0 (by decide));have hY:=or0.j0 j8;have B5:=Up0.j0 j8;have hZ:=hn1.j0 j8;have hb:=P0 fl0 j8;clear Z0 hg j8 jn0 F8 F10 g8 g10 or0 Up0 hn1 fl0;refine U137 ?_;refine U190 ?_;refine U44 ?_;refine L.va (j1 (cs:=[.slice R.ea R.evs.length R.ec,.slice R.na R.r2.length R.nc,.slice (some ⟨R.eb,0,none⟩) R.m R.m,.slice (some ⟨R.wb,0,none⟩) R.m R.m,.bool R.stuck,.int .i64 (R.used:Int)]) rfl underlying30 rfl df0 rfl (B5.J4 rfl)) ?_;refine L.on rfl ?_;refine L.va (j1 (cs:=[.slice M.ea M.evs.length M.ec,.slice none 0 0,.slice (some ⟨M.eb,0,none⟩) p.m p.m,.slice (some ⟨M.xb,0,none⟩) p.m p.m,.bool M.stuck,.int .i64 (M.used:Int)]) rfl underlying30 rfl df0 rfl (hB8.J4 rfl)) ?_;refine L.on rfl ?_;refine L.call (Q3 rfl rfl func13 rfl iw1 rfl) (Zr0 w hJ (bf0.run hY) hZ hk1 hh1) ?_;rintro _ w ⟨rfl,P1⟩;have hb:=P0 hb P1;have hY:=hY.j0 P1;have hZ:=hZ.j0 P1;refine U195 ?_;refine U67 ?_;refine L.call (bq0  func10 rfl bs1 rfl) (Ne0 _) ?_;rintro _ w ⟨rfl,P1⟩;have hb:=P0 hb P1;have hY:=hY.j0 P1;have hZ:=hZ.j0 P1;refine U195 ?_;refine L.va (u7 rfl) ?_;refine U113 ?_;refine U257 ?_;refine W.seq ?_;obtain⟨wz,hwz⟩:∃wz,RY wz B2 p.m w M:=⟨_,hZ⟩
  clear hZ;have hZ:=hwz;clear hwz;refine W.region rfl ?_;refine U179 ?_;refine W.loop (fun k e w=>∃(i:Nat),k=m-i/\e 0= .slice ba m bc/\e 6= .slice (some ⟨p.lgb,0,none⟩) m m/\e 9= .slice (some ⟨M.gb,0,none⟩) p.m (p.m)/\e 11= .int .i64 (i:Nat)/\i <=m/\bf0 p sc sn Bq w R r/\RY wz B2 p.m w M/\Below w0.heap.size w0 w) _ ⟨0,rfl,rfl,rfl,rfl,rfl,Nat.zero_le _,hY,hZ,hb⟩ ?_;rintro k e w ⟨i,hk,s0,s6,s9,s11,hi,hY,hZ,hb⟩;rw[V0 s0,V0 s6,V0 s9,V0 s11];clear s0 s6 s9 s11;refine U15 ?_;refine U120 ?_;refine U25 ?_;refine W.Q8 rfl (fun h46=>?_) (fun h46=>?_)
  ·have Y1:i<m:=by omega
   have Gt0:i<p.m:=by omega
   refine U134 ?_;refine U26 ?_;refine D.va (fun w' C1=>(S3 (i:=i) rfl rfl underlying31 yv0 (fun _=>rfl) Y1)) ?_;refine D.va (fun w' C1=>(A0 (v:=.slice (r.la i) ((pS p sc sn).W1 i).length (r.lc i)) rfl underlying45 rfl (by show World.cell? _ ⟨p.lgb,0+i*1,none⟩=_;rw[Nat.zero_add,Nat.mul_one];exact O0.E0 (bf0.lg (hY.j0 C1)) i (v7 Gt0)))) ?_;refine U26 ?_;refine D.va (fun w' C1=>(S3 (i:=i) rfl rfl underlying31 yv0 (fun _=>rfl) Gt0)) ?_;refine D.va (fun w' C1=>(A0 (v:=.slice (M.la i) (M.s.W1 i).length (M.lc i)) rfl underlying45 rfl (by show World.cell? _ ⟨M.gb,0+i*1,none⟩=_;rw[Nat.zero_add,Nat.mul_one];exact O0.E0 (RY.hG (hZ.j0 C1)) i (v7 Gt0)))) ?_;refine D.call (fun w' C1=>(Q3 rfl rfl func14 rfl ix1 rfl)) (fun w' C1=>((hg1 w' (hY.j0 C1) (hZ.j0 C1) hMQ Gt0 (by rw[pbo];exact hbl i Y1)).mono fun r w h=>⟨h.1,P0 C1 h.2⟩)) ?_;refine D.va (fun w' C1=>(in0 rfl)) ?_;refine U130 ?_;intro w P1 hb;have hY:=hY.j0 P1;have hZ:=hZ.j0 P1;refine U138 ?_;refine U29 ?_;exact⟨_,by omega,⟨i+1,rfl,rfl,rfl,rfl,rfl,Y1,hY,hZ,hb⟩⟩
  ·refine W.exit ?_;refine U72 ?_;exact U96
end Go.Vy.Sc
end
