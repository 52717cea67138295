/- What the claim leans on, part 3. Laws. -/
import Derived.Test.YtinppmaojmdmhaaGreatKF2
import Derived.Conc.AtomicLaws2
import Derived.Conc.MarkLaws
import Derived.Conc.SmallLaws
import Derived.Laws.Bits64
import Derived.Laws.BitsLemmas
import Derived.Test.YtinppmaojmdmhaaGreatRows
import Derived.KernelRfl
set_option linter.unusedVariables false
set_option maxHeartbeats 4000000
section
namespace Go.Wg
open Go Go.Conc Go.Yc
open Go.Vc (Env upd V3 ev z6 G3)
section
structure HF(P:Program)(main:Bool)(ok:Event->Prop)(Y:Nat->Nat->Goroutine->Prop):Prop where
 st:∀m d g g' es,g.status= .running->g'.status= .running->(∀e∈es,ok e)->(∀w,stepG P main g w= .go g' w es)->Y m (deafBehind d es) g'->Y (m+1) d g
theorem HF.c{P:Program}{main:Bool}{ok:Event->Prop}{Y:Nat->Nat->Goroutine->Prop}(hY:HF P main ok Y){d:Nat}{g g':Goroutine}(h1:g.status= .running)(h2:g'.status= .running)(hs:∀w,stepG P main g w= .go g' w #[]){m:Nat}(h:Y m d g'):Y (m+1) d g:=
 hY.st m d g g' #[] h1 h2 (fun e he=>by simp at he) hs h
structure md0(n:Nat)(a:Act)(e:Env)(ds:List Deferred):Prop where
 size:a.tmps.size=n
 defers:a.defers=ds
 get:∀t,a.tmps.getD t undef=e t
theorem md0.eval{n:Nat}{a:Act}{e:Env}{ds:List Deferred}(h:md0 n a e ds):a.eval=ev e:=by
 funext x;cases x <;> simp[Act.eval,ev,h.get]
theorem md0.put{n:Nat}{a:Act}{e:Env}{ds:List Deferred}(h:md0 n a e ds){d:Option Nat}(hd:z6 n d=true)(v:Value):md0 n (a.put d v) (V3 e d v) ds:=by
 cases d with
 |none=>exact h
 |some d=>
  have R6:d<n:=by simpa [z6,Nat.blt_eq]using hd
  refine⟨by simp[Act.put,h.size],by simp[Act.put,h.defers],fun t=>?_⟩;have hg:=h.get t;simp only[Act.put,V3,upd,Array.getD_eq_getD_getElem?,Array.getElem?_setIfInBounds]at hg⊢;by_cases htd:t=d
  ·subst htd;simp[h.size,R6]
  ·simp only[htd,if_false,Ne.symm htd];exact hg
theorem md0.yielded{n:Nat}{a:Act}{e:Env}{ds:List Deferred}(h:md0 n a e ds){ops:Array Oper}(o:Oper):Region.wanted o (Go.yielded ops a.tmps)=Region.wanted o (G3 ops e):=by
 have h2:Go.Vc.Rep n {a with defers:=[]} e:=⟨h.size,rfl,h.get⟩
 exact Go.Vc.c6 (a:={a with defers:=[]}) h2 o
def cw0(args:Array Value):Env:=fun t=>args.getD t undef
theorem gs0{n:Nat}(args:Array Value)(m:Nat)(hn:args.size+(m-args.size)=n):md0 n {tmps:=args++Array.replicate (m-args.size) undef,defers:=[]} (cw0 args) []:=by
 refine⟨by simp[hn],rfl,fun t=>?_⟩;simp only[cw0,Array.getD_eq_getD_getElem?,Array.getElem?_append];by_cases h:t<args.size
 ·rw[if_pos h]
 ·rw[if_neg h];rw[Array.getElem?_eq_none (xs:=args) Uo];rw[Array.getElem?_replicate];split <;> rfl
def At(Y:Nat->Nat->Goroutine->Prop)(ft n:Nat)(b:Frame)(cs:List Frame)(ds:List Deferred)(d:Nat)(e:Env)(todo:List Item):Prop:=∀a,md0 n a e ds->Y ft d (G (b.at a todo) cs)
def AtR(Y:Nat->Nat->Goroutine->Prop)(ft n:Nat)(b:Frame)(cs:List Frame)(ds:List Deferred)(d:Nat)(e:Env)(todo:List Item):Prop:=∀a,md0 n a e ds->Y ft d (G {b.at a todo with mode:=.returning} cs)
section
variable{P:Program}{main:Bool}{ok:Event->Prop}{Y:Nat->Nat->Goroutine->Prop}{ft n:Nat}{b:Frame}{cs:List Frame}{ds:List Deferred}{d:Nat}{e:Env}{k todo:List Item}
theorem At.c(hY:HF P main ok Y){qa0:List Item}(hs:∀a w,stepG P main (G (b.at a todo) cs) w= .go (G (b.at a qa0) cs) w #[])(h:At Y ft n b cs ds d e qa0):At Y (ft+1) n b cs ds d e todo:=
 fun a ha=>hY.c rfl rfl (hs a) (h a ha)
theorem At.seq(hY:HF P main ok Y){x y:Code}(h:At Y ft n b cs ds d e (.code x :: .code y::k)):At Y (ft+1) n b cs ds d e (.code (.seq x y)::k):=At.c hY (fun _ _=>stepG_seq) h
theorem At.skip(hY:HF P main ok Y)(h:At Y ft n b cs ds d e k):At Y (ft+1) n b cs ds d e (.code .skip::k):=At.c hY (fun _ _=>stepG_skip) h
theorem At.block(hY:HF P main ok Y){id:Nat}{c:Code}(h:At Y ft n b cs ds d e (.code c :: .inBlock id::k)):At Y (ft+1) n b cs ds d e (.code (.block id c)::k):=At.c hY (fun _ _=>stepG_block) h
theorem At.loop(hY:HF P main ok Y){c:Code}(h:At Y ft n b cs ds d e (.code c :: .inLoop c::k)):At Y (ft+1) n b cs ds d e (.code (.loop c)::k):=At.c hY (fun _ _=>stepG_loop) h
theorem At.inBlock(hY:HF P main ok Y){id:Nat}(h:At Y ft n b cs ds d e k):At Y (ft+1) n b cs ds d e (.inBlock id::k):=At.c hY (fun _ _=>stepG_inBlock) h
theorem At.inLoop(hY:HF P main ok Y){c:Code}(h:At Y ft n b cs ds d e (.code c :: .inLoop c::k)):At Y (ft+1) n b cs ds d e (.inLoop c::k):=At.c hY (fun _ _=>stepG_inLoop) h
theorem At.exit(hY:HF P main ok Y){id:Nat}{k':List Item}(hk:exitTo id k=some k')(h:At Y ft n b cs ds d e k'):At Y (ft+1) n b cs ds d e (.code (.exit id)::k):=At.c hY (fun _ _=>stepG_exit hk) h
theorem At.cond(hY:HF P main ok Y){c:Operand}{x y:Code}{t:Bool}(hc:ev e c= .bool t)(h:At Y ft n b cs ds d e (.code (if t then x else y)::k)):At Y (ft+1) n b cs ds d e (.code (.cond c x y)::k):=
 fun a ha=>hY.c rfl rfl (fun _=>stepG_cond (by rw[ha.eval];exact hc)) (h a ha)
theorem At.v8(hY:HF P main ok Y){c:Operand}{x y:Code}(hc:ev e c= .bool true)(h:At Y ft n b cs ds d e (.code x::k)):At Y (ft+1) n b cs ds d e (.code (.cond c x y)::k):=At.cond hY hc h
theorem At.X6(hY:HF P main ok Y){c:Operand}{x y:Code}(hc:ev e c= .bool false)(h:At Y ft n b cs ds d e (.code y::k)):At Y (ft+1) n b cs ds d e (.code (.cond c x y)::k):=At.cond hY hc h
theorem At.ret(hY:HF P main ok Y)(h:∀todo,AtR Y ft n b cs ds d e todo):At Y (ft+1) n b cs ds d e (.code .ret::k):=fun a ha=>hY.c rfl rfl (fun _=>stepG_ret') (h _ a ha)
theorem At.done(hY:HF P main ok Y)(h:∀todo,AtR Y ft n b cs ds d e todo):At Y (ft+1) n b cs ds d e []:=fun a ha=>hY.c rfl rfl (fun _=>stepG_end) (h _ a ha)
variable{ops:Array Oper}{i:Nat}{o:Oper}
structure Pu(P:Program)(S:Sem Next)(v:Value):Prop where
 run:∀w,S.run P w= .ok (.value v) w
 evs:∀w,S.events P w #[]=#[]
def Q0(Y:Nat->Nat->Goroutine->Prop)(ft n:Nat)(b:Frame)(cs:List Frame)(ds:List Deferred)(d:Nat)(e:Env)(ops:Array Oper)(i:Nat)(l:List Oper)(k:List Item):Prop:=
 (∀j,l[j]? =ops[i+j]?)->At Y ft n b cs ds d e (.inRegion ops (List.range' i l.length)::k)
structure ix1(n:Nat)(b:Frame)(cs:List Frame)(ds:List Deferred)(e:Env)(ops:Array Oper)(i:Nat)(dst:Option Nat)(l:List Oper)(k:List Item)(S6:List Frame):Prop where
 rep:∃a,md0 n a e ds/\S6=b.at a (.inRegion ops (i::List.range' (i+1) l.length)::k)::cs
 slot:(ops[i]?).bind (·.dst)=dst
 ok:z6 n dst=true
 tail:∀j,l[j]? =ops[i+1+j]?
variable{l:List Oper}{dst:Option Nat}{t:Nat}{op:Op}{ty:TypeId}{ps:String}{af:Array Edge}
section
variable{v:Value}{gu:Nat×Bool}{f:FuncId}{fn:Func}{asx:Array Operand}{ats:Array TypeId}{n0:Nat}{b0:Frame}{ds0:List Deferred}{e0:Env}{k0:List Item}{S6:List Frame}
theorem At.region(hY:HF P main ok Y){id:Nat}{l:List Oper}(h:Q0 Y ft n b cs ds d e l.toArray 0 l k):At Y (ft+1) n b cs ds d e (.code (.region id l.toArray false)::k):=
 At.c hY (fun _ _=>by rw[stepG_region]) (by
  have:=h (fun j=>by simp);rw[show List.range l.toArray.size=List.range' 0 l.length by simp[List.range_eq_range']];exact this)
theorem Q0.nil(hY:HF P main ok Y)(h:At Y ft n b cs ds d e k):Q0 Y (ft+1) n b cs ds d e ops i [] k:=fun _=>At.c hY (fun _ _=>stepG_region_end) h
theorem Y5{ops:Array Oper}{i:Nat}{o:Oper}{l:List Oper}(h:∀j,(o::l)[j]? =ops[i+j]?):ops[i]? =some o/\∀j,l[j]? =ops[i+1+j]? :=
 ⟨by simpa using(h 0).symm,fun j=>by have:=h (j+1);simpa [Nat.add_assoc,Nat.add_comm 1 j]using this⟩
theorem Q0.val(hY:HF P main ok Y)(hk:b.kind≠.early)(hd:z6 n dst=true)(hp:Pu P (execOp (ev e) ⟨dst,op,ty,ps,af,none⟩) v)(h:Q0 Y ft n b cs ds d (V3 e dst v) ops (i+1) l k):Q0 Y (ft+1) n b cs ds d e ops i (⟨dst,op,ty,ps,af,none⟩::l) k:=by
 intro hl a ha;obtain⟨ho,x8⟩:=Y5 hl;refine hY.c rfl rfl (fun w=>?_) (h x8 _ (ha.put hd v));show stepG P main (G (b.at a (.inRegion ops (i::List.range' (i+1) l.length)::k)) cs) w=_;rw[stepG_value ho (by rw[ha.yielded];rfl) hk (by rw[ha.eval];exact hp.run w)];unfold listed;rw[ha.eval,hp.evs w,seen_none]
theorem Q0.fw0(hY:HF P main ok Y)(hk:b.kind≠.early)(hw:G3 ops e gu.1=some gu.2)(hd:z6 n dst=true)(hp:Pu P (execOp (ev e) ⟨dst,op,ty,ps,af,some gu⟩) v)(h:Q0 Y ft n b cs ds d (V3 e dst v) ops (i+1) l k):Q0 Y (ft+1) n b cs ds d e ops i (⟨dst,op,ty,ps,af,some gu⟩::l) k:=by
 intro hl a ha;obtain⟨ho,x8⟩:=Y5 hl;refine hY.c rfl rfl (fun w=>?_) (h x8 _ (ha.put hd v));show stepG P main (G (b.at a (.inRegion ops (i::List.range' (i+1) l.length)::k)) cs) w=_;rw[stepG_value ho (by rw[ha.yielded];simp[Region.wanted,hw]) hk (by rw[ha.eval];exact hp.run w)];unfold listed;rw[ha.eval,hp.evs w,seen_none]
theorem Q0.off(hY:HF P main ok Y)(hw:G3 ops e gu.1=some (!gu.2))(hd:z6 n dst=true)(h:Q0 Y ft n b cs ds d (V3 e dst undef) ops (i+1) l k):Q0 Y (ft+1) n b cs ds d e ops i (⟨dst,op,ty,ps,af,some gu⟩::l) k:=by
 intro hl a ha;obtain⟨ho,x8⟩:=Y5 hl;refine hY.c rfl rfl (fun w=>?_) (h x8 _ (ha.put hd undef));exact stepG_unwanted ho (by
  rw[ha.yielded];obtain⟨j,want⟩:=gu;cases want <;> simp[Region.wanted]at hw⊢<;> simp[hw])
theorem cn0{args:Array Operand}{f:Operand->Value}{vl:List Value}(h:args.toList.map f=vl):args.map f=vl.toArray:=by rw[<- h,<- Array.toList_map,Array.toArray_toList]
theorem Q0.call(hY:HF P main ok Y)(hk:b.kind≠.early){f:FuncId}{fn:Func}{c:Code}{args:Array Operand}{ats:Array TypeId}(vs:List Value)(m:Nat)(hd:z6 n dst=true)(hf:P.funcs[f]? =some fn)(J4:Ue fn)(hb:fn.body=some c)
  (hv:args.toList.map (ev e)=vs) (hm:vs.toArray.size+(fn.ntmps-vs.toArray.size)=m) (h:∀S6,ix1 n b cs ds e ops i dst l k S6->At Y ft m (base f) S6 [] d (cw0 vs.toArray) [.code c]):Q0 Y (ft+1) n b cs ds d e ops i (⟨dst,.call {callee:=.value (.func f),args,argTypes:=ats},ty,ps,af,none⟩::l) k:=by
 intro hl a ha;obtain⟨ho,x8⟩:=Y5 hl;have Z8:fn.body.isNone=false:=by rw[hb];rfl
 refine hY.c rfl rfl (fun w=>?_) (h _ ⟨⟨a,ha,rfl⟩,by rw[ho];rfl,hd,x8⟩ {tmps:=vs.toArray++Array.replicate (fn.ntmps-vs.toArray.size) undef,defers:=[]} (gs0 vs.toArray _ hm));show stepG P main (G (b.at a (.inRegion ops (i::List.range' (i+1) l.length)::k)) cs) w=_;rw[stepG_enter ho (by rw[ha.yielded];rfl) hk (run_call_body rfl hf J4 Z8),enter_at _ hf hb];have h1:listed P b.fn a ⟨dst,.call {callee:=.value (.func f),args,argTypes:=ats},ty,ps,af,none⟩ w=#[]:=by unfold listed;rw[events_call_body rfl hf J4 Z8];exact seen_none P _
 have h2:args.map a.eval=vs.toArray:=by rw[ha.eval];exact cn0 hv
 rw[h1,h2]
theorem Q0.Md0(hY:HF P main ok Y)(hk:b.kind≠.early)(mk:Mark)(hm:∀g,mk≠.extern g)(hok:ok ⟨.mark mk,false,true⟩)(hd:z6 n dst=true)
  (hf:P.funcs[f]? =some fn) (J4:Ue fn) (hb:fn.body.isNone=true) (hn:Extern.findNext fn=none) (he:Extern.find fn=some (fun _=>do mark mk;pure Extern.Race.none_))
  (h:Q0 Y ft n b cs ds (deafBehind d #[⟨.mark mk,false,true⟩]) (V3 e dst (.tuple #[])) ops (i+1) l k):Q0 Y (ft+1) n b cs ds d e ops i (⟨dst,.call {callee:=.value (.func f),args:=asx,argTypes:=ats},ty,ps,af,none⟩::l) k:=by
 intro hl a ha;obtain⟨ho,x8⟩:=Y5 hl;exact hY.st _ _ _ _ #[⟨.mark mk,false,true⟩] rfl rfl (fun x hx=>by simp at hx;subst hx;exact hok) (fun w=>stepG_mark0 mk hm ho (by rw[ha.yielded];rfl) hk rfl hf J4 hb hn he) (h x8 _ (ha.put hd _))
theorem Q0.Df0(hY:HF P main ok Y)(hk:b.kind≠.early)(mk:Addr->Mark)(hm:∀ad g,mk ad≠.extern g){ad:Addr}(hok:ok ⟨.mark (mk ad),false,true⟩)(hd:z6 n dst=true)
  (hf:P.funcs[f]? =some fn) (J4:Ue fn) (hb:fn.body.isNone=true) (hn:Extern.findNext fn=none) (he:Extern.find fn=some (Extern.Race.marked mk)) (hx:(asx.toList.map (ev e))[0]? =some (.pointer (some ad)))
  (h:Q0 Y ft n b cs ds (deafBehind d #[⟨.mark (mk ad),false,true⟩]) (V3 e dst (.tuple #[])) ops (i+1) l k):Q0 Y (ft+1) n b cs ds d e ops i (⟨dst,.call {callee:=.value (.func f),args:=asx,argTypes:=ats},ty,ps,af,none⟩::l) k:=by
 intro hl a ha;obtain⟨ho,x8⟩:=Y5 hl;exact hY.st _ _ _ _ #[⟨.mark (mk ad),false,true⟩] rfl rfl (fun x hx=>by simp at hx;subst hx;exact hok) (fun w=>stepG_markAt mk hm ho (by rw[ha.yielded];rfl) hk rfl hf J4 hb hn he (by rw[ha.eval,cn0 rfl];simpa using hx)) (h x8 _ (ha.put hd _))
theorem Q0.An0(hY:HF P main ok Y)(hk:b.kind≠.early)(v:Value)(hd:z6 n dst=true)
  (hf:P.funcs[f]? =some fn) (J4:Ue fn) (hb:fn.body.isNone=true) (hn:Extern.findNext fn=none) (he:Extern.find fn=some (fun _=>pure v))
  (h:Q0 Y ft n b cs ds d (V3 e dst v) ops (i+1) l k):Q0 Y (ft+1) n b cs ds d e ops i (⟨dst,.call {callee:=.value (.func f),args:=asx,argTypes:=ats},ty,ps,af,none⟩::l) k:=by
 intro hl a ha;obtain⟨ho,x8⟩:=Y5 hl;exact hY.c rfl rfl (fun w=>stepG_entry_pure v ho (by rw[ha.yielded];rfl) hk rfl hf J4 hb hn he) (h x8 _ (ha.put hd _))
theorem Q0.defer(hY:HF P main ok Y)(hk:b.kind≠.early){f:FuncId}{asx:Array Operand}{ats:Array TypeId}(vs:List Value)(hv:asx.toList.map (ev e)=vs)
  (h:Q0 Y ft n b cs (dcall f vs.toArray::ds) d e ops (i+1) l k):Q0 Y (ft+1) n b cs ds d e ops i (⟨none,.defer {callee:=.value (.func f),args:=asx,argTypes:=ats},ty,ps,af,none⟩::l) k:=by
 intro hl a ha;obtain⟨ho,x8⟩:=Y5 hl;refine hY.c rfl rfl (fun w=>stepG_defer ho (by rw[ha.yielded];rfl) hk rfl) ?_;rw[ha.eval,cn0 hv,ha.defers];exact h x8 _ ⟨ha.size,rfl,ha.get⟩
theorem AtR.leave1(hY:HF P main ok Y){t:Tmp}(hB:ix1 n0 b0 cs ds0 e0 ops i dst l k0 S6)(hn:b.kind= .normal)(hf:P.funcs[b.fn]? =some fn)(hr:fn.results=#[.tmp t])(v:Value)(hv:e t=v)
  (h:Q0 Y ft n0 b0 cs ds0 d (V3 e0 dst v) ops (i+1) l k0):AtR Y (ft+1) n b S6 [] d e todo:=by
 intro a ha;obtain⟨a0,ha0,rfl⟩:=hB.rep;subst hv;refine hY.c rfl rfl (fun w=>?_) (h hB.tail _ (ha0.put hB.ok (e t)));rw[stepG_leave hn ha.defers hf (results_tmp hr _ P w) (events_results_tmp hr _ _),Frame.finish_at,ha.get,hB.slot]
theorem AtR.leave0(hY:HF P main ok Y)(hB:ix1 n0 b0 cs ds0 e0 ops i dst l k0 S6)(hn:b.kind= .normal)(hf:P.funcs[b.fn]? =some fn)(hr:fn.results=#[])
  (h:Q0 Y ft n0 b0 cs ds0 d (V3 e0 dst (.tuple #[])) ops (i+1) l k0):AtR Y (ft+1) n b S6 [] d e todo:=by
 intro a ha;obtain⟨a0,ha0,rfl⟩:=hB.rep;refine hY.c rfl rfl (fun w=>?_) (h hB.tail _ (ha0.put hB.ok (.tuple #[])));rw[stepG_leave hn ha.defers hf (results_none hr _ P w) (events_results_none hr _ _),Frame.finish_at,hB.slot]
theorem AtR.mark(hY:HF P main ok Y)(mk:Mark)(hm:∀g,mk≠.extern g)(hok:ok ⟨.mark mk,false,true⟩){f:FuncId}{fn:Func}(hf:P.funcs[f]? =some fn)(J4:Ue fn)(hb:fn.body.isNone=true)(hn:Extern.findNext fn=none)(he:Extern.find fn=some (fun _=>do mark mk;pure Extern.Race.none_))
  (h:AtR Y ft n b cs ds (deafBehind d #[⟨.mark mk,false,true⟩]) e todo):AtR Y (ft+1) n b cs (dcall f #[]::ds) d e todo:=by
 intro a ha;refine hY.st _ _ _ _ #[⟨.mark mk,false,true⟩] rfl rfl (fun x hx=>by simp at hx;subst hx;exact hok) (fun w=>stepG_unwind_entry (v:=.tuple #[]) (evs:=#[⟨.mark mk,false,true⟩]) ha.defers hf J4 hb hn he (by simp[Extern.Race.none_]) (by simp) (by
  intro x N5;simp at N5;subst N5;exact⟨rfl,fun g h=>hm g (Loc.mark.inj h)⟩)) ?_
 exact h ⟨a.tmps,ds⟩ ⟨ha.size,rfl,ha.get⟩
theorem AtR.leaveD(hY:HF P main ok Y){c:Frame}(hn:b.kind= .deferred)(hf:P.funcs[b.fn]? =some fn)(hr:fn.results=#[])(hc:c.mode= .returning)(h:Y ft d (G c cs)):AtR Y (ft+1) n b (c::cs) [] d e todo:=
 fun _a ha=>hY.c rfl rfl (fun w=>stepG_leave_deferred hn ha.defers hf (results_none hr _ P w) (events_results_none hr _ _) hc) h
end
def StG(P:Program)(main:Bool)(gr:W7)(Y:Nat->Nat->Goroutine->Prop):Prop:=∀m d g g',g.status= .running->g'.status= .running->(∀w st sm,GAt gr st sm w->stepG P main g w= .go g' w #[])->Y m d g'->Y (m+1) d g
theorem Q0.toUnsafe{gr:W7}(hG:StG P main gr Y)(hk:b.kind≠.early){S D t:TypeId}{x:Operand}{off:Nat}(hd:z6 n dst=true)(hx:ev e x= .pointer (some ⟨gr.blk,off,none⟩))(ab1:off=gr.off\/off=gr.off+1)
  (hS:P.underlying S=some (.pointer t)) (hD:P.underlying D=some .unsafePointer) (H2:(P.info? t).map (fun i=>decide (i.size=0))=some false)
  (h:Q0 Y ft n b cs ds d (V3 e dst (.pointer (some ⟨gr.blk,off,none⟩))) ops (i+1) l k):Q0 Y (ft+1) n b cs ds d e ops i (⟨dst,.convert S D x,ty,ps,af,none⟩::l) k:=by
 intro hl a ha;obtain⟨ho,x8⟩:=Y5 hl;refine hG _ _ _ _ rfl rfl (fun w st sm hw=>?_) (h x8 _ (ha.put hd _));obtain⟨h1,h2,_,_⟩:=hw.cells;obtain⟨v,hc⟩:∃v,w.cell? ⟨gr.blk,off,none⟩=some v:=by
  rcases ab1 with rfl|rfl
  ·exact⟨_,h1⟩
  ·exact⟨_,h2⟩
 have hr:(execOp a.eval ⟨dst,.convert S D x,ty,ps,af,none⟩).run P w= .ok (.value (.pointer (some ⟨gr.blk,off,none⟩))) w:=by
  rw[ha.eval];simp only[execOp,hx,Sem.run_bind,run_convert_to_unsafe hS hD H2 hc,Result.andThen_ok,Sem.run_pure]
 have he:(execOp a.eval ⟨dst,.convert S D x,ty,ps,af,none⟩).events P w #[]=#[]:=by
  rw[ha.eval];simp[execOp,hx,events_convert_to_unsafe hS hD H2 hc]
 show stepG P main (G (b.at a (.inRegion ops (i::List.range' (i+1) l.length)::k)) cs) w=_;rw[stepG_value ho (by rw[ha.yielded];rfl) hk hr];unfold listed;rw[he,seen_none]
end
section
variable{P:Program}{ρ:Operand->Value}{d:Option Nat}{ty:TypeId}{ps:String}{af:Array Edge}{g:Option (Nat×Bool)}{x y z:Operand}{T T':TypeId}{v:Value}
section
variable{S:TypeId}{b f s:Nat}{fs:Array Field}
theorem P0(h:ρ x=v):Pu P (execOp ρ ⟨d,.move x,ty,ps,af,g⟩) v:=⟨fun w=>by subst h;rfl,fun w=>by subst h;rfl⟩
theorem E1(h:ρ x=v):Pu P (execOp ρ ⟨d,.assign x,ty,ps,af,g⟩) v:=⟨fun w=>by subst h;rfl,fun w=>by subst h;rfl⟩
theorem co0(h:ρ z= .bool true)(hx:ρ x=v):Pu P (execOp ρ ⟨d,.pick z x y,ty,ps,af,g⟩) v:=⟨fun w=>by subst hx;exact Go.Vc.k7 h,fun w=>by simp[execOp,h,asBool]⟩
theorem gt0(h:ρ z= .bool false)(hy:ρ y=v):Pu P (execOp ρ ⟨d,.pick z x y,ty,ps,af,g⟩) v:=⟨fun w=>by subst hy;exact Go.Vc.H7 h,fun w=>by simp[execOp,h,asBool]⟩
theorem T5{p:Addr}(h:ρ x= .pointer (some p)):Pu P (execOp ρ ⟨d,.nilCheck x,ty,ps,af,g⟩) (.pointer (some p)):=⟨fun w=>by simp[execOp,h],fun w=>by simp[execOp,h]⟩
theorem sz0{o:Nat}{fl:Field}(hx:ρ x= .pointer (some ⟨b,o,none⟩))(hT:P.underlying S=some (.struct fs))(hf:fs[f]? =some fl)(hs:(P.info? fl.type).map (·.size)=some s)(h0:s≠0):Pu P (execOp ρ ⟨d,.fieldAddr S x f,ty,ps,af,g⟩) (.pointer (some ⟨b,o+fl.offset,none⟩)):=by
 refine⟨fun w=>Go.Vc.A0 hx hT hf hs h0,fun w=>?_⟩;obtain⟨i,hi,hs'⟩:=Option.map_eq_some_iff.1 hs;simp[execOp,hx,Instr.fieldAt,run_underlying hT,hf,Instr.sureAddr,fieldPlace,sizeOf,typeInfo,hi,hs',h0,go_sem]
theorem H5(o r:Nat){fl:Field}(hx:ρ x= .pointer (some ⟨b,o,none⟩))(hT:P.underlying S=some (.struct fs))(hf:fs[f]? =some fl)(hs:(P.info? fl.type).map (·.size)=some s)(h0:s≠0)(hr:o+fl.offset=r):Pu P (execOp ρ ⟨d,.fieldAddr S x f,ty,ps,af,g⟩) (.pointer (some ⟨b,r,none⟩)):=by subst hr;exact sz0 hx hT hf hs h0
end
variable{κ κ':IntKind}{m k r:Int}
theorem iy1(hx:ρ x= .int κ m)(hy:ρ y= .int κ k):Pu P (execOp ρ ⟨d,.binOp .lss T x y T',ty,ps,af,g⟩) (.bool (decide (m<k))):=⟨fun w=>Go.Vc.jo0 hx hy,fun w=>by simp[execOp,hx,hy,eqGuard,binOp,Op.intCmp]⟩
theorem iz1(hx:ρ x= .int κ m)(hy:ρ y= .int κ k):Pu P (execOp ρ ⟨d,.binOp .gtr T x y T',ty,ps,af,g⟩) (.bool (decide (k<m))):=⟨fun w=>Go.Vc.lr0 hx hy,fun w=>by simp[execOp,hx,hy,eqGuard,binOp,Op.intCmp]⟩
theorem ja1(hx:ρ x= .int κ m)(hy:ρ y= .int κ k):Pu P (execOp ρ ⟨d,.binOp .eql T x y T',ty,ps,af,g⟩) (.bool (decide (m=k))):=⟨fun w=>Go.Vc.dy0 hx hy,fun w=>by simp[execOp,hx,hy,go_sem,eqGuard,binOp,Op.intCmp]⟩
theorem jb1(hx:ρ x= .int κ m)(hy:ρ y= .int κ k):Pu P (execOp ρ ⟨d,.binOp .neq T x y T',ty,ps,af,g⟩) (.bool (decide (m≠k))):=⟨fun w=>Go.Vc.pu0 hx hy,fun w=>by simp[execOp,hx,hy,go_sem,eqGuard,binOp,Op.intCmp]⟩
theorem lc0{r:Bool}(hx:ρ x= .int κ m)(hy:ρ y= .int κ k)(hr:decide (m<k)=r):Pu P (execOp ρ ⟨d,.binOp .lss T x y T',ty,ps,af,g⟩) (.bool r):=by subst hr;exact iy1 hx hy
theorem iz0{r:Bool}(hx:ρ x= .int κ m)(hy:ρ y= .int κ k)(hr:decide (k<m)=r):Pu P (execOp ρ ⟨d,.binOp .gtr T x y T',ty,ps,af,g⟩) (.bool r):=by subst hr;exact iz1 hx hy
theorem fm0{r:Bool}(hx:ρ x= .int κ m)(hy:ρ y= .int κ k)(hr:decide (m=k)=r):Pu P (execOp ρ ⟨d,.binOp .eql T x y T',ty,ps,af,g⟩) (.bool r):=by subst hr;exact ja1 hx hy
theorem aw0{r:Bool}(hx:ρ x= .int κ m)(hy:ρ y= .int κ k)(hr:decide (m≠k)=r):Pu P (execOp ρ ⟨d,.binOp .neq T x y T',ty,ps,af,g⟩) (.bool r):=by subst hr;exact jb1 hx hy
theorem jc1(hx:ρ x= .int κ m)(hy:ρ y= .int κ k)(hr:κ.wrap (m+k)=r):Pu P (execOp ρ ⟨d,.binOp .add T x y T',ty,ps,af,g⟩) (.int κ r):=⟨fun w=>by rw[<- hr];exact Go.Vc.jn0 hx hy,fun w=>by simp[execOp,hx,hy,eqGuard,binOp,Op.intArith]⟩
theorem jd1(hx:ρ x= .int κ m)(hy:ρ y= .int κ k)(hr:κ.wrap (m-k)=r):Pu P (execOp ρ ⟨d,.binOp .sub T x y T',ty,ps,af,g⟩) (.int κ r):=⟨fun w=>by rw[<- hr];exact Go.Vc.Fh0 hx hy,fun w=>by simp[execOp,hx,hy,eqGuard,binOp,Op.intArith]⟩
theorem m9(hx:ρ x= .int κ m)(hy:ρ y= .int κ k)(hr:κ.wrap ((BitVec.ofInt κ.bits m &&& BitVec.ofInt κ.bits k).toNat:Int)=r):Pu P (execOp ρ ⟨d,.binOp .and T x y T',ty,ps,af,g⟩) (.int κ r):=⟨fun w=>by subst hr;simp[execOp,hx,hy,eqGuard,binOp,Op.intBits],fun w=>by simp[execOp,hx,hy,eqGuard,binOp,Op.intBits]⟩
theorem Sy0(hx:ρ x= .int κ m)(hy:ρ y= .int κ' k)(h0:0 <=k)(hr:κ.wrap (m*2 ^ (min k.toNat κ.bits))=r):Pu P (execOp ρ ⟨d,.binOp .shl T x y T',ty,ps,af,g⟩) (.int κ r):=⟨fun w=>by subst hr;simp[execOp,hx,hy,eqGuard,binOp,Op.shift,show ¬k<0 by omega],fun w=>by simp[execOp,hx,hy,eqGuard,binOp,Op.shift,show ¬k<0 by omega]⟩
theorem km0(hx:ρ x= .int κ m)(hy:ρ y= .int κ' k)(h0:0 <=k)(hr:m.fdiv (2 ^ (min k.toNat κ.bits))=r):Pu P (execOp ρ ⟨d,.binOp .shr T x y T',ty,ps,af,g⟩) (.int κ r):=⟨fun w=>by subst hr;simp[execOp,hx,hy,eqGuard,binOp,Op.shift,show ¬k<0 by omega],fun w=>by simp[execOp,hx,hy,eqGuard,binOp,Op.shift,show ¬k<0 by omega]⟩
theorem M4{S D:TypeId}(hx:ρ x= .int κ m)(hS:P.underlying S=some (.int κ))(hD:P.underlying D=some (.int κ'))(hr:κ'.wrap m=r):Pu P (execOp ρ ⟨d,.convert S D x,ty,ps,af,g⟩) (.int κ' r):=by
 subst hr;refine⟨fun w=>?_,fun w=>?_⟩ <;> simp[execOp,hx,convert,run_underlying hS,run_underlying hD,go_sem]
end
theorem J1(f:FuncId):(base f).kind≠.early:=by intro h;cases h
theorem bkd(f:FuncId):(baseD f).kind≠.early:=by intro h;cases h
theorem Y3(P:Program)(gr:W7):HF P false (fun e=>Ip0 e=true) (fun m d g=>Lt P gr m d g):=
 ⟨fun _m _d _g g' es h1 _ h3 h4 h5=>.inl ⟨g',es,⟨h1,h3,fun w _ _ _=>h4 w⟩,h5⟩⟩
theorem pu1(P:Program)(gr:W7):StG P false gr (fun m d g=>Lt P gr m d g):=
 fun m d g g' h1 _ h3 h4=>.inl ⟨g',#[],⟨h1,fun e he=>by simp at he,h3⟩,h4⟩
theorem G0(P:Program):HF P false (fun e=>Event.mute e=true) (fun m d g=>QuitsD P m d g):=
 ⟨fun _m _d _g g' es h1 _ h3 h4 h5=>.inr ⟨h1,g',es,h3,h4,h5⟩⟩
theorem QuitsD.mono{P:Program}:∀{n m d:Nat}{g:Goroutine},QuitsD P n d g->n <=m->QuitsD P m d g
 |0,0,_,_,h,_=>h
 |0,_+1,_,_,h,_=>.inl h
 |n+1,0,_,_,_,hm=>absurd hm Uo
 |n+1,m+1,_,_,h,hm=>h.elim .inl fun⟨h1,g',es,h2,h3,h4⟩=>.inr ⟨h1,g',es,h2,h3,QuitsD.mono h4 Uo⟩
def quiet(e:Event):Bool:=match e.loc with
 | .mark .disable| .mark .enable| .mark (.read _)| .mark (.write _)| .mark (.release _)=>false
 | .mark _=>true
 |_=>false
theorem mf0{e:Event}(h:quiet e=true):Ip0 e=true/\e.loc≠.mark .disable/\e.loc≠.mark .enable:=by
 obtain⟨l,a,b⟩:=e;cases l with
 |mark m=>cases m <;> first|(cases h;done)|exact⟨rfl,by simp,by simp⟩
 |_=>cases h
theorem deaf_quiet{d:Nat}{es:Array Event}(h:∀e∈es,quiet e=true):deafBehind d es=d:=deafBehind_still (fun e he=>(mf0 (h e he)).2) d
theorem Z0(P:Program)(gr:W7)(s:Nat):HF P false (fun e=>quiet e=true) (fun m d g=>0<d->Lst P gr m s d g):=
 ⟨fun m d g g' es h1 _ h3 h4 h5 hd=>⟨hd,.inl ⟨g',es,⟨h1,fun e he=>(mf0 (h3 e he)).1,fun w _ _ _=>h4 w⟩,fun e he=>(mf0 (h3 e he)).2,by rw[deaf_quiet h3]at h5;exact h5 hd⟩⟩⟩
theorem ta0(v wt:Nat)(hw:wt <=1)(hv:v<2147483648):IntKind.u64.wrap ((BitVec.ofInt IntKind.u64.bits ((v*4294967296+wt:Nat):Int) &&& BitVec.ofInt IntKind.u64.bits 2147483648).toNat:Int)=0:=by
 have h1:(BitVec.ofInt 64 ((v*4294967296+wt:Nat):Int)).toNat=v*4294967296+wt:=by
  rw[BitVec.ofInt_natCast,BitVec.toNat_ofNat];exact Nat.mod_eq_of_lt Uo
 have h2:(BitVec.ofInt 64 2147483648).toNat=2147483648:=by decide
 show IntKind.u64.wrap ((BitVec.ofInt 64 ((v*4294967296+wt:Nat):Int) &&& BitVec.ofInt 64 2147483648).toNat:Int)=0;rw[BitVec.toNat_and,h1,h2];have h3:(v*4294967296+wt) &&& 2147483648=0:=by
  apply Nat.eq_of_testBit_eq;intro i;rw[Nat.testBit_and,Nat.zero_testBit];by_cases hi:i=31
  ·subst hi;have:(v*4294967296+wt).testBit 31=false:=by
    rw[Nat.testBit_eq_decide_div_mod_eq];have:(v*4294967296+wt)/2 ^ 31=v*2:=by omega
    rw[this];simp
   rw[this];rfl
  ·have:(2147483648:Nat).testBit i=false:=by
    rw[show(2147483648:Nat)=2 ^ 31 by decide,Nat.testBit_two_pow];simp;omega
   rw[this];simp
 rw[h3];decide
theorem mg0(v wt:Nat)(hw:wt <=1)(hv:v<2147483648):IntKind.u64.wrap ((BitVec.ofInt IntKind.u64.bits ((v*4294967296+wt:Nat):Int) &&& BitVec.ofInt IntKind.u64.bits 2147483647).toNat:Int)=(wt:Int):=by
 have h1:(BitVec.ofInt 64 ((v*4294967296+wt:Nat):Int)).toNat=v*4294967296+wt:=by
  rw[BitVec.ofInt_natCast,BitVec.toNat_ofNat];exact Nat.mod_eq_of_lt Uo
 have h2:(BitVec.ofInt 64 2147483647).toNat=2147483647:=by decide
 show IntKind.u64.wrap ((BitVec.ofInt 64 ((v*4294967296+wt:Nat):Int) &&& BitVec.ofInt 64 2147483647).toNat:Int)=_;rw[BitVec.toNat_and,h1,h2,show(2147483647:Nat)=2 ^ 31-1 by decide,Nat.and_two_pow_sub_one_eq_mod];rw[IntKind.wrap_u64];omega
theorem tb0(v wt:Nat)(hw:wt <=1):(((v*4294967296+wt:Nat):Int)).fdiv (2 ^ (min (32:Int).toNat IntKind.u64.bits))=(v:Int):=by
 have:(2:Int) ^ (min (32:Int).toNat IntKind.u64.bits)=4294967296:=by decide
 rw[this,Int.fdiv_eq_ediv_of_nonneg _ Ud];omega
theorem gu0(v:Nat)(hv:v<2147483648):IntKind.i32.wrap (v:Int)=(v:Int):=by
 simp only[IntKind.wrap,IntKind.bits,IntKind.signed];simp;omega
attribute [local irreducible] KK
theorem Fu0:KK=4294967296:=by unfold KK;rfl
theorem Sz0(v wt:Nat)(h:v<2147483647)(hw:wt <=1):IntKind.u64.wrap ((((v+1)*4294967296+wt:Nat):Int)+18446744069414584320)=((v*4294967296+wt:Nat):Int):=by rw[IntKind.wrap_u64];omega
theorem Ta0(v:Nat)(h:v<2147483647):IntKind.u64.wrap (((v*4294967296:Nat):Int)+4294967296)=(((v+1)*4294967296:Nat):Int):=by rw[IntKind.wrap_u64];omega
section
variable{P:Program}{gr:W7}{ft n:Nat}{b:Frame}{cs:List Frame}{ds:List Deferred}{d:Nat}{e:Env}{k:List Item}{ops:Array Oper}{i:Nat}{l:List Oper}{dst:Option Nat}{ty:TypeId}{ps:String}{af:Array Edge}{f:FuncId}{fn:Func}{x y z:Operand}{ats:Array TypeId}
abbrev YLt(P:Program)(gr:W7):Nat->Nat->Goroutine->Prop:=fun m d g=>Lt P gr m d g
abbrev YQ(P:Program):Nat->Nat->Goroutine->Prop:=fun m d g=>QuitsD P m d g
abbrev Os0(P:Program)(gr:W7)(s:Nat):Nat->Nat->Goroutine->Prop:=fun m d g=>0<d->Lst P gr m s d g
theorem Q0.pv1(hk:b.kind≠.early)(hd:z6 n dst=true)(hf:P.funcs[f]? =some fn)(J4:Ue fn)(hb:fn.body.isNone=true)(hn:Extern.findNext fn=none)(he:Extern.find fn=some (Extern.Atomic.update (Op.intArith .add) .u64 true))(hx:ev e x= .pointer (some ⟨gr.blk,gr.off,none⟩))(hy:ev e y= .int .u64 18446744069414584320)
  (h1:∀v wt:Nat,wt <=1->v<2147483647->¬(v=0/\wt=1)->Q0 (YQ P) ft n b cs ds (d+1) (V3 e dst (.int .u64 ((v*4294967296+wt:Nat):Int))) ops (i+1) l k)
  (h2:Q0 (Os0 P gr 2) ft n b cs ds (d+1) (V3 e dst (.int .u64 ((0*4294967296+1:Nat):Int))) ops (i+1) l k) :
  Q0 (YLt P gr) (ft+1) n b cs ds (d+1) e ops i (⟨dst,.call {callee:=.value (.func f),args:=#[x,y],argTypes:=ats},ty,ps,af,none⟩::l) k:=by
 intro hl a ha;obtain⟨ho,x8⟩:=Y5 hl;refine .inr ⟨rfl,Nat.succ_pos d,fun v wt hwt hv=>⟨G (b.at (a.put dst (.int .u64 ((v*4294967296+wt:Nat):Int))) (.inRegion ops (List.range' (i+1) l.length)::k)) cs,fun w hw=>?_,fun X2=>h1 v wt hwt hv X2 x8 _ (ha.put hd _),fun hl2=>?_⟩⟩
 ·rw[Fu0]at hw⊢;obtain⟨c1,_,c3,_⟩:=hw.cells;show stepG P false (G (b.at a (.inRegion ops (i::List.range' (i+1) l.length)::k)) cs) w=_;rw[stepG_add_atomic ho (by rw[ha.yielded];rfl) hk rfl hf J4 hb hn .u64 he (ad:=stA gr) (by rw[ha.eval];exact hx) (by rw[ha.eval];exact hy) c1 c3,Sz0 v wt hv hwt];rfl
 ·obtain⟨rfl,rfl⟩:=hl2;exact h2 x8 _ (ha.put hd _) (Nat.succ_pos d)
theorem Q0.ay1(hk:b.kind≠.early)(hd:z6 n dst=true)(hf:P.funcs[f]? =some fn)(J4:Ue fn)(hb:fn.body.isNone=true)(hn:Extern.findNext fn=none)(he:Extern.find fn=some (Extern.Atomic.loadT (.int .u64)))(hx:ev e x= .pointer (some ⟨gr.blk,gr.off,none⟩))
  (h:Q0 (Os0 P gr 1) ft n b cs ds d (V3 e dst (.int .u64 1)) ops (i+1) l k) :
  Q0 (Os0 P gr 2) (ft+1) n b cs ds d e ops i (⟨dst,.call {callee:=.value (.func f),args:=#[x],argTypes:=ats},ty,ps,af,none⟩::l) k:=by
 intro hl a ha h0;obtain⟨ho,x8⟩:=Y5 hl;refine⟨h0,.inr ⟨rfl,G (b.at (a.put dst (.int .u64 1)) (.inRegion ops (List.range' (i+1) l.length)::k)) cs,fun w hw=>?_,h x8 _ (ha.put hd _) h0⟩⟩;exact stepG_load_atomic (v:=1) ho (by rw[ha.yielded];rfl) hk rfl hf J4 hb hn .u64 he (ad:=stA gr) (by rw[ha.eval];exact hx) hw.cells.1
theorem Q0.Tb0(hk:b.kind≠.early)(hd:z6 n dst=true)(hf:P.funcs[f]? =some fn)(J4:Ue fn)(hb:fn.body.isNone=true)(hn:Extern.findNext fn=none)(he:Extern.find fn=some Extern.Atomic.storeT)(hx:ev e x= .pointer (some ⟨gr.blk,gr.off,none⟩))(hy:ev e y= .int .u64 0)
  (h:Q0 (Os0 P gr 0) ft n b cs ds d (V3 e dst (.tuple #[])) ops (i+1) l k) :
  Q0 (Os0 P gr 1) (ft+1) n b cs ds d e ops i (⟨dst,.call {callee:=.value (.func f),args:=#[x,y],argTypes:=ats},ty,ps,af,none⟩::l) k:=by
 intro hl a ha h0;obtain⟨ho,x8⟩:=Y5 hl;refine⟨h0,.inr ⟨rfl,G (b.at (a.put dst (.tuple #[])) (.inRegion ops (List.range' (i+1) l.length)::k)) cs,fun w hw=>?_,h x8 _ (ha.put hd _) h0⟩⟩;exact stepG_store_atomic ho (by rw[ha.yielded];rfl) hk rfl hf J4 hb hn he (ad:=stA gr) (k:=.u64) (v:=0) (by rw[ha.eval];exact hx) (by rw[ha.eval];exact hy) hw.cells.1 hw.cells.2.2.1
theorem wh0{a:Act}{rest:List Nat}{o:Oper}{xs:Array Operand}
  (ho:ops[i]? =some o) (hop:o.op= .call {callee:=.value (.func f),args:=xs,argTypes:=ats}) (hf:P.funcs[f]? =some fn) (hb:fn.body.isNone=true):mayWake P (G (b.at a (.inRegion ops (i::rest)::k)) cs)=true:=by
 have h2:fn.body=none:=by simpa using hb
 have ef:(b.at a (.inRegion ops (i::rest)::k)).eval (.func f)= .func (.func f) #[] #[]:=rfl;simp[mayWake,G,Frame.at,ho,hop]at ef⊢;simp[ef,hf,h2]
theorem Q0.je1(hk:b.kind≠.early)(hd:z6 n dst=true)(hf:P.funcs[f]? =some fn)(J4:Ue fn)(hb:fn.body.isNone=true)(hn:Extern.findNext fn=none)(he:Extern.find fn=some Extern.Sync.semrelease){asx:Array Operand}(hx:(asx.toList.map (ev e))[0]? =some (.pointer (some ⟨gr.blk,gr.off+1,none⟩)))
  (h:Q0 (YQ P) ft n b cs ds d (V3 e dst (.tuple #[])) ops (i+1) l k) :
  Q0 (Os0 P gr 0) (ft+1) n b cs ds d e ops i (⟨dst,.call {callee:=.value (.func f),args:=asx,argTypes:=ats},ty,ps,af,none⟩::l) k:=by
 intro hl a ha h0;obtain⟨ho,x8⟩:=Y5 hl;refine⟨h0,.inr ⟨rfl,wh0 (rest:=List.range' (i+1) l.length) ho rfl hf hb,G (b.at (a.put dst (.tuple #[])) (.inRegion ops (List.range' (i+1) l.length)::k)) cs,fun w hw=>?_,h x8 _ (ha.put hd _)⟩⟩;have:=stepG_semrelease (P:=P) (main:=false) (b:=b) (kk:=k) (cs:=cs) (rest:=List.range' (i+1) l.length) (n:=0) ho (by rw[ha.yielded];rfl) hk rfl hf J4 hb hn he (ad:=smA gr) (by rw[ha.eval,cn0 rfl];simpa [smA]using hx) hw.cells.2.1 hw.cells.2.2.2;exact this
variable{K:Goroutine->Prop}{E:Nat->Nat->Goroutine->Prop}{o:Option Nat}{V:Nat}
abbrev Tc0(P:Program)(gr:W7)(K:Goroutine->Prop):Nat->Nat->Goroutine->Prop:=fun m d g=>Rh0 P gr K m d g
abbrev Me0(P:Program)(gr:W7)(K:Goroutine->Prop):Nat->Nat->Goroutine->Prop:=fun m d g=>ac1 P gr K m d g
abbrev XWH(P:Program)(gr:W7)(E:Nat->Nat->Goroutine->Prop)(o:Option Nat)(V:Nat):Nat->Nat->Goroutine->Prop:=fun m d g=>WH P gr E m o V d g
abbrev XWS(P:Program)(gr:W7)(E:Nat->Nat->Goroutine->Prop):Nat->Nat->Goroutine->Prop:=fun m d g=>WS P gr E m d g
abbrev YWH(P:Program)(gr:W7)(K:Goroutine->Prop)(o:Option Nat)(V:Nat):Nat->Nat->Goroutine->Prop:=XWH P gr (WE P gr K) o V
abbrev YWE(P:Program)(gr:W7)(K:Goroutine->Prop):Nat->Nat->Goroutine->Prop:=fun m d g=>WE P gr K m d g
def okM(gr:W7)(e:Event):Prop:=Ip0 e=true\/e.loc= .mark (.read ⟨gr.blk,gr.off+1,none⟩)\/e.loc= .mark (.write ⟨gr.blk,gr.off+1,none⟩)
section
variable{g:Goroutine}{Y:Nat->Nat->Goroutine->Prop}{todo:List Item}{ft':Nat}
theorem Mf0{e:Event}(h:okM gr e):GEv gr 0 e:=by
 rcases h with h|h|h
 ·exact rm0 h
 ·obtain⟨l,w,s⟩:=e;cases h;refine⟨fun b hb=>?_,by simp⟩;simp[MemAct.ofEvent,MemAct.touch?]at hb;subst hb;exact⟨⟨_,rfl,rfl,by simp⟩,by simp,fun h=>absurd rfl h⟩
 ·obtain⟨l,w,s⟩:=e;cases h;refine⟨fun b hb=>?_,by simp⟩;simp[MemAct.ofEvent,MemAct.touch?]at hb;subst hb;exact⟨⟨_,rfl,rfl,by simp⟩,by simp,fun h=>absurd rfl h⟩
theorem gv0{g':Goroutine}{es:Array Event}(h1:g.status= .running)(h2:g'.status= .running)(h3:∀e∈es,okM gr e)(h4:∀w st sm,GAt gr st sm w->stepG P true g w= .go g' w es):zk0 P gr g g' es:=⟨h1,h2,fun e he=>Mf0 (h3 e he),h4⟩
theorem C3:HF P true (okM gr) (Tc0 P gr K):=⟨fun _m _d _g g' es h1 h2 h3 h4 h5=>.inl ⟨g',es,gv0 h1 h2 h3 fun w _ _ _=>h4 w,h5⟩⟩
theorem Y0:HF P true (okM gr) (Me0 P gr K):=⟨fun _m _d _g g' es h1 h2 h3 h4 h5=>.inr ⟨g',es,gv0 h1 h2 h3 fun w _ _ _=>h4 w,h5⟩⟩
theorem az1:StG P true gr (Me0 P gr K):=fun m d g g' h1 h2 h3 h4=>.inr ⟨g',#[],gv0 h1 h2 (fun e he=>by simp at he) h3,h4⟩
theorem Z2:HF P true (okM gr) (XWH P gr E o V):=⟨fun _m _d _g g' es h1 h2 h3 h4 h5=>.inl ⟨g',es,gv0 h1 h2 h3 fun w _ _ _=>h4 w,h5⟩⟩
theorem r6:HF P true (okM gr) (XWS P gr E):=⟨fun _m _d _g g' es h1 h2 h3 h4 h5=>.inl ⟨g',es,gv0 h1 h2 h3 fun w _ _ _=>h4 w,h5⟩⟩
theorem pw1:StG P true gr (XWS P gr E):=fun m d g g' h1 h2 h3 h4=>.inl ⟨g',#[],gv0 h1 h2 (fun e he=>by simp at he) h3,h4⟩
theorem R2:HF P true (okM gr) (YWE P gr K):=⟨fun _m _d _g g' es h1 _h2 h3 h4 h5=>.inr ⟨g',es,h1,fun e he=>Mf0 (h3 e he),fun w _=>h4 w,h5⟩⟩
theorem px1:StG P true gr (YWE P gr K):=fun m d g g' h1 h2 h3 h4=>.inr ⟨g',#[],h1,fun e he=>by simp at he,fun w hw=>h3 w _ _ hw,h4⟩
theorem WE.mono:∀{n m d:Nat}{g:Goroutine},WE P gr K n d g->n <=m->WE P gr K m d g
 |0,0,_,_,h,_=>h
 |0,_+1,_,_,h,_=>.inl h
 |n+1,0,_,_,_,hm=>absurd hm Uo
 |n+1,m+1,_,_,h,hm=>h.elim .inl fun⟨g',es,h1,h2,h3,h4⟩=>.inr ⟨g',es,h1,h2,h3,WE.mono h4 Uo⟩
theorem WS.mono(hE:∀(n m d:Nat)(g:Goroutine),E n d g->n <=m->E m d g):∀{n m d:Nat}{g:Goroutine},WS P gr E n d g->n <=m->WS P gr E m d g
 |0,_,_,_,h,_=>h.elim
 |n+1,0,_,_,_,hm=>absurd hm Uo
 |n+1,m+1,_,_,h,hm=>by
  rcases h with⟨g',es,h1,h2⟩|⟨h0,h1,h2,h3,g',h4,h5⟩
  ·exact .inl ⟨g',es,h1,WS.mono hE h2 Uo⟩
  ·exact .inr ⟨h0,h1,h2,h3,g',h4,hE _ _ _ _ h5 Uo⟩
theorem WH.mono(hE:∀(n m d:Nat)(g:Goroutine),E n d g->n <=m->E m d g):∀{n m:Nat}{o:Option Nat}{V d:Nat}{g:Goroutine},WH P gr E n o V d g->n <=m->WH P gr E m o V d g
 |0,_,_,_,_,_,h,_=>h.elim
 |n+1,0,_,_,_,_,_,hm=>absurd hm Uo
 |n+1,m+1,o,V,d,g,h,hm=>by
  unfold WH at h⊢;rcases h with⟨g',es,h1,h2⟩|⟨h1,h2⟩
  ·exact .inl ⟨g',es,h1,WH.mono hE h2 Uo⟩
  ·refine .inr ⟨h1,?_⟩;cases o with
   |none=>
    intro v hv;obtain⟨g',h3,h4,h5⟩:=h2 v hv;exact⟨g',h3,fun hz=>hE _ _ _ _ (h4 hz) Uo,fun hz=>WH.mono hE (h5 hz) Uo⟩
   |some vs=>
    obtain⟨⟨g',h3,h4⟩,h5⟩:=h2;refine⟨⟨g',h3,WS.mono (E:=E) hE h4 Uo⟩,fun v hv=>?_⟩;obtain⟨g2,h6,h7⟩:=h5 v hv;exact⟨g2,h6,WH.mono hE h7 Uo⟩
theorem At.Mg0{t:Nat}{v:Value}(h:∀e,At Y ft n b cs ds d (upd e t v) todo)(he:e t=v):At Y ft n b cs ds d e todo:=by rw[Go.Vc.L0 he];exact h e
theorem At.py1(hE:∀(n m d:Nat)(g:Goroutine),E n d g->n <=m->E m d g)(h:At (XWH P gr E o V) ft n b cs ds d e todo)(hm:ft <=ft'):At (XWH P gr E o V) ft' n b cs ds d e todo:=fun a ha=>WH.mono (E:=E) hE (h a ha) hm
theorem At.Td0(h:At (YWH P gr K o V) ft n b cs ds d e todo)(hm:ft <=ft'):At (YWH P gr K o V) ft' n b cs ds d e todo:=At.py1 (E:=WE P gr K) (fun _ _ _ _=>WE.mono) h hm
theorem AtR.Te0{main:Bool}{ok:Event->Prop}(hY:HF P main ok Y){c:Frame}(hn:b.kind= .normal)(hf:P.funcs[b.fn]? =some fn)(hr:fn.results=#[])(h:Y ft d (G (c.finish (.tuple #[])) cs)):AtR Y (ft+1) n b (c::cs) [] d e todo:=
 fun _a ha=>hY.c rfl rfl (fun w=>stepG_leave hn ha.defers hf (results_none hr _ P w) (events_results_none hr _ _)) h
theorem Tf0(h:K g):Me0 P gr K n 0 g:=by cases n with
 |zero=>exact⟨rfl,h⟩
 |succ n=>exact .inl ⟨rfl,h⟩
theorem jf1(h:K g):YWE P gr K n 0 g:=by cases n with
 |zero=>exact⟨rfl,h⟩
 |succ n=>exact .inl ⟨rfl,h⟩
theorem Q0.ad1(hk:b.kind≠.early)(hd:z6 n dst=true)(hf:P.funcs[f]? =some fn)(J4:Ue fn)(hb:fn.body.isNone=true)(hn:Extern.findNext fn=none)(he:Extern.find fn=some (Extern.Atomic.update (Op.intArith .add) .u64 true))(hx:ev e x= .pointer (some ⟨gr.blk,gr.off,none⟩))(hy:ev e y= .int .u64 4294967296)
  (h:∀v:Nat,v<2147483647->Q0 (Me0 P gr K) ft n b cs ds d (V3 e dst (.int .u64 (((v+1)*4294967296+0:Nat):Int))) ops (i+1) l k) :
  Q0 (Tc0 P gr K) (ft+1) n b cs ds d e ops i (⟨dst,.call {callee:=.value (.func f),args:=#[x,y],argTypes:=ats},ty,ps,af,none⟩::l) k:=by
 intro hl a ha;obtain⟨ho,x8⟩:=Y5 hl;simp only[Nat.add_zero]at h;refine .inr ⟨rfl,fun v hv=>⟨G (b.at (a.put dst (.int .u64 (((v+1)*4294967296:Nat):Int))) (.inRegion ops (List.range' (i+1) l.length)::k)) cs,rfl,fun w hw=>?_,h v hv x8 _ (ha.put hd _)⟩⟩;rw[Fu0]at hw⊢;obtain⟨c1,_,c3,_⟩:=hw.cells;show stepG P true (G (b.at a (.inRegion ops (i::List.range' (i+1) l.length)::k)) cs) w=_;rw[stepG_add_atomic ho (by rw[ha.yielded];rfl) hk rfl hf J4 hb hn .u64 he (ad:=stA gr) (by rw[ha.eval];exact hx) (by rw[ha.eval];exact hy) c1 c3,Ta0 v hv];rfl
theorem Q0.jg1(hk:b.kind≠.early)(hd:z6 n dst=true)(hf:P.funcs[f]? =some fn)(J4:Ue fn)(hb:fn.body.isNone=true)(hn:Extern.findNext fn=none)(he:Extern.find fn=some (Extern.Atomic.loadT (.int .u64)))(hx:ev e x= .pointer (some ⟨gr.blk,gr.off,none⟩))
  (h0:Q0 E ft n b cs ds d (V3 e dst (.int .u64 0)) ops (i+1) l k)
  (h:∀v:Nat,v <=V->0<v->Q0 (XWH P gr E (some v) V) ft n b cs ds d (V3 e dst (.int .u64 ((v*4294967296+0:Nat):Int))) ops (i+1) l k) :
  Q0 (XWH P gr E none V) (ft+1) n b cs ds d e ops i (⟨dst,.call {callee:=.value (.func f),args:=#[x],argTypes:=ats},ty,ps,af,none⟩::l) k:=by
 intro hl a ha;obtain⟨ho,x8⟩:=Y5 hl;simp only[Nat.add_zero]at h;refine .inr ⟨rfl,fun v hv=>⟨G (b.at (a.put dst (.int .u64 ((v*4294967296:Nat):Int))) (.inRegion ops (List.range' (i+1) l.length)::k)) cs,fun w hw=>?_,fun hz=>?_,fun hz=>h v hv Uo x8 _ (ha.put hd _)⟩⟩
 ·rw[Fu0]at hw;exact stepG_load_atomic ho (by rw[ha.yielded];rfl) hk rfl hf J4 hb hn .u64 he (ad:=stA gr) (by rw[ha.eval];exact hx) hw.cells.1
 ·subst hz;rw[Nat.zero_mul];exact h0 x8 _ (ha.put hd _)
theorem Q0.pz1{vs:Nat}(hk:b.kind≠.early)(hd:z6 n dst=true)(hf:P.funcs[f]? =some fn)(J4:Ue fn)(hb:fn.body.isNone=true)(hn:Extern.findNext fn=none)(he:Extern.find fn=some (Extern.Atomic.casT (.int .u64)))(hx:ev e x= .pointer (some ⟨gr.blk,gr.off,none⟩))(hy:ev e y= .int .u64 ((vs*4294967296+0:Nat):Int))(hz:ev e z= .int .u64 ((vs*4294967296+1:Nat):Int))
  (h0:Q0 (XWS P gr E) ft n b cs ds d (V3 e dst (.bool true)) ops (i+1) l k)
  (h:∀v:Nat,v<vs->Q0 (XWH P gr E none v) ft n b cs ds d (V3 e dst (.bool false)) ops (i+1) l k) :
  Q0 (XWH P gr E (some vs) V) (ft+1) n b cs ds d e ops i (⟨dst,.call {callee:=.value (.func f),args:=#[x,y,z],argTypes:=ats},ty,ps,af,none⟩::l) k:=by
 intro hl a ha;obtain⟨ho,x8⟩:=Y5 hl;rw[Nat.add_zero]at hy;refine .inr ⟨rfl,⟨G (b.at (a.put dst (.bool true)) (.inRegion ops (List.range' (i+1) l.length)::k)) cs,fun w hw=>?_,h0 x8 _ (ha.put hd _)⟩,fun v hv=>⟨G (b.at (a.put dst (.bool false)) (.inRegion ops (List.range' (i+1) l.length)::k)) cs,fun w hw=>?_,h v hv x8 _ (ha.put hd _)⟩⟩
 ·rw[Fu0]at hw⊢;exact stepG_cas_hit ho (by rw[ha.yielded];rfl) hk rfl hf J4 hb hn .u64 he (ad:=stA gr) (by rw[ha.eval];exact hx) (by rw[ha.eval];exact hy) (by rw[ha.eval];exact hz) hw.cells.1 hw.cells.2.2.1
 ·rw[Fu0]at hw;exact stepG_cas_miss ho (by rw[ha.yielded];rfl) hk rfl hf J4 hb hn .u64 he (ad:=stA gr) (by rw[ha.eval];exact hx) (by rw[ha.eval];exact hy) (by rw[ha.eval];exact hz) hw.cells.1 hw.cells.2.2.1 Uo
theorem Q0.qa1(hk:b.kind≠.early)(hd:z6 n dst=true)(hf:P.funcs[f]? =some fn)(J4:Ue fn)(hb:fn.body.isNone=true)(hn:Extern.findNext fn=none)(he:Extern.find fn=some Extern.Sync.semacquire){asx:Array Operand}(hx:(asx.toList.map (ev e))[0]? =some (.pointer (some ⟨gr.blk,gr.off+1,none⟩)))
  (h:Q0 E ft n b cs ds (d+1) (V3 e dst (.tuple #[])) ops (i+1) l k) :
  Q0 (XWS P gr E) (ft+1) n b cs ds (d+1) e ops i (⟨dst,.call {callee:=.value (.func f),args:=asx,argTypes:=ats},ty,ps,af,none⟩::l) k:=by
 intro hl a ha;obtain⟨ho,x8⟩:=Y5 hl;have N5:(asx.map a.eval)[0]? =some (.pointer (some (smA gr))):=by rw[ha.eval,cn0 rfl];simpa [smA]using hx
 refine .inr ⟨Nat.succ_pos d,rfl,rfl,fun w st hw=>?_,G (b.at (a.put dst (.tuple #[])) (.inRegion ops (List.range' (i+1) l.length)::k)) cs,fun w hw=>?_,h x8 _ (ha.put hd _)⟩
 ·exact stepG_semacquire_wait ho (by rw[ha.yielded];rfl) rfl hf J4 hb hn he N5 hw.cells.2.1
 ·exact stepG_semacquire (n:=1) ho (by rw[ha.yielded];rfl) hk rfl hf J4 hb hn he N5 hw.cells.2.1 Ud hw.cells.2.2.2
theorem Q0.jh1(hk:b.kind≠.early)(hd:z6 n dst=true)(hf:P.funcs[f]? =some fn)(J4:Ue fn)(hb:fn.body.isNone=true)(hn:Extern.findNext fn=none)(he:Extern.find fn=some (Extern.Atomic.loadT (.int .u64)))(hx:ev e x= .pointer (some ⟨gr.blk,gr.off,none⟩))
  (h:Q0 (YWE P gr K) ft n b cs ds d (V3 e dst (.int .u64 0)) ops (i+1) l k) :
  Q0 (YWE P gr K) (ft+1) n b cs ds d e ops i (⟨dst,.call {callee:=.value (.func f),args:=#[x],argTypes:=ats},ty,ps,af,none⟩::l) k:=by
 intro hl a ha;obtain⟨ho,x8⟩:=Y5 hl;refine .inr ⟨G (b.at (a.put dst (.int .u64 0)) (.inRegion ops (List.range' (i+1) l.length)::k)) cs,#[rdA (stA gr)],rfl,Iq0,fun w hw=>?_,?_⟩
 ·exact stepG_load_atomic ho (by rw[ha.yielded];rfl) hk rfl hf J4 hb hn .u64 he (ad:=stA gr) (by rw[ha.eval];exact hx) hw.cells.1
 ·rw[deafBehind_still mx0];exact h x8 _ (ha.put hd _)
end
end
end
end Go.Wg
end
section
namespace Go.Vy
open Go Go.Conc Go.Yc Go.RowKit
open Go.Vc
section
variable{P:Program}[Ctx P]{Z:Goroutine->World->Prop}{Q:Exit->Act->World->Prop}{ops:Array Oper}{b:Frame}{k:List Item}{cs:List Frame}
theorem Jg0(hZ:Ctx.Zs P Z)(hb:b.kind≠.early)(hk:∀ch a' w',Q (.panic ch) a' w'->Is0 Z b k cs (.panic ch) a' w'){i:Nat}{rest:List Nat}{o:Oper}{a:Act}{w:World}(ho:ops[i]? =some o)
  (h:if Region.wanted o (yielded ops a.tmps) then vq0 P o a w (fun a w=>Z (G (b.at a (.inRegion ops rest::k)) cs) w) Q else Z (G (b.at (a.put o.dst undef) (.inRegion ops rest::k)) cs) w):Z (G (b.at a (.inRegion ops (i::rest)::k)) cs) w:=by
 cases hw:Region.wanted o (yielded ops a.tmps)with
 |false=>
  rw[hw]at h;exact(Ctx.cl Z hZ).ctl rfl rfl (fun w=>stepG_unwanted ho hw) h
 |true=>
  rw[hw,if_pos rfl]at h;have eo0:∀v,(b.at a (.inRegion ops (i::rest)::k)).finish v=b.at (a.put o.dst v) (.inRegion ops rest::k):=by
   intro v;rw[Frame.finish_at,ho];rfl
  have Rq0:(b.kind==CallKind.early)=false:=by simpa using hb
  refine(Ctx.cl Z hZ).own _ _ rfl fun τ d=>?_;obtain⟨r,w',hr,hK⟩:=h τ d;have fol:∀g',g'.status= .running->(∀x x' es,(execOp a.eval o).runT P x #[]=(r.res x',es)->stepG P (Ctx.main P) (G (b.at a (.inRegion ops (i::rest)::k)) cs) x= .go g' x' (seen P b.fn es))->M6 P (Ctx.main P) (G (b.at a (.inRegion ops (i::rest)::k)) cs) (G2 w τ d) g' w':=by
   intro g' hg' hs;refine⟨hg',fun ρ x hx=>?_⟩;obtain⟨h1,x',es,h2,h3,h4⟩:=hr ρ x hx;exact⟨h1,x',_,hs x x' es h2,h3,fun e he=>h4 e (mem_seen he)⟩
  have split:∀x x' es,(execOp a.eval o).runT P x #[]=(r.res x',es)->(execOp a.eval o).run P x=r.res x'/\(execOp a.eval o).events P x #[]=es:=fun x x' es h=>by
   rw[Sem.runT_eq]at h;exact Prod.mk.inj h
  cases r with
  |val v=>
   refine⟨G (b.at (a.put o.dst v) (.inRegion ops rest::k)) cs,w',w.drawn,fol _ rfl fun x x' es h=>?_,hK⟩;obtain⟨h1,h2⟩:=split x x' es h;rw[stepG_value ho hw hb h1,listed,h2]
  |skip=>
   refine⟨G (b.at (a.put o.dst undef) (.inRegion ops rest::k)) cs,w',w.drawn,fol _ rfl fun x x' es h=>?_,hK⟩;obtain⟨h1,h2⟩:=split x x' es h;rw[stepG_none ho hw hb h1,listed,h2]
  |enter f args=>
   refine⟨G (Frame.enter P f args .normal) (b.at a (.inRegion ops (i::rest)::k)::cs),w',w.drawn,fol _ rfl fun x x' es h=>?_,hK Z hZ _ fun e w'' fr he hf hl=>?_⟩
   ·obtain⟨h1,h2⟩:=split x x' es h;rw[stepG_enter ho hw hb h1,listed,h2]
   ·cases e with
    |returned v=>
     refine U543 ?_;exact he
    |panicked chain=>
     refine U517 ?_;exact hk _ _ _ he _
    |outgrown=>exact he.elim
  |panic v=>
   refine⟨G {b.at a (.inRegion ops (i::rest)::k)with mode:=.panicking [{v,recovered:=false}]} cs,w',w.drawn,fol _ rfl fun x x' es h=>?_,hk _ _ _ hK _⟩;obtain⟨h1,h2⟩:=split x x' es h;have h1':(execOp a.eval o).run P x= .halt (.panic v) x':=h1;rw[stepG_oper ho hw];simp[stepG.apply,h1',h2,G,Frame.at,Rq0,GStep.after,Frame.raise]
theorem ld0(hZ:Ctx.Zs P Z)(hb:b.kind≠.early){suf:List Nat}(hk:∀ch a' w',Q (.panic ch) a' w'->Is0 Z b k cs (.panic ch) a' w')(hn:∀a' w',Q .normal a' w'->Z (G (b.at a' (.inRegion ops suf::k)) cs) w') :
  ∀(pre:List Nat)(a:Act)(w:World),wpOps P ops Q pre a w->Z (G (b.at a (.inRegion ops (pre++suf)::k)) cs) w
 | [],a,w,h=>hn a w h
 |i::pre,a,w,h=>by
  unfold wpOps at h;cases ho:ops[i]? with
  |none=>rw[ho]at h;exact h.elim
  |some o=>
   rw[ho]at h;simp only at h;refine Jg0 hZ hb hk ho ?_;show if _ then vq0 P o a w (fun a w=>Z (G (b.at a (.inRegion ops (pre++suf)::k)) cs) w) Q else _
   by_cases hw:Region.wanted o (yielded ops a.tmps)=true
   ·rw[if_pos hw]at h⊢;exact ky0 (fun a w h=>ld0 hZ hb hk hn pre a w h) (fun _ _ _ z=>z) h
   ·rw[if_neg hw]at h⊢;exact ld0 hZ hb hk hn pre _ _ h
def ZA[Go.Vc.K3](Z:Goroutine->World->Prop)(n:Nat)(b:Frame)(cs:List Frame)(e:Env)(todo:List Item)(w:World):Prop:=∀a,Rep n a e->Z (G (b.at a todo) cs) w
variable{n:Nat}{e:Env}{w:World}
theorem ZA.c[Go.Vc.K3](hZ:Ctx.Zs P Z){todo qa0:List Item}(hs:∀a w,stepG P (Ctx.main P) (G (b.at a todo) cs) w= .go (G (b.at a qa0) cs) w #[])(h:ZA Z n b cs e qa0 w):ZA Z n b cs e todo w:=
 fun a ha=>(Ctx.cl Z hZ).ctl rfl rfl (hs a) (h a ha)
theorem ZA.seq[Go.Vc.K3](hZ:Ctx.Zs P Z){x y:Code}(h:ZA Z n b cs e (.code x :: .code y::k) w):ZA Z n b cs e (.code (.seq x y)::k) w:=ZA.c hZ (fun _ _=>stepG_seq) h
theorem ZA.skip[Go.Vc.K3](hZ:Ctx.Zs P Z)(h:ZA Z n b cs e k w):ZA Z n b cs e (.code .skip::k) w:=ZA.c hZ (fun _ _=>stepG_skip) h
theorem ZA.block[Go.Vc.K3](hZ:Ctx.Zs P Z){id:Nat}{c:Code}(h:ZA Z n b cs e (.code c :: .inBlock id::k) w):ZA Z n b cs e (.code (.block id c)::k) w:=ZA.c hZ (fun _ _=>stepG_block) h
theorem ZA.loop[Go.Vc.K3](hZ:Ctx.Zs P Z){c:Code}(h:ZA Z n b cs e (.code c :: .inLoop c::k) w):ZA Z n b cs e (.code (.loop c)::k) w:=ZA.c hZ (fun _ _=>stepG_loop) h
theorem ZA.inBlock[Go.Vc.K3](hZ:Ctx.Zs P Z){id:Nat}(h:ZA Z n b cs e k w):ZA Z n b cs e (.inBlock id::k) w:=ZA.c hZ (fun _ _=>stepG_inBlock) h
theorem ZA.inLoop[Go.Vc.K3](hZ:Ctx.Zs P Z){c:Code}(h:ZA Z n b cs e (.code c :: .inLoop c::k) w):ZA Z n b cs e (.inLoop c::k) w:=ZA.c hZ (fun _ _=>stepG_inLoop) h
theorem ZA.exit[Go.Vc.K3](hZ:Ctx.Zs P Z){id:Nat}{k':List Item}(hk:exitTo id k=some k')(h:ZA Z n b cs e k' w):ZA Z n b cs e (.code (.exit id)::k) w:=ZA.c hZ (fun _ _=>stepG_exit hk) h
theorem ZA.cond[Go.Vc.K3](hZ:Ctx.Zs P Z){c:Operand}{x y:Code}{t:Bool}(hc:ev e c= .bool t)(h:ZA Z n b cs e (.code (if t then x else y)::k) w):ZA Z n b cs e (.code (.cond c x y)::k) w:=
 fun a ha=>(Ctx.cl Z hZ).ctl rfl rfl (fun _=>stepG_cond (by rw[ha.eval];exact hc)) (h a ha)
theorem ZA.Y4[Go.Vc.K3](hZ:Ctx.Zs P Z)(h:ZA Z n b cs e k w):ZA Z n b cs e (.inRegion ops []::k) w:=ZA.c hZ (fun _ _=>stepG_region_end) h
def ZR[Go.Vc.K3](Z:Goroutine->World->Prop)(n:Nat)(b:Frame)(cs:List Frame)(e:Env)(w:World):Prop:=∀todo,∀a,Rep n a e->Z (G {b.at a todo with mode:=.returning} cs) w
section
variable{R:Env->World->Prop}{id:Nat}{l:List Oper}{k':List Item}
theorem ZA.ret[Go.Vc.K3](hZ:Ctx.Zs P Z)(h:ZR Z n b cs e w):ZA Z n b cs e (.code .ret::k) w:=fun a ha=>(Ctx.cl Z hZ).ctl rfl rfl (fun _=>stepG_ret') (h _ a ha)
theorem ZA.done[Go.Vc.K3](hZ:Ctx.Zs P Z)(h:ZR Z n b cs e w):ZA Z n b cs e [] w:=fun a ha=>(Ctx.cl Z hZ).ctl rfl rfl (fun _=>stepG_end) (h _ a ha)
theorem ZA.piece[Go.Vc.K3](hZ:Ctx.Zs P Z)(hb:b.kind≠.early){c:Code}(h:W P n c (x9 R fun _ _ _=>False) e w)(hk:∀e' w',R e' w'->ZA Z n b cs e' k w'):ZA Z n b cs e (.code c::k) w:=by
 intro a ha;refine h a ha Z hZ b k cs hb fun x a' w' hx=>?_;obtain⟨e',r,hq⟩:=hx;cases x with
 |normal=>exact hk e' w' hq a' r
 |exit _=>exact hq.elim
 |goto _=>exact hq.elim
 |ret=>exact hq.elim
 |panic _=>exact hq.elim
 |outgrown=>exact hq.elim
theorem mh0:∀(l:List Oper)(k:Nat)(a:Act)(w:World),(∀j,j<l.length->l[j]? =ops[k+j]?)->wpList P ops Q l a w->wpOps P ops Q (List.range' k l.length) a w
 | [],_,_,_,_,h=>h
 |o::l,k,a,w,hj,h=>by
  have h0:ops[k]? =some o:=by simpa using(hj 0 (by simp)).symm
  have ih:=fun a w=>mh0 l (k+1) a w (fun j hl=>by have:=hj (j+1) (by simpa using hl);simpa [Nat.add_assoc,Nat.add_comm 1 j]using this);rw[List.length_cons,List.range'_succ];unfold wpOps;rw[h0];unfold wpList at h;by_cases hw:Region.wanted o (yielded ops a.tmps)=true
  ·simp only[if_pos hw]at h⊢;exact ky0 ih (fun _ _ _ z=>z) h
  ·simp only[if_neg hw]at h⊢;exact ih _ _ h
theorem ZA.upto[Go.Vc.K3](hZ:Ctx.Zs P Z)(hb:b.kind≠.early)(kk:Nat)(hB:ag1 n l=true)(hkl:Nat.ble kk l.length=true)(h:L P n l.toArray (x9 R fun _ _ _=>False) (l.take kk) e w)
  (hk:∀e' w',R e' w'->ZA Z n b cs e' (.inRegion l.toArray (List.range' kk (l.length-kk))::k) w'):ZA Z n b cs e (.code (.region id l.toArray false)::k) w:=by
 intro a ha;have hle:kk <=l.length:=Nat.le_of_ble_eq_true hkl;refine(Ctx.cl Z hZ).ctl rfl rfl (fun _=>stepG_region) ?_;have h1:=h (fun o ho=>List.all_eq_true.1 hB o (List.mem_of_mem_take ho)) a ha;have h2:=mh0 (l.take kk) 0 a w (fun j hj=>by
  rw[List.getElem?_take_of_lt (by simp at hj;omega)];simp) h1
 have h3:(l.take kk).length=kk:=by simp;omega
 rw[h3]at h2;have h4:List.range l.toArray.size=List.range' 0 kk++List.range' kk (l.length-kk):=by
  have:=List.range'_append_1 (s:=0) (m:=kk) (n:=l.length-kk);rw[Nat.zero_add]at this;rw[List.range_eq_range',List.size_toArray,this];congr 1;omega
 rw[h4];exact ld0 hZ hb (fun ch a' w' hx=>by obtain⟨_,_,hx⟩:=hx;exact hx.elim) (fun a' w' hx=>by
  obtain⟨e',r,hq⟩:=hx;exact hk e' w' hq a' r) _ a w h2
theorem ji1[Go.Vc.K3]{V:(Nat->Bool)->Prop}{J:(Nat->Bool)->World->Prop}(WP:List Nat->Act->World->Prop)(qb1:∀i σ o a w,ops[i]? =some o->(if Region.wanted o (yielded ops a.tmps) then vq0 P o a w (WP σ) Q else WP σ (a.put o.dst undef) w)->WP (i::σ) a w)(h:Ord n ops){e0:Env}{vals:Nat->Value}{k:Nat}(hk:k<ops.size)(Sm0:∀i o,i<k->ops[i]? =some o->Loc P ops V J i o (EE e0 ops.toList vals i) (vals i))
  (ep0:∀D,V D->∀i,k <=i->i<ops.size->D i=true->∀j,j<i->D j=true)
  (hQ:∀a w D,Rep n a (EE e0 ops.toList vals k)->(∀i,i<k->D i=true)->J D w->WP (List.range' k (ops.size-k)) a w) :
  ∀{listed:Array Bool}{σ:List Nat},Lin ops listed σ->(∀τ ρ,σ=τ++ρ->V (fun j=>listed.getD j false ||τ.contains j)) ->
   ∀(a:Act)(e:Env)(w:World),listed.size=ops.size->(∀j,k <=j->listed.getD j false=false)->Rep n a e->Mid ops e0 vals listed e->J (fun j=>listed.getD j false) w->WP σ a w:=by
 intro listed σ R5
 induction R5 with
 | @nil listed hr=>
  intro _ a e w hs hkf ha hm hJ;have:=la0 h hs hr k Uo;rw[hkf k (Nat.le_refl _)]at this;cases this
 | @cons listed i σ hi hl ih=>
  intro hV a e w hs hkf ha hm hJ;have hi0:=hi;obtain⟨h1,o,ho,P5⟩:=mem_ready.1 hi;have hio:i<ops.size:=(Array.getElem?_eq_some_iff.1 ho).1;have z8:i<listed.size:=by omega
  have K9:(fun j=>listed.getD j false) i=false:=by
   show listed.getD i false=false;simp only[Array.getD_eq_getD_getElem?,z8,Array.getElem?_eq_getElem,Option.getD_some]at h1⊢;exact h1
  have hVD:V (fun j=>listed.getD j false):=by
   have:=hV [] (i::σ) rfl;have e1:(fun j=>listed.getD j false ||([]:List Nat).contains j)=fun j=>listed.getD j false:=funext fun j=>by simp
   rw[e1]at this;exact this
  have hVD:V (fun j=>listed.getD j false)/\V (E4 (fun j=>listed.getD j false) i):=by
   refine⟨hVD,?_⟩;have:=hV [i] σ rfl;have e1:(fun j=>listed.getD j false ||([i]:List Nat).contains j)=E4 (fun j=>listed.getD j false) i:=funext fun j=>by
    unfold E4;by_cases hj:j=i
    ·simp[hj]
    ·simp[hj]
   rw[e1]at this;exact this
  by_cases hik:k <=i
  ·have at0:∀j,j<i->listed.getD j false=true:=fun j hj=>by
    have:=ep0 _ hVD.2 i hik hio (by simp[E4]) j hj;unfold E4 at this;rw[if_neg Uo]at this;exact this
   have hki:i=k:=by
    rcases Nat.lt_or_ge k i with h3|h3
    ·have:=at0 k h3;rw[hkf k (Nat.le_refl _)]at this;cases this
    ·omega
   subst hki;refine U532 ?_;intro hσ;have he:e=EE e0 ops.toList vals i:=by
    funext t;have hlz:∀j:Nat,ops.toList[j]? =ops[j]?:=fun j=>by rw[Array.getElem?_toList]
    by_cases hex:∃(j:Nat) (p:Oper),j<i/\ops[j]? =some p/\p.dst=some t
    ·obtain⟨j,p,hj,hp,hd⟩:=hex;exact U399
    ·rw[hm.rt0 t (fun j p hp hd=>by
      rcases Nat.lt_or_ge j i with h3|h3
      ·exact absurd ⟨j,p,h3,hp,hd⟩ hex
      ·exact hkf j h3)]
     exact(my0 e0 ops.toList vals t _ (fun j p hj hp hd=>hex ⟨j,p,hj,by rw[<- hlz];exact hp,hd⟩)).symm
   subst he;exact hQ a w _ ha at0 hJ
  ·have hlk:=ru0 h hm ho P5;refine U347 ?_;intro hex hwa;have hV':∀τ ρ,σ=τ++ρ->V (fun j=>(listed.setIfInBounds i true).getD j false ||τ.contains j):=by
    intro τ ρ hσ;have:=hV (i::τ) ρ (by rw[hσ];rfl);have e1:(fun j=>listed.getD j false ||(i::τ).contains j)=fun j=>(listed.setIfInBounds i true).getD j false ||τ.contains j:=by
     funext j;by_cases hj:i=j
     ·subst hj;simp[z8]
     ·rw[getD_set_ne false hj];simp[Ne.symm hj]
    rw[e1]at this;exact this
   have next:∀w',J (E4 (fun j=>listed.getD j false) i) w'->WP σ (a.put o.dst (vals i)) w':=by
    intro w' hJ';refine ih hV' _ _ w' (by simp[hs]) (fun j hj=>by rw[getD_set_ne false Uo];exact hkf j hj) (ha.put (h.dst i o ho) (vals i)) (hm.step h ho z8) ?_;rw[mz0 z8];exact hJ'
   refine qb1 i σ o a w ho ?_;rw[c6 ha,hwa];rcases Sm0 i o Uo ho with⟨hw,hl⟩|⟨hw,hv,hl⟩
   ·rw[if_pos hw];have x8:=hl (fun j=>listed.getD j false) w K9 hVD P5 hJ;rw[<- hex,<- ha.eval]at x8;exact ss0 x8 next
   ·rw[if_neg (by rw[hw];simp)];exact U505
theorem ZA.Ac0[Go.Vc.K3](hZ:Ctx.Zs P Z)(hb:b.kind≠.early)(k:Nat)(hm:P.follows .mixedOrders=true)(hB:vs0 n l.toArray=true)(hA:sl0 l k=true)(hk:Nat.blt k l.length=true)
  (h:∀V:(Nat->Bool)->Prop,(∀D D',V D->V D'->(∀k,D k=true->D' k=true)\/(∀k,D' k=true->D k=true))->(∀D,V D->∀i o,l[i]? =some o->D i=true->j6 o D) ->
   ∃J:(Nat->Bool)->World->Prop,J (fun _=>false) w.drew/\JL P l.toArray V J (fun e'=>∀D w',(∀i,i<k->D i=true)->J D w'->ZA Z n b cs e' (.inRegion l.toArray (List.range' k (l.length-k))::k') w') 0 (l.take k) e):ZA Z n b cs e (.code (.region id l.toArray true)::k') w:=by
 intro a ha;have ho:=Iu0 hB;have hkl:k<l.length:=by rw[Nat.blt_eq]at hk;exact hk
 refine(Ctx.cl Z hZ).own _ _ rfl fun τ d=>?_;refine⟨G (b.at a (.inRegion l.toArray (Region.schedule (P.follows .mixedOrders) l.toArray (τ d (.order b.fn id)))::k')) cs,{G2 w τ d with drawn:=d+1},w.drawn+1,⟨rfl,fun ρ x hx=>⟨⟨Nat.le_refl _,fun _ o ho=>⟨o,ho,P4.refl o⟩⟩,{x with drawn:=x.drawn+1},#[],?_,?_,fun e he=>by simp at he⟩⟩,?_⟩
 ·rw[stepG_region_draw,hx.tape,hx.drawn];rfl
 ·exact⟨hx.os,hx.output,hx.tape,by show x.drawn+1=d+1;rw[hx.drawn];rfl,hx.size,hx.obj,hx.new,hx.k9⟩
 show Z (G (b.at a (.inRegion l.toArray (Region.schedule (P.follows .mixedOrders) l.toArray (τ d (.order b.fn id)))::k')) cs) w.drew;generalize τ d (.order b.fn id)=t;simp only[Region.schedule,hm,Bool.true_or,if_true];have R5:=lw0 l.toArray l.toArray.size t (Array.replicate l.toArray.size false) (by simp) (by simp);unfold Region.linearise;generalize Region.linearise.go .any l.toArray l.toArray.size t (Array.replicate l.toArray.size false) []=σ at R5⊢;have iu0:=iq0 R5 (fun i o _ hi=>by rw[K0]at hi;cases hi) (by simp);have fi0:∀D,Pre σ D->∀i o,l[i]? =some o->D i=true->j6 o D:=by
  rintro D ⟨τ,ρ,hσ,hD⟩ i o hi K9 x hx hb;have:=iu0 τ ρ hσ i o (by simpa using hi) (.inr ((hD i).1 K9)) x hx hb;rcases this with h1|h1
  ·rw[K0]at h1;cases h1
  ·exact(hD _).2 h1
 obtain⟨J,hJ,hjl⟩:=h (Pre σ) (fun D D' h1 h2=>h1.chain h2) fi0;obtain⟨vals,h1,h2⟩:=JL.collect (l.take k) 0 e hjl;have hEE:∀j,j <=k->EE e (l.take k) vals j=EE e l vals j:=by
  intro j
  induction j with
  |zero=>intro _;rfl
  |succ j ih=>
   intro hj;simp only[EE,ih Uo];rw[List.getElem?_take_of_lt Uo]
 have O1:(l.take k).length=k:=by simp;omega
 refine ji1 (Q:=fun _ _ _=>False) (fun σ a w=>Z (G (b.at a (.inRegion l.toArray σ::k')) cs) w) (fun i σ o a w ho h=>Jg0 hZ hb (fun _ _ _ hx=>hx.elim) ho h) (V:=Pre σ) (J:=J) ho (e0:=e) (vals:=vals) (k:=k) (by simpa using hkl) (fun i o' hi ho'=>?_) (fun D hD i hki z8=>sm0 hA fi0 hD i hki (by simpa using z8)) (fun a' w' D ha' hD hJ'=>?_) R5 ?_ a e _ (by simp) (fun j _=>K0 _ _) ha ⟨fun j o t _ _ hl=>?_,fun t _=>rfl⟩ ?_
 ·have:=h1 i o' (by rw[List.getElem?_take_of_lt hi];simpa using ho');rw[hEE i Uo]at this;simpa using this
 ·rw[O1,hEE k (Nat.le_refl _)]at h2;have h6:l.toArray.size-k=l.length-k:=by simp
  rw[h6];exact h2 D w' hD hJ' a' (by simpa using ha')
 ·intro τ ρ hσ;exact⟨τ,ρ,hσ,fun k=>by show((Array.replicate l.toArray.size false).getD k false ||τ.contains k)=true↔_;rw[K0];simp⟩
 ·rw[K0]at hl;cases hl
 ·have:(fun k=>(Array.replicate l.toArray.size false).getD k false)=fun _=>false:=funext fun k=>K0 _ _;rw[this];exact hJ
theorem ZA.px0[Go.Vc.K3](hZ:Ctx.Zs P Z)(hb:b.kind≠.early)(k:Nat)(Cl:World->Prop)(hm:P.follows .mixedOrders=true)(hB:vs0 n l.toArray=true)(hA:sl0 l k=true)(hk:Nat.blt k l.length=true)
  (hC:Cl w.drew) (h:QL P l.toArray Cl (fun e'=>∀w',Cl w'->ZA Z n b cs e' (.inRegion l.toArray (List.range' k (l.length-k))::k') w') 0 (l.take k) e):ZA Z n b cs e (.code (.region id l.toArray true)::k') w:=by
 refine ZA.Ac0 hZ hb k hm hB hA hk fun V _ _=>⟨fun _=>Cl,hC,?_⟩
 have mono:∀(l':List Oper)(i:Nat)(e:Env),JL P l.toArray V (fun _=>Cl) (fun e'=>∀w',Cl w'->ZA Z n b cs e' (.inRegion l.toArray (List.range' k (l.length-k))::k') w') i l' e->JL P l.toArray V (fun _=>Cl) (fun e'=>∀(D:Nat->Bool) w',(∀i,i<k->D i=true)->Cl w'->ZA Z n b cs e' (.inRegion l.toArray (List.range' k (l.length-k))::k') w') i l' e:=by
  intro l'
  induction l' with
  |nil=>exact fun i e h _ w' _ hw=>h w' hw
  |cons o l' ih=>exact fun i e ⟨v,h1,h2⟩=>⟨v,h1,ih _ _ h2⟩
 exact mono _ 0 e (h V)
end
end
def P1(w:World)(b:Nat)(cs:Array Value)(T:TypeId)(f:Nat×Nat):Prop:=w.heap[b]? =some (.cells cs T f)
section
variable{w w':World}{b o:Nat}{cs:Array Value}{T:TypeId}{f:Nat×Nat}{v:Value}
theorem S3(h:I0 w b cs T):P1 w b cs T (0,0):=h
theorem P1.lt(h:P1 w b cs T f):b<w.heap.size:=(Array.getElem?_eq_some_iff.1 h).1
theorem P1.cell(h:P1 w b cs T f)(hv:cs[o]? =some v):w.cell? ⟨b,o,none⟩=some v:=by
 unfold P1 at h;simp[World.cell?,h,hv]
theorem P1.E0(h:P1 w b cs T f)(o:Nat){v:Value}(hv:cs[o]? =some v):w.cell? ⟨b,o,none⟩=some v:=h.cell hv
theorem P1.R7(h:P1 w b cs T f){o:Nat}{l:List Value}(hl:(cs.toList.drop o).take l.length=l):∀(j:Nat)(v:Value),l[j]? =some v->w.cell? ⟨b,o+j,none⟩=some v:=by
 intro j v hj;refine h.cell ?_;have O1:j<l.length:=(List.getElem?_eq_some_iff.1 hj).1;rw[<- hl,List.getElem?_take_of_lt O1,List.getElem?_drop]at hj;simpa using hj
theorem P1.frozen(h:P1 w b cs T f)(o:Nat):w.frozen? ⟨b,o,none⟩=(decide (f.1 <=o)&&decide (o<f.2)):=by
 unfold P1 at h;obtain⟨lo,hi⟩:=f;simp[World.frozen?,h]
theorem P1.j0(h:P1 w b cs T f)(hb:Below w.heap.size w w'):P1 w' b cs T f:=(hb.block b h.lt).trans h
theorem P1.other{b':Nat}(h:P1 w b cs T f)(hg:w.grownBy w' (some b'))(X2:b≠b'):P1 w' b cs T f:=(hg.block b h.lt (by simpa using X2)).trans h
theorem P1.grown{row:Option Nat}(h:P1 w b cs T f)(hg:w.grownBy w' row)(X2:some b≠row):P1 w' b cs T f:=(hg.block b h.lt X2).trans h
theorem P1.ne{b':Nat}{S6:Array Value}{T':TypeId}{f':Nat×Nat}(h:P1 w b cs T f)(h':P1 w b' S6 T' f')(hT:T≠T'):b≠b':=by
 intro hb;subst hb;unfold P1 at h h';rw[h]at h';exact hT (by cases h';rfl)
end
def V1(w:World)(b:Nat)(cs:Array Value)(T:TypeId)(f:Nat×Nat):World:={w with heap:=w.heap.setIfInBounds b (.cells cs T f)}
section
variable{w:World}{b:Nat}{cs S6:Array Value}{T T':TypeId}{f:Nat×Nat}
theorem Y6:(V1 w b cs T f).heap.size=w.heap.size:=by simp[V1]
theorem L5(h:P1 w b cs T f)(S6:Array Value)(T':TypeId)(f':Nat×Nat):P1 (V1 w b S6 T' f') b S6 T' f':=by
 have:=h.lt;simp[P1,V1,this]
theorem B9{k:Nat}(h:k≠b):(V1 w b cs T f).heap[k]? =w.heap[k]?:=by
 simp only[V1];rw[Array.getElem?_setIfInBounds_ne (Ne.symm h)]
theorem E2(w:World)(b:Nat)(cs:Array Value)(T:TypeId)(f:Nat×Nat):w.grownBy (V1 w b cs T f) (some b):=
 ⟨rfl,rfl,rfl,Nat.le_of_eq Y6.symm,fun k _ hk=>B9 (fun e=>hk (by rw[e]))⟩
theorem jq0{o:Nat}(h:P1 w b cs T f)(v:Value):w.setCell ⟨b,o,none⟩ v=V1 w b (cs.setIfInBounds o v) T f:=by
 have hl:=h.lt;have hg:w.heap[b]= .cells cs T f:=by have:=h;unfold P1 at this;rw[Array.getElem?_eq_getElem hl]at this;exact Option.some.inj this
 simp only[World.setCell,V1];congr 1;apply Array.ext_getElem?;intro i;by_cases hi:i=b
 ·subst hi;rw[Array.getElem?_modify,if_pos rfl,Array.getElem?_eq_getElem hl,hg];simp[hl]
 ·rw[Array.getElem?_modify,Array.getElem?_setIfInBounds_ne (Ne.symm hi),if_neg (Ne.symm hi)]
theorem wi0(w:World)(b:Nat)(cs S6:Array Value)(T:TypeId)(f:Nat×Nat):V1 (V1 w b cs T f) b S6 T f=V1 w b S6 T f:=by
 simp[V1]
theorem Dg0(h:P1 w b cs T f):V1 w b cs T f=w:=by
 have hl:=h.lt;have hg:w.heap[b]= .cells cs T f:=by have:=h;unfold P1 at this;rw[Array.getElem?_eq_getElem hl]at this;exact Option.some.inj this
 have:w.heap.setIfInBounds b (.cells cs T f)=w.heap:=by
  apply Array.ext_getElem?;intro i;by_cases hi:i=b
  ·subst hi;simp[hl,hg]
  ·rw[Array.getElem?_setIfInBounds_ne (Ne.symm hi)]
 simp only[V1,this]
end
theorem cz0{P:Program}(b:Nat)(T:TypeId)(f:Nat×Nat):∀(vs:List Value)(o i:Nat)(cs:Array Value)(w:World),P1 w b cs T f->o+i+vs.length <=cs.size->(o+i+vs.length <=f.1\/f.2 <=o+i)->(∀v∈vs,v.oneCell'=true) ->
  (storeCells ⟨b,o,none⟩ vs i).run P w= .ok () (V1 w b (setRow cs (o+i) vs) T f)
 | [],o,i,cs,w,h,_,_,_=>by simp[storeCells,setRow,Dg0 h]
 |v::vs,o,i,cs,w,h,hl,hf,h1=>by
  have ha:Addr.add ⟨b,o,none⟩ i=⟨b,o+i,none⟩:=by
   unfold Addr.add;split
   ·rename_i h0;simp[]
   ·rfl
  have O1:o+i<cs.size:=by simp only[List.length_cons]at hl;omega
  have hc:=h.cell (Array.getElem?_eq_getElem O1);have hfr:w.frozen? ⟨b,o+i,none⟩=false:=by
   rw[h.frozen];simp only[List.length_cons]at hf;rw[Bool.and_eq_false_iff];rcases hf with hf|hf
   ·exact .inl (decide_eq_false Uo)
   ·exact .inr (decide_eq_false Uo)
  have ih:=cz0 (P:=P) b T f vs o (i+1) (cs.setIfInBounds (o+i) v) (V1 w b (cs.setIfInBounds (o+i) v) T f) (L5 h _ _ _) (by simp only[List.length_cons]at hl;simp;omega) (by simp only[List.length_cons]at hf;omega) (fun u hu=>h1 u (List.mem_cons_of_mem _ hu));rw[wi0]at ih;simp only[storeCells,Sem.run_bind,ha,run_store P w _ v .plain (h1 v List.mem_cons_self),hc,hfr,Bool.false_eq_true,if_false,Result.andThen_ok,jq0 h v];rw[ih];rfl
section
variable{P:Program}[Ctx P]{n:Nat}{ops:Array Oper}{Q:Exit->Env->World->Prop}{rest:List Oper}{e:Env}{w:World}{ty:TypeId}{ps:String}{af:Array Edge}{x y:Operand}{T:TypeId}
theorem L.Jh0[Go.Vc.K3]{b o s:Nat}{cs:Array Value}{vs:List Value}{E:TypeId}{f:Nat×Nat}{v:Value}(S6:Array Value)(hx:ev e x= .pointer (some ⟨b,o,none⟩))(hy:ev e y=v)(hvs:v.cells.toList=vs)(hs:(P.info? T).map (·.size)=some s)(hl:vs.length=s)(h1:vs.all Value.oneCell'=true)(hB:P1 w b cs E f)(ho:o+s <=cs.size)(hf:o+s <=f.1\/f.2 <=o)(hcs:setRow cs o vs=S6)
  (k:L P n ops Q rest e (V1 w b S6 E f)):L P n ops Q (⟨none,.store T x y,ty,ps,af,none⟩::rest) e w:=by
 have it1:v.cells=vs.toArray:=by rw[<- hvs]
 have h1':∀u∈vs,u.oneCell'=true:=fun u hu=>List.all_eq_true.1 h1 u hu;rw[<- hcs]at k;refine L.st (w':=V1 w b (setRow cs o vs) E f) (.N0 (N1 rfl _) rfl rfl fun τ d=>?_) k;have:=cz0 (P:=P) b E f vs o 0 cs (G2 w τ d) hB (by simp;omega) (by simp;omega) h1';show _=Result.ok Next.skip (V1 (G2 w τ d) b (setRow cs o vs) E f);simp[execOp,Instr.storeAt,hx,hy,Instr.sureAddr,storeVar,Go.Vc.run_sizeOf hs,it1,hl,this]
end
section
variable{P:Program}[Ctx P]{n:Nat}{Q:Exit->Env->World->Prop}{e:Env}{w:World}{ops:Array Oper}{rest:List Oper}
variable{d:Nat}{ty:TypeId}{ps:String}{af:Array Edge}{T E:TypeId}{x y:Operand}
theorem L.ja0[Go.Vc.K3]{B s bytes m c':Nat}{a:Option Addr}{k c:Nat}{xs news:List Value}{zv:Value}{ad:Addr}(hx:ev e x= .slice a k c)(hy:ev e y= .slice (some ad) m c')(hT:P.underlying T=some (.slice E))
  (hi:(P.info? E).map (fun i=>(i.zero,i.size,i.bytes))=some (some zv,s,bytes)) (hz:zv.cells.size=s) (hs:0<s) (l9:Own w B E s a k c xs)
  (hl:news.length=m*s) (fl0:∀(j:Nat) u,news[j]? =some u->w.cell? (ad.add j)=some u) (h1:∀u∈news,u.oneCell'=true) (Fs0:k+m <=9223372036854775807) (hb:(k+m)*bytes <=140737488355328) (hB:B <=w.heap.size)
  (h:∀a' c2 w',Own w' B E s a' (k+m) c2 (xs++news)->w.grownBy w' (Value.ownBlock (.slice a k c))->(a'≠none->(a≠none/\ab a'=ab a)\/w.heap.size <=ab a')->L P n ops Q rest (upd e d (.slice a' (k+m) c2)) w') :
  L P n ops Q (⟨some d,.call ⟨.builtin .append,#[x,y],#[T,T]⟩,ty,ps,af,none⟩::rest) e w:=by
 cases a with
 |none=>
  have h0:k=0/\c=0/\xs=[]:=by
   have hln:=l9.1;rcases l9.2 with⟨hv,h0⟩|⟨g,cap,cur,hv,_⟩
   ·cases hv;exact⟨rfl,rfl,by
     rw[Nat.zero_mul]at hln;exact List.eq_nil_of_length_eq_zero hln⟩
   ·cases hv
  obtain⟨rfl,rfl,rfl⟩:=h0;refine L.dr0 hx hy hT hi hz hs (Own.nil w w.heap.size E s) Uz hl (fun ad' e=>by cases e;exact fl0) h1 Fs0 hb (Nat.le_refl _) fun a' c2 w' hO hg _ _=>?_;exact h a' c2 w' (hO.down hB) hg fun ha=>.inr<|(hO.row ha).choose_spec.2.1
 |some a0=>
  have ha0:∃b,a0=⟨b,0,none⟩:=by
   rcases l9.2 with⟨hv,_⟩|⟨g,cap,cur,hv,_⟩
   ·cases hv
   ·cases hv;exact⟨g,rfl⟩
  obtain⟨b,rfl⟩:=ha0;refine L.ap1 hx hy hT hi hz hs l9 hl fl0 h1 Fs0 hb hB fun b' c2 w' hO hg hw=>?_;refine h _ c2 w' hO hg fun _=>?_;rcases hw with⟨rfl,_⟩|⟨rfl,_⟩
  ·exact .inl ⟨by simp,rfl⟩
  ·exact .inr (Nat.le_refl _)
end
structure mi0(S:Nat->Prop)(B:Nat)(w w':World):Prop where
 os:w'.os=w.os
 tape:w'.tape=w.tape
 output:w'.output=w.output
 size:w.heap.size <=w'.heap.size
 block:∀k,k<B->¬S k->w'.heap[k]? =w.heap[k]?
section
variable{S:Nat->Prop}{B:Nat}{w w1 w2:World}
theorem mi0.refl(S:Nat->Prop)(B:Nat)(w:World):mi0 S B w w:=⟨rfl,rfl,rfl,Nat.le_refl _,fun _ _ _=>rfl⟩
theorem mi0.trans(h:mi0 S B w w1)(h':mi0 S B w1 w2):mi0 S B w w2:=⟨h'.os.trans h.os,h'.tape.trans h.tape,h'.output.trans h.output,Nat.le_trans h.size h'.size,fun k hk hs=>(h'.block k hk hs).trans (h.block k hk hs)⟩
theorem mi0.below(h:mi0 S B w w1)(hb:Below w1.heap.size w1 w2)(hB:B <=w1.heap.size):mi0 S B w w2:=h.trans ⟨hb.os,hb.tape,hb.output,hb.size,fun k hk _=>hb.block k Uo⟩
theorem mi0.grown{row:Option Nat}(h:mi0 S B w w1)(hg:w1.grownBy w2 row)(hB:B <=w1.heap.size)(hr:∀r,row=some r->S r\/B <=r):mi0 S B w w2:=
 h.trans ⟨hg.os,hg.tape,hg.output,hg.size,fun k hk hs=>hg.block k Uo (fun e=>by rcases hr k e.symm with z|z;exact hs z;omega)⟩
theorem Own.congr{E:TypeId}{s n c:Nat}{a:Option Addr}{xs:List Value}(h:Own w B E s a n c xs)(he:a≠none->w1.heap[ab a]? =w.heap[ab a]?):Own w1 B E s a n c xs:=by
 refine⟨h.1,?_⟩;rcases h.2 with h1|⟨g,cap,cur,hv,hb,hg,h2⟩
 ·exact .inl h1
 ·refine .inr ⟨g,cap,cur,hv,hb,?_,h2⟩;cases hv;exact(he (by simp)).trans hg
end
end Go.Vy
end
section
namespace Go.Proofs.YtinppmaojmdmhaaGreat
theorem sz1:(Tryz.prog.info? 1).map (·.size)=some 1:=by kernel_rfl
theorem sz2:(Tryz.prog.info? 2).map (·.size)=some 1:=by kernel_rfl
theorem zr2:(Tryz.prog.info? 2).bind (·.zero)=some (.int .i64 0):=by kernel_rfl
theorem sz3:(Tryz.prog.info? 3).map (·.size)=some 1:=by kernel_rfl
theorem zr3:(Tryz.prog.info? 3).bind (·.zero)=some (.int .i64 0):=by kernel_rfl
theorem in3:(Tryz.prog.info? 3).map (fun i=>(i.zero,i.size,i.bytes))=some (some (.int .i64 0),1,8):=by kernel_rfl
theorem sz4:(Tryz.prog.info? 4).map (·.size)=some 1:=by kernel_rfl
theorem zr4:(Tryz.prog.info? 4).bind (·.zero)=some (.bool false):=by kernel_rfl
theorem sz5:(Tryz.prog.info? 5).map (·.size)=some 1:=by kernel_rfl
theorem zr5:(Tryz.prog.info? 5).bind (·.zero)=some (.int .u8 0):=by kernel_rfl
theorem sz9:(Tryz.prog.info? 9).map (·.size)=some 1:=by kernel_rfl
theorem jj1:(Tryz.prog.info? 22).map (·.size)=some 1:=by kernel_rfl
theorem jk1:(Tryz.prog.info? 27).map (·.size)=some 1:=by kernel_rfl
theorem qc1:(Tryz.prog.info? 36).map (·.size)=some 1:=by kernel_rfl
theorem Ji0:(Tryz.prog.info? 37).map (·.size)=some 1:=by kernel_rfl
theorem qd1:(Tryz.prog.info? 37).bind (·.zero)=some (.slice none 0 0):=by kernel_rfl
theorem qe1:(Tryz.prog.info? 39).map (·.size)=some 4:=by kernel_rfl
theorem Tg0:(Tryz.prog.info? 41).map (·.size)=some 1:=by kernel_rfl
theorem jl1:(Tryz.prog.info? 42).map (·.size)=some 1:=by kernel_rfl
theorem jm1:(Tryz.prog.info? 43).map (·.size)=some 1:=by kernel_rfl
theorem nn0:(Tryz.prog.info? 45).map (·.size)=some 6:=by kernel_rfl
theorem Th0:(Tryz.prog.info? 45).bind (·.zero)=some (.agg #[.slice none 0 0,.slice none 0 0,.slice none 0 0,.slice none 0 0,.bool false,.int .i64 0]):=by kernel_rfl
theorem xe1:(Tryz.prog.info? 63).map (·.size)=some 4:=by kernel_rfl
theorem xf1:(Tryz.prog.info? 63).bind (·.zero)=some (.agg #[.int .i64 0,.int .i64 0,.int .i64 0,.string ByteArray.empty]):=by kernel_rfl
theorem xg1:(Tryz.prog.info? 63).map (fun i=>(i.zero,i.size,i.bytes))=some (some (.agg #[.int .i64 0,.int .i64 0,.int .i64 0,.string ByteArray.empty]),4,40):=by kernel_rfl
theorem qp0:(Tryz.prog.info? 65).map (·.size)=some 3:=by kernel_rfl
theorem xh1:(Tryz.prog.info? 65).map (fun i=>(i.zero,i.size,i.bytes))=some (some (.agg #[.int .i64 0,.int .i64 0,.int .i64 0]),3,24):=by kernel_rfl
theorem wj0:(Tryz.prog.info? 67).map (·.size)=some 4:=by kernel_rfl
theorem Ti0:(Tryz.prog.info? 67).bind (·.zero)=some (.agg #[.int .i64 0,.int .i64 0,.int .i64 0,.int .i64 0]):=by kernel_rfl
theorem xi1:(Tryz.prog.info? 67).map (fun i=>(i.zero,i.size,i.bytes))=some (some (.agg #[.int .i64 0,.int .i64 0,.int .i64 0,.int .i64 0]),4,32):=by kernel_rfl
theorem no0:(Tryz.prog.info? 71).map (·.size)=some 1:=by kernel_rfl
theorem jn1:(Tryz.prog.info? 71).bind (·.zero)=some (.pointer none):=by kernel_rfl
theorem Tj0:(Tryz.prog.info? 71).map (fun i=>(i.zero,i.size,i.bytes))=some (some (.pointer none),1,8):=by kernel_rfl
theorem qf1:(Tryz.prog.info? 72).map (·.size)=some 1:=by kernel_rfl
theorem xj1:(Tryz.prog.info? 72).bind (·.zero)=some (.nilFunc):=by kernel_rfl
theorem xk1:(Tryz.prog.info? 72).map (fun i=>(i.zero,i.size,i.bytes))=some (some (.nilFunc),1,8):=by kernel_rfl
theorem jo1:(Tryz.prog.info? 85).map (·.size)=some 3:=by kernel_rfl
theorem xl1:(Tryz.prog.info? 85).bind (·.zero)=some (.agg #[.int .i64 0,.int .i64 0,.string ByteArray.empty]):=by kernel_rfl
theorem qg1:(Tryz.prog.info? 86).map (·.size)=some 1:=by kernel_rfl
theorem xm1:(Tryz.prog.info? 86).bind (·.zero)=some (.slice none 0 0):=by kernel_rfl
theorem jp1:(Tryz.prog.info? 87).map (·.size)=some 1:=by kernel_rfl
theorem qh1:(Tryz.prog.info? 88).map (·.size)=some 64:=by kernel_rfl
theorem Tk0:(Tryz.prog.info? 89).map (·.size)=some 1:=by kernel_rfl
theorem qi1:(Tryz.prog.info? 90).map (·.size)=some 64:=by kernel_rfl
theorem tc0:(Tryz.prog.info? 95).map (·.size)=some 1:=by kernel_rfl
theorem C9:(Tryz.prog.info? 97).map (·.size)=some 3:=by kernel_rfl
theorem jq1:(Tryz.prog.info? 97).bind (·.zero)=some (.agg #[.slice none 0 0,.int .i64 0,.int .i64 0]):=by kernel_rfl
theorem Fv0:(Tryz.prog.info? 123).map (·.size)=some 1:=by kernel_rfl
theorem fj1:(Tryz.prog.info? 123).bind (·.zero)=some (.pointer none):=by kernel_rfl
theorem Tl0:(Tryz.prog.info? 123).map (fun i=>(i.zero,i.size,i.bytes))=some (some (.pointer none),1,8):=by kernel_rfl
theorem qj1:(Tryz.prog.info? 124).map (·.size)=some 1:=by kernel_rfl
theorem fk1:(Tryz.prog.info? 125).map (·.size)=some 1:=by kernel_rfl
theorem Tm0:(Tryz.prog.info? 127).map (·.size)=some 4:=by kernel_rfl
theorem Aq0:(Tryz.prog.info? 140).map (·.size)=some 1:=by kernel_rfl
theorem Ar0:(Tryz.prog.info? 142).map (·.size)=some 1:=by kernel_rfl
theorem Tn0:(Tryz.prog.info? 143).map (·.size)=some 1:=by kernel_rfl
theorem fl1:(Tryz.prog.info? 145).map (·.size)=some 2:=by kernel_rfl
theorem Fw0:(Tryz.prog.info? 152).map (·.size)=some 2:=by kernel_rfl
theorem fm1:(Tryz.prog.info? 152).bind (·.zero)=some (.agg #[.int .i64 0,.int .i64 0]):=by kernel_rfl
theorem qk1:(Tryz.prog.info? 155).map (·.size)=some 2:=by kernel_rfl
theorem ql1:(Tryz.prog.info? 155).bind (·.zero)=some (.agg #[.int .i64 0,.int .i64 0]):=by kernel_rfl
theorem qm1:(Tryz.prog.info? 155).map (fun i=>(i.zero,i.size,i.bytes))=some (some (.agg #[.int .i64 0,.int .i64 0]),2,16):=by kernel_rfl
theorem fn1:(Tryz.prog.info? 157).map (·.size)=some 1:=by kernel_rfl
theorem Fx0:(Tryz.prog.info? 162).map (·.size)=some 2:=by kernel_rfl
theorem qn1:(Tryz.prog.info? 166).bind (·.zero)=some (.agg #[.pointer none,.pointer none,.pointer none,.pointer none]):=by kernel_rfl
theorem Fy0:(Tryz.prog.info? 169).map (·.size)=some 1:=by kernel_rfl
theorem fo1:(Tryz.prog.info? 170).map (·.size)=some 1:=by kernel_rfl
theorem To0:(Tryz.prog.info? 171).map (·.size)=some 1:=by kernel_rfl
theorem qo1:(Tryz.prog.info? 189).map (·.size)=some 1:=by kernel_rfl
theorem gx0:(Tryz.prog.info? 195).map (·.size)=some 1:=by kernel_rfl
theorem qp1:(Tryz.prog.info? 195).bind (·.zero)=some (.slice none 0 0):=by kernel_rfl
theorem qb0:(Tryz.prog.info? 195).map (fun i=>(i.zero,i.size,i.bytes))=some (some (.slice none 0 0),1,24):=by kernel_rfl
theorem fp1:(Tryz.prog.info? 222).bind (·.zero)=some (.nilFunc):=by kernel_rfl
theorem Z4:(Tryz.prog.info? 225).map (·.size)=some 16:=by kernel_rfl
theorem Tp0:(Tryz.prog.info? 225).bind (·.zero)=some (.agg (Array.replicate 16 (.int .i64 0))):=by kernel_rfl
theorem qq1:(Tryz.prog.info? 225).map (fun i=>(i.zero,i.size,i.bytes))=some (some (.agg (Array.replicate 16 (.int .i64 0))),16,128):=by kernel_rfl
theorem qr1:(Tryz.prog.info? 226).bind (·.zero)=some (.agg (Array.replicate 256 (.int .i64 0))):=by kernel_rfl
theorem qs1:(Tryz.prog.info? 228).bind (·.zero)=some (.pointer none):=by kernel_rfl
theorem fq1:(Tryz.prog.info? 246).map (·.size)=some 1:=by kernel_rfl
theorem nm0:Ue Tryz.f0:=Un
theorem nm1:Ue Tryz.f1:=Un
theorem nm2:Ue Tryz.f2:=Un
theorem nm3:Ue Tryz.f3:=Un
theorem qt1:Ue Tryz.f11:=Un
theorem xn1:Ue Tryz.f12:=Un
theorem xo1:Ue Tryz.f13:=Un
theorem jr1:Ue Tryz.f15:=Un
theorem xp1:Ue Tryz.f16:=Un
theorem xq1:Ue Tryz.f17:=Un
theorem xr1:Ue Tryz.f18:=Un
theorem qu1:Ue Tryz.f19:=Un
theorem qv1:Ue Tryz.f26:=Un
theorem qw1:Ue Tryz.f27:=Un
theorem qx1:Ue Tryz.f28:=Un
theorem xs1:Ue Tryz.f29:=Un
theorem qy1:Ue Tryz.f30:=Un
theorem qz1:Ue Tryz.f31:=Un
theorem xt1:Ue Tryz.f36:=Un
theorem xu1:Ue Tryz.f37:=Un
theorem xv1:Ue Tryz.f38:=Un
theorem ba1:Ue Tryz.f39:=Un
theorem xw1:Ue Tryz.f40:=Un
theorem xx1:Ue Tryz.f41:=Un
theorem xy1:Ue Tryz.f48:=Un
theorem xz1:Ue Tryz.f49:=Un
theorem js1:Ue Tryz.f50:=Un
theorem ra1:Ue Tryz.f51:=Un
theorem rb1:Ue Tryz.f52:=Un
theorem Jj0:Ue Tryz.f53:=Un
theorem rc1:Ue Tryz.f54:=Un
theorem ya1:Ue Tryz.f55:=Un
theorem rd1:Ue Tryz.f56:=Un
theorem yb1:Ue Tryz.f57:=Un
theorem yc1:Ue Tryz.f58:=Un
theorem yd1:Ue Tryz.f59:=Un
theorem re1:Ue Tryz.f60:=Un
theorem ye1:Ue Tryz.f62:=Un
theorem yf1:Ue Tryz.f64:=Un
theorem yg1:Ue Tryz.f65:=Un
theorem yh1:Ue Tryz.f66:=Un
theorem yi1:Ue Tryz.f67:=Un
theorem yj1:Ue Tryz.f68:=Un
theorem rf1:Ue Tryz.f69:=Un
theorem qq0:Ue Tryz.f70:=Un
theorem Tq0:Ue Tryz.f71:=Un
theorem yk1:Ue Tryz.f72:=Un
theorem yl1:Ue Tryz.f73:=Un
theorem rg1:Ue Tryz.f74:=Un
theorem rh1:Ue Tryz.f75:=Un
theorem ym1:Ue Tryz.f76:=Un
theorem ri1:Ue Tryz.f77:=Un
theorem yn1:Ue Tryz.f78:=Un
theorem yo1:Ue Tryz.f79:=Un
theorem yp1:Ue Tryz.f80:=Un
theorem rj1:Ue Tryz.f90:=Un
theorem yq1:Ue Tryz.f91:=Un
theorem yr1:Ue Tryz.f92:=Un
theorem bb1:Ue Tryz.f93:=Un
theorem ys1:Ue Tryz.f94:=Un
theorem rk1:Ue Tryz.f96:=Un
theorem rl1:Ue Tryz.f97:=Un
theorem Tr0:Ue Tryz.f98:=Un
theorem yt1:Ue Tryz.f99:=Un
theorem fr1:Ue Tryz.f100:=Un
theorem fs1:Ue Tryz.f101:=Un
theorem rm1:Ue Tryz.f102:=Un
theorem Ts0:Ue Tryz.f103:=Un
theorem rn1:Ue Tryz.f104:=Un
theorem ro1:Ue Tryz.f105:=Un
theorem rp1:Ue Tryz.f106:=Un
theorem rq1:Ue Tryz.f107:=Un
theorem Tt0:Ue Tryz.f108:=Un
theorem td0:Ue Tryz.f109:=Un
theorem ft1:Ue Tryz.f110:=Un
theorem fu1:Ue Tryz.f114:=Un
theorem rr1:Ue Tryz.f115:=Un
theorem Tu0:Ue Tryz.f116:=Un
theorem rs1:Ue Tryz.f117:=Un
theorem rt1:Ue Tryz.f119:=Un
theorem ru1:Ue Tryz.f120:=Un
theorem rv1:Ue Tryz.f122:=Un
theorem rw1:Ue Tryz.f123:=Un
theorem rx1:Ue Tryz.f124:=Un
theorem ry1:Ue Tryz.f125:=Un
theorem Tv0:Ue Tryz.f126:=Un
theorem fv1:Ue Tryz.f127:=Un
theorem rz1:Ue Tryz.f128:=Un
theorem fw1:Ue Tryz.f132:=Un
theorem sb1:Ue Tryz.f134:=Un
theorem sc1:Ue Tryz.f135:=Un
theorem fx1:Ue Tryz.f137:=Un
theorem Tw0:Ue Tryz.f138:=Un
theorem sd1:Ue Tryz.f139:=Un
theorem se1:Ue Tryz.f140:=Un
theorem sf1:Ue Tryz.f141:=Un
theorem sg1:Ue Tryz.f142:=Un
theorem Fz0:Ue Tryz.f143:=Un
theorem sh1:Ue Tryz.f144:=Un
theorem si1:Ue Tryz.f145:=Un
theorem sj1:Ue Tryz.f146:=Un
theorem sk1:Ue Tryz.f147:=Un
theorem sl1:Ue Tryz.f148:=Un
theorem sm1:Ue Tryz.f149:=Un
theorem Tx0:Ue Tryz.f150:=Un
theorem so1:Ue Tryz.f151:=Un
theorem sp1:Ue Tryz.f153:=Un
theorem sq1:Ue Tryz.f154:=Un
theorem fy1:Ue Tryz.f206:=Un
theorem sr1:Ue Tryz.f207:=Un
theorem fz1:Ue Tryz.f208:=Un
theorem Ty0:Ue Tryz.f209:=Un
theorem ss1:Ue Tryz.f210:=Un
theorem ga1:Ue Tryz.f211:=Un
theorem st1:Ue Tryz.f212:=Un
theorem gb1:Ue Tryz.f213:=Un
theorem gc1:Ue Tryz.f214:=Un
theorem gd1:Ue Tryz.f215:=Un
end Go.Proofs.YtinppmaojmdmhaaGreat
end
section
namespace Go.Proofs.YtinppmaojmdmhaaGreat
open Go.Conc Go.Yc Go.Wg
open Go.Vc (Env upd V3 ev z6 G3)
section
attribute [local irreducible] KK
theorem te0(d:Nat):deafBehind d #[(⟨.mark .disable,false,true⟩:Event)]=d+1:=rfl
theorem fn0(d:Nat):deafBehind (d+1) #[(⟨.mark .enable,false,true⟩:Event)]=d:=rfl
theorem ee0(d:Nat){m:Mark}(h:(match m with| .disable| .enable=>false|_=>true)=true):deafBehind d #[(⟨.mark m,false,true⟩:Event)]=d:=by cases m <;> first|rfl|cases h
theorem add1(v:Nat)(h:v<2147483648):IntKind.u64.wrap (((v*4294967296+0:Nat):Int)+1)=((v*4294967296+1:Nat):Int):=by rw[IntKind.wrap_u64];omega
theorem su1:Extern.find Tryz.f107=some (Extern.Race.marked .releaseMerge):=by kernel_rfl
theorem sv1:Extern.find Tryz.f115=some (Extern.Race.marked .read):=by kernel_rfl
theorem sw1:Extern.find Tryz.f123=some (Extern.Race.marked .write):=by kernel_rfl
theorem sx1:Extern.find Tryz.f120=some (Extern.Race.marked .acquire):=by kernel_rfl
theorem Tz0:Extern.find Tryz.f108=some (fun _=>do mark .disable;pure Extern.Race.none_):=by kernel_rfl
theorem tf0:Extern.find Tryz.f109=some (fun _=>do mark .enable;pure Extern.Race.none_):=by kernel_rfl
theorem ge1:Extern.find Tryz.f110=some (fun _=>pure (.bool false)):=by kernel_rfl
theorem gf1:Extern.find Tryz.f137=some (Extern.Atomic.update (Op.intArith .add) .u64 true):=by kernel_rfl
theorem Ua0:Extern.find Tryz.f138=some (Extern.Atomic.loadT (.int .u64)):=by kernel_rfl
theorem sy1:Extern.find Tryz.f139=some Extern.Atomic.storeT:=by kernel_rfl
theorem ta1:Extern.find Tryz.f140=some (Extern.Atomic.casT (.int .u64)):=by kernel_rfl
theorem tb1:Extern.find Tryz.f119=some Extern.Sync.semrelease:=by kernel_rfl
theorem tc1:Extern.find Tryz.f124=some Extern.Sync.semacquire:=by kernel_rfl
theorem gg1:(Tryz.prog.info? 143).map (fun i=>decide (i.size=0))=some false:=by kernel_rfl
theorem gh1:(Tryz.prog.info? 145).map (fun i=>decide (i.size=0))=some false:=by kernel_rfl
set_option maxRecDepth 20000 in
theorem bc1(gr:W7){c:Frame}{cs:List Frame}(hcm:c.mode= .returning){N:Nat}(hT:QuitsD Tryz.prog N 0 (Conc.G c cs)):∃n,Lt Tryz.prog gr n 0 (Conc.G ((baseD 62).at {tmps:=#[.pointer (some ⟨gr.blk,gr.off,none⟩)]++Array.replicate (Tryz.f62.ntmps-1) undef,defers:=[]} [.code (Tryz.f62.body.getD .skip)]) (c::cs)):=by
 refine⟨N+500,(?_:At (fun m d g=>Lt Tryz.prog gr m d g) (N+500) 4 (baseD 62) (c::cs) [] 0 (Wg.cw0 #[.pointer (some ⟨gr.blk,gr.off,none⟩)]) [.code (Tryz.f62.body.getD .skip)]) _ (gs0 _ _ rfl)⟩;refine At.region (Y3 _ gr) ?_;refine Q0.val (Y3 _ gr) (bkd _) rfl (v:=.pointer (some ⟨gr.blk,gr.off,none⟩)) (P0 rfl) ?_;refine Q0.call (Y3 _ gr) (bkd _) [.pointer (some ⟨gr.blk,gr.off,none⟩),.i (-1)] 117 rfl Tryz.func60 re1 rfl rfl rfl (fun cs1 l7=>?_);refine At.seq (Y3 _ gr) ?_;refine At.v8 (Y3 _ gr) rfl ?_;refine At.seq (Y3 _ gr) ?_;refine U130 ?_;refine Q0.val (Y3 _ gr) (J1 _) rfl (v:=.i (-1)) (P0 rfl) ?_;refine Q0.val (Y3 _ gr) (J1 _) rfl (v:=.bool true) (lc0 (r:=true) rfl rfl Ud) ?_;refine Q0.nil (Y3 _ gr) ?_;refine At.v8 (Y3 _ gr) rfl ?_;refine At.region (Y3 _ gr) ?_;refine Q0.val (Y3 _ gr) (J1 _) rfl (v:=.pointer (some ⟨gr.blk,gr.off,none⟩)) (P0 rfl) ?_;refine Q0.toUnsafe (pu1 _ gr) (J1 _) rfl rfl (.inl rfl) Tryz.underlying203 Tryz.underlying205 gh1 ?_;refine Q0.Df0 (Y3 _ gr) (J1 _) .releaseMerge (by simp) rfl rfl Tryz.func107 rq1 rfl rfl su1 rfl ?_;rw[ee0 _ rfl];refine U337 ?_;refine Q0.Md0 (Y3 _ gr) (J1 _) .disable (by simp) rfl rfl Tryz.func108 Tt0 rfl rfl Tz0 ?_;simp only[te0];refine Q0.nil (Y3 _ gr) ?_;refine At.region (Y3 _ gr) ?_;refine Q0.defer (Y3 _ gr) (J1 _) [] rfl ?_;refine U337 ?_;refine Q0.val (Y3 _ gr) (J1 _) rfl (v:=.bool false) (E1 rfl) ?_;refine Q0.nil (Y3 _ gr) ?_;refine At.seq (Y3 _ gr) ?_;refine U130 ?_;refine Q0.An0 (Y3 _ gr) (J1 _) (.bool false) rfl Tryz.func110 ft1 rfl rfl ge1 ?_;refine Q0.nil (Y3 _ gr) ?_;refine At.X6 (Y3 _ gr) rfl ?_;refine At.skip (Y3 _ gr) ?_;refine U130 ?_;refine U393 ?_;refine Q0.val (Y3 _ gr) (J1 _) rfl (v:=.pointer (some ⟨gr.blk,gr.off,none⟩)) (H5 (s:=1) gr.off gr.off rfl Tryz.underlying145 rfl Ar0 Ud rfl) ?_;refine Q0.val (Y3 _ gr) (J1 _) rfl (v:=.i (-1)) (P0 rfl) ?_;refine Q0.val (Y3 _ gr) (J1 _) rfl (v:=.int .u64 18446744073709551615) (M4 (r:=18446744073709551615) rfl Tryz.underlying3 Tryz.underlying140 Ud) ?_;refine Q0.val (Y3 _ gr) (J1 _) rfl (v:=.int .u64 18446744069414584320) (Sy0 (r:=18446744069414584320) rfl rfl Ud Ud) ?_;refine Q0.call (Y3 _ gr) (J1 _) [.pointer (some ⟨gr.blk,gr.off,none⟩),.int .u64 18446744069414584320] 10 rfl Tryz.func114 fu1 rfl rfl rfl (fun cs2 hb2=>?_);refine U130 ?_;refine Q0.val (Y3 _ gr) (J1 _) rfl (v:=.int .u64 0) (E1 rfl) ?_;refine U337 ?_;refine U393 ?_;refine Q0.val (Y3 _ gr) (J1 _) rfl (v:=.pointer (some ⟨gr.blk,gr.off,none⟩)) (H5 (s:=1) gr.off gr.off rfl Tryz.underlying142 rfl Aq0 Ud rfl) ?_;refine Q0.val (Y3 _ gr) (J1 _) rfl (v:=.int .u64 18446744069414584320) (P0 rfl) ?_;refine Q0.pv1 (J1 _) rfl Tryz.func137 fx1 rfl rfl gf1 rfl rfl (fun v wt hwt hv X2=>?_) ?_
 ·by_cases hv0:0<v
  ·have hwc:wt=0\/wt=1:=by omega
   rcases hwc with rfl|rfl
   ·refine Q0.val (G0 _) (J1 _) rfl (v:=.int .u64 (((v*4294967296+0:Nat):Int))) (E1 rfl) ?_;refine Q0.nil (G0 _) ?_;refine At.ret (G0 _) (fun _=>?_);refine AtR.leave1 (G0 _) hb2 rfl Tryz.func114 rfl (.int .u64 (((v*4294967296+0:Nat):Int))) rfl ?_;refine Q0.val (G0 _) (J1 _) rfl (v:=.int .u64 (((v*4294967296+0:Nat):Int))) (E1 rfl) ?_;refine U328 ?_;refine Q0.val (G0 _) (J1 _) rfl (v:=.int .u64 (((v*4294967296+0:Nat):Int))) (P0 rfl) ?_;refine Q0.val (G0 _) (J1 _) rfl (v:=.int .u64 0) (m9 (r:=0) rfl rfl (ta0 v 0 Uo Uo)) ?_;refine U127 ?_;refine U208 ?_;refine U455 ?_;refine Q0.val (G0 _) (J1 _) rfl (v:=.int .u64 (((v:Nat):Int))) (km0 (r:=((v:Nat):Int)) rfl rfl Ud (tb0 v 0 Uo)) ?_;refine U385 ?_;refine Q0.nil (G0 _) ?_;refine U455 ?_;refine Q0.val (G0 _) (J1 _) rfl (v:=.int .u64 0) (m9 (r:=0) rfl rfl (mg0 v 0 Uo Uo)) ?_;refine U444 ?_;refine U50 ?_;refine U245 ?_;refine U244 ?_;refine U452 ?_;refine U297 ?_;refine U127 ?_;refine U256 ?_;refine U244 ?_;refine U412 ?_;refine U493 ?_;refine U306 ?_;refine At.ret (G0 _) (fun _=>?_);refine AtR.mark (G0 _) .enable (by simp) rfl Tryz.func109 td0 rfl rfl tf0 ?_;simp only[fn0];refine U183 ?_;refine At.done (G0 _) (fun _=>?_);exact U188
   ·refine Q0.val (G0 _) (J1 _) rfl (v:=.int .u64 (((v*4294967296+1:Nat):Int))) (E1 rfl) ?_;refine Q0.nil (G0 _) ?_;refine At.ret (G0 _) (fun _=>?_);refine AtR.leave1 (G0 _) hb2 rfl Tryz.func114 rfl (.int .u64 (((v*4294967296+1:Nat):Int))) rfl ?_;refine Q0.val (G0 _) (J1 _) rfl (v:=.int .u64 (((v*4294967296+1:Nat):Int))) (E1 rfl) ?_;refine U328 ?_;refine Q0.val (G0 _) (J1 _) rfl (v:=.int .u64 (((v*4294967296+1:Nat):Int))) (P0 rfl) ?_;refine Q0.val (G0 _) (J1 _) rfl (v:=.int .u64 0) (m9 (r:=0) rfl rfl (ta0 v 1 Uo Uo)) ?_;refine U127 ?_;refine U208 ?_;refine U456 ?_;refine Q0.val (G0 _) (J1 _) rfl (v:=.int .u64 (((v:Nat):Int))) (km0 (r:=((v:Nat):Int)) rfl rfl Ud (tb0 v 1 Uo)) ?_;refine U385 ?_;refine Q0.nil (G0 _) ?_;refine U456 ?_;refine Q0.val (G0 _) (J1 _) rfl (v:=.int .u64 1) (m9 (r:=1) rfl rfl (mg0 v 1 Uo Uo)) ?_;refine Q0.val (G0 _) (J1 _) rfl (v:=.int .u32 1) (M4 (r:=1) rfl Tryz.underlying140 Tryz.underlying143 Ud) ?_;refine Q0.val (G0 _) (J1 _) rfl (v:=.int .u32 1) (E1 rfl) ?_;refine U328 ?_;refine U245 ?_;refine U244 ?_;refine U452 ?_;refine U50 ?_;refine Q0.val (G0 _) (J1 _) rfl (v:=.int .u32 1) (P0 rfl) ?_;refine Q0.val (G0 _) (J1 _) rfl (v:=.bool true) (aw0 (r:=true) rfl rfl Ud) ?_;refine U245 ?_;refine U244 ?_;refine U412 ?_;refine U493 ?_;refine U306 ?_;refine At.ret (G0 _) (fun _=>?_);refine AtR.mark (G0 _) .enable (by simp) rfl Tryz.func109 td0 rfl rfl tf0 ?_;simp only[fn0];refine U183 ?_;refine At.done (G0 _) (fun _=>?_);exact U188
  ·obtain rfl:v=0:=by omega
   obtain rfl:wt=0:=by omega
   refine U442 ?_;refine At.ret (G0 _) (fun _=>?_);refine AtR.leave1 (G0 _) hb2 rfl Tryz.func114 rfl (.int .u64 (((0*4294967296+0:Nat):Int))) rfl ?_;refine U442 ?_;refine U50 ?_;refine Q0.val (G0 _) (J1 _) rfl (v:=.int .u64 (((0*4294967296+0:Nat):Int))) (P0 rfl) ?_;refine Q0.val (G0 _) (J1 _) rfl (v:=.int .u64 0) (m9 (r:=0) rfl rfl (ta0 0 0 Uo Uo)) ?_;refine U127 ?_;refine U208 ?_;refine U457 ?_;refine Q0.val (G0 _) (J1 _) rfl (v:=.int .u64 (((0:Nat):Int))) (km0 (r:=((0:Nat):Int)) rfl rfl Ud (tb0 0 0 Uo)) ?_;refine Q0.val (G0 _) (J1 _) rfl (v:=.int .i32 (((0:Nat):Int))) (M4 (r:=((0:Nat):Int)) rfl Tryz.underlying140 Tryz.underlying21 (gu0 0 Uo)) ?_;refine Q0.val (G0 _) (J1 _) rfl (v:=.int .i32 (((0:Nat):Int))) (E1 rfl) ?_;refine Q0.nil (G0 _) ?_;refine U457 ?_;refine Q0.val (G0 _) (J1 _) rfl (v:=.int .u64 0) (m9 (r:=0) rfl rfl (mg0 0 0 Uo Uo)) ?_;refine U444 ?_;refine U50 ?_;refine U245 ?_;refine U325 ?_;refine U483 ?_;refine Q0.val (G0 _) (J1 _) rfl (v:=.bool false) (lc0 (r:=false) rfl rfl Ud) ?_;refine U266 ?_;refine U297 ?_;refine U127 ?_;refine U256 ?_;refine U325 ?_;refine U483 ?_;refine Q0.val (G0 _) (J1 _) rfl (v:=.bool false) (iz0 (r:=false) rfl rfl Ud) ?_;refine Q0.val (G0 _) (J1 _) rfl (v:=.bool false) (P0 rfl) ?_;refine Q0.fw0 (G0 _) (J1 _) rfl rfl (v:=.int .u32 0) (P0 rfl) ?_;refine Q0.fw0 (G0 _) (J1 _) rfl rfl (v:=.bool true) (fm0 (r:=true) rfl rfl Ud) ?_;refine Q0.val (G0 _) (J1 _) rfl (v:=.bool true) (gt0 rfl rfl) ?_;refine U306 ?_;refine At.ret (G0 _) (fun _=>?_);refine AtR.mark (G0 _) .enable (by simp) rfl Tryz.func109 td0 rfl rfl tf0 ?_;simp only[fn0];refine U183 ?_;refine At.done (G0 _) (fun _=>?_);exact U188
 ·refine Q0.val (Z0 _ gr 2) (J1 _) rfl (v:=.int .u64 (((0*4294967296+1:Nat):Int))) (E1 rfl) ?_;refine Q0.nil (Z0 _ gr 2) ?_;refine At.ret (Z0 _ gr 2) (fun _=>?_);refine AtR.leave1 (Z0 _ gr 2) hb2 rfl Tryz.func114 rfl (.int .u64 (((0*4294967296+1:Nat):Int))) rfl ?_;refine Q0.val (Z0 _ gr 2) (J1 _) rfl (v:=.int .u64 (((0*4294967296+1:Nat):Int))) (E1 rfl) ?_;refine Q0.nil (Z0 _ gr 2) ?_;refine At.seq (Z0 _ gr 2) ?_;refine U281 ?_;refine Q0.val (Z0 _ gr 2) (J1 _) rfl (v:=.int .u64 0) (m9 (r:=0) rfl rfl (ta0 0 1 Uo Uo)) ?_;refine Q0.val (Z0 _ gr 2) (J1 _) rfl (v:=.bool false) (aw0 (r:=false) rfl rfl Ud) ?_;refine U296 ?_;refine U177 ?_;refine U131 ?_;refine U281 ?_;refine Q0.val (Z0 _ gr 2) (J1 _) rfl (v:=.int .u64 (((0:Nat):Int))) (km0 (r:=((0:Nat):Int)) rfl rfl Ud (tb0 0 1 Uo)) ?_;refine Q0.val (Z0 _ gr 2) (J1 _) rfl (v:=.int .i32 (((0:Nat):Int))) (M4 (r:=((0:Nat):Int)) rfl Tryz.underlying140 Tryz.underlying21 (gu0 0 Uo)) ?_;refine Q0.val (Z0 _ gr 2) (J1 _) rfl (v:=.int .i32 (((0:Nat):Int))) (E1 rfl) ?_;refine Q0.nil (Z0 _ gr 2) ?_;refine U281 ?_;refine Q0.val (Z0 _ gr 2) (J1 _) rfl (v:=.int .u64 1) (m9 (r:=1) rfl rfl (mg0 0 1 Uo Uo)) ?_;refine Q0.val (Z0 _ gr 2) (J1 _) rfl (v:=.int .u32 1) (M4 (r:=1) rfl Tryz.underlying140 Tryz.underlying143 Ud) ?_;refine Q0.val (Z0 _ gr 2) (J1 _) rfl (v:=.int .u32 1) (E1 rfl) ?_;refine Q0.nil (Z0 _ gr 2) ?_;refine U204 ?_;refine U434 ?_;refine U414 ?_;refine U296 ?_;refine U273 ?_;refine U177 ?_;refine U131 ?_;refine U481 ?_;refine Q0.val (Z0 _ gr 2) (J1 _) rfl (v:=.bool false) (lc0 (r:=false) rfl rfl Ud) ?_;refine Q0.nil (Z0 _ gr 2) ?_;refine U131 ?_;refine U204 ?_;refine Q0.val (Z0 _ gr 2) (J1 _) rfl (v:=.int .u32 1) (P0 rfl) ?_;refine Q0.val (Z0 _ gr 2) (J1 _) rfl (v:=.bool true) (aw0 (r:=true) rfl rfl Ud) ?_;refine U434 ?_;refine U414 ?_;refine U296 ?_;refine U273 ?_;refine U177 ?_;refine U131 ?_;refine U481 ?_;refine Q0.val (Z0 _ gr 2) (J1 _) rfl (v:=.bool false) (iz0 (r:=false) rfl rfl Ud) ?_;refine Q0.val (Z0 _ gr 2) (J1 _) rfl (v:=.bool false) (P0 rfl) ?_;refine Q0.fw0 (Z0 _ gr 2) (J1 _) rfl rfl (v:=.int .u32 1) (P0 rfl) ?_;refine Q0.fw0 (Z0 _ gr 2) (J1 _) rfl rfl (v:=.bool false) (fm0 (r:=false) rfl rfl Ud) ?_;refine U177 ?_;refine U131 ?_;refine U204 ?_;refine U390 ?_;refine Q0.val (Z0 _ gr 2) (J1 _) rfl (v:=.pointer (some ⟨gr.blk,gr.off,none⟩)) (H5 (s:=1) gr.off gr.off rfl Tryz.underlying145 rfl Ar0 Ud rfl) ?_;refine Q0.call (Z0 _ gr 2) (J1 _) [.pointer (some ⟨gr.blk,gr.off,none⟩)] 7 rfl Tryz.func116 Tu0 rfl rfl rfl (fun cs3 hb3=>?_);refine U168 ?_;refine Q0.val (Z0 _ gr 2) (J1 _) rfl (v:=.int .u64 0) (E1 rfl) ?_;refine Q0.nil (Z0 _ gr 2) ?_;refine U168 ?_;refine U390 ?_;refine Q0.val (Z0 _ gr 2) (J1 _) rfl (v:=.pointer (some ⟨gr.blk,gr.off,none⟩)) (H5 (s:=1) gr.off gr.off rfl Tryz.underlying142 rfl Aq0 Ud rfl) ?_;refine Q0.ay1 (J1 _) rfl Tryz.func138 Tw0 rfl rfl Ua0 rfl ?_;refine Q0.val (Z0 _ gr 1) (J1 _) rfl (v:=.int .u64 1) (E1 rfl) ?_;refine Q0.nil (Z0 _ gr 1) ?_;refine At.ret (Z0 _ gr 1) (fun _=>?_);refine AtR.leave1 (Z0 _ gr 1) hb3 rfl Tryz.func116 rfl (.int .u64 1) rfl ?_;refine Q0.val (Z0 _ gr 1) (J1 _) rfl (v:=.int .u64 (((0*4294967296+1:Nat):Int))) (P0 rfl) ?_;refine Q0.val (Z0 _ gr 1) (J1 _) rfl (v:=.bool false) (aw0 (r:=false) rfl rfl Ud) ?_;refine Q0.nil (Z0 _ gr 1) ?_;refine At.X6 (Z0 _ gr 1) rfl ?_;refine At.skip (Z0 _ gr 1) ?_;refine At.seq (Z0 _ gr 1) ?_;refine At.region (Z0 _ gr 1) ?_;refine U391 ?_;refine Q0.val (Z0 _ gr 1) (J1 _) rfl (v:=.pointer (some ⟨gr.blk,gr.off,none⟩)) (H5 (s:=1) gr.off gr.off rfl Tryz.underlying145 rfl Ar0 Ud rfl) ?_;refine Q0.call (Z0 _ gr 1) (J1 _) [.pointer (some ⟨gr.blk,gr.off,none⟩),.int .u64 0] 9 rfl Tryz.func117 rs1 rfl rfl rfl (fun cs4 hb4=>?_);refine At.region (Z0 _ gr 1) ?_;refine U391 ?_;refine Q0.val (Z0 _ gr 1) (J1 _) rfl (v:=.pointer (some ⟨gr.blk,gr.off,none⟩)) (H5 (s:=1) gr.off gr.off rfl Tryz.underlying142 rfl Aq0 Ud rfl) ?_;refine Q0.val (Z0 _ gr 1) (J1 _) rfl (v:=.int .u64 0) (P0 rfl) ?_;refine Q0.Tb0 (J1 _) rfl Tryz.func139 sd1 rfl rfl sy1 rfl rfl ?_;refine Q0.nil (Z0 _ gr 0) ?_;refine At.done (Z0 _ gr 0) (fun _=>?_);refine AtR.leave0 (Z0 _ gr 0) hb4 rfl Tryz.func117 rfl ?_;refine Q0.nil (Z0 _ gr 0) ?_;refine At.seq (Z0 _ gr 0) ?_;refine U519 ?_;refine Q0.val (Z0 _ gr 0) (J1 _) rfl (v:=.bool false) (P0 rfl) ?_;refine Q0.nil (Z0 _ gr 0) ?_;refine At.X6 (Z0 _ gr 0) rfl ?_;refine At.skip (Z0 _ gr 0) ?_;refine At.block (Z0 _ gr 0) ?_;refine At.loop (Z0 _ gr 0) ?_;refine At.seq (Z0 _ gr 0) ?_;refine U519 ?_;refine Q0.val (Z0 _ gr 0) (J1 _) rfl (v:=.int .u32 1) (P0 rfl) ?_;refine Q0.val (Z0 _ gr 0) (J1 _) rfl (v:=.bool true) (aw0 (r:=true) rfl rfl Ud) ?_;refine Q0.nil (Z0 _ gr 0) ?_;refine At.v8 (Z0 _ gr 0) rfl ?_;refine At.skip (Z0 _ gr 0) ?_;refine At.seq (Z0 _ gr 0) ?_;refine At.block (Z0 _ gr 0) ?_;refine At.region (Z0 _ gr 0) ?_;refine Q0.val (Z0 _ gr 0) (J1 _) rfl (v:=.pointer (some ⟨gr.blk,gr.off,none⟩)) (P0 rfl) ?_;refine Q0.val (Z0 _ gr 0) (J1 _) rfl (v:=.pointer (some ⟨gr.blk,gr.off,none⟩)) (T5 rfl) ?_;refine Q0.val (Z0 _ gr 0) (J1 _) rfl (v:=.pointer (some ⟨gr.blk,gr.off+1,none⟩)) (H5 (s:=1) gr.off (gr.off+1) rfl Tryz.underlying145 rfl Tn0 Ud rfl) ?_;refine Q0.je1 (J1 _) rfl Tryz.func119 rt1 rfl rfl tb1 rfl ?_;refine Q0.nil (G0 _) ?_;refine At.inBlock (G0 _) ?_;refine At.region (G0 _) ?_;refine Q0.val (G0 _) (J1 _) rfl (v:=.int .u32 1) (P0 rfl) ?_;refine Q0.val (G0 _) (J1 _) rfl (v:=.int .u32 0) (jd1 (r:=0) rfl rfl Ud) ?_;refine U394 ?_;refine At.inLoop (G0 _) ?_;refine U297 ?_;refine Q0.val (G0 _) (J1 _) rfl (v:=.bool false) (aw0 (r:=false) rfl rfl Ud) ?_;refine U358 ?_;refine At.exit (G0 _) rfl ?_;refine At.done (G0 _) (fun _=>?_);refine AtR.mark (G0 _) .enable (by simp) rfl Tryz.func109 td0 rfl rfl tf0 ?_;simp only[fn0];refine U183 ?_;refine At.done (G0 _) (fun _=>?_);exact U188
set_option maxRecDepth 20000 in
theorem td1(gr:W7)(K:Goroutine->Prop){c:Frame}{cs:List Frame}(hK:K (Conc.G (c.finish (.tuple #[])) cs)):Rh0 Tryz.prog gr K 500 0 (Conc.G (Frame.enter Tryz.prog 60 #[.pointer (some ⟨gr.blk,gr.off,none⟩),.i 1] .normal) (c::cs)):=by
 rw[enter_at _ Tryz.func60 rfl];refine(?_:At (Tc0 Tryz.prog gr K) 500 117 (base 60) (c::cs) [] 0 (Wg.cw0 #[.pointer (some ⟨gr.blk,gr.off,none⟩),.i 1]) [.code (Tryz.f60.body.getD .skip)]) _ (gs0 _ _ rfl);refine At.seq C3 ?_;refine At.v8 C3 rfl ?_;refine At.seq C3 ?_;refine U81 ?_;refine Q0.val C3 (J1 _) rfl (v:=.i 1) (P0 rfl) ?_;refine Q0.val C3 (J1 _) rfl (v:=.bool false) (lc0 (r:=false) rfl rfl Ud) ?_;refine U558 ?_;refine At.skip C3 ?_;refine U81 ?_;refine Q0.Md0 C3 (J1 _) .disable (by simp) (.inl rfl) rfl Tryz.func108 Tt0 rfl rfl Tz0 ?_;simp only[te0];refine Q0.nil C3 ?_;refine At.region C3 ?_;refine Q0.defer C3 (J1 _) [] rfl ?_;refine Q0.nil C3 ?_;refine U81 ?_;refine Q0.val C3 (J1 _) rfl (v:=.bool false) (E1 rfl) ?_;refine Q0.nil C3 ?_;refine At.seq C3 ?_;refine U81 ?_;refine Q0.An0 C3 (J1 _) (.bool false) rfl Tryz.func110 ft1 rfl rfl ge1 ?_;refine U558 ?_;refine At.skip C3 ?_;refine U81 ?_;refine U400 ?_;refine Q0.val C3 (J1 _) rfl (v:=.pointer (some ⟨gr.blk,gr.off,none⟩)) (H5 (s:=1) gr.off gr.off rfl Tryz.underlying145 rfl Ar0 Ud rfl) ?_;refine Q0.val C3 (J1 _) rfl (v:=.i 1) (P0 rfl) ?_;refine Q0.val C3 (J1 _) rfl (v:=.int .u64 1) (M4 (r:=1) rfl Tryz.underlying3 Tryz.underlying140 Ud) ?_;refine Q0.val C3 (J1 _) rfl (v:=.int .u64 4294967296) (Sy0 (r:=4294967296) rfl rfl Ud Ud) ?_;refine Q0.call C3 (J1 _) [.pointer (some ⟨gr.blk,gr.off,none⟩),.int .u64 4294967296] 10 rfl Tryz.func114 fu1 rfl rfl rfl (fun cs1 l7=>?_);refine U81 ?_;refine Q0.val C3 (J1 _) rfl (v:=.int .u64 0) (E1 rfl) ?_;refine Q0.nil C3 ?_;refine U81 ?_;refine U400 ?_;refine Q0.val C3 (J1 _) rfl (v:=.pointer (some ⟨gr.blk,gr.off,none⟩)) (H5 (s:=1) gr.off gr.off rfl Tryz.underlying142 rfl Aq0 Ud rfl) ?_;refine Q0.val C3 (J1 _) rfl (v:=.int .u64 4294967296) (P0 rfl) ?_;refine Q0.ad1 (J1 _) rfl Tryz.func137 fx1 rfl rfl gf1 rfl rfl (fun v hv=>?_);rcases Nat.eq_zero_or_pos v with rfl|hv0
 ·refine Q0.val Y0 (J1 _) rfl (v:=.int .u64 ((((0+1)*4294967296+0:Nat):Int))) (E1 rfl) ?_;refine Q0.nil Y0 ?_;refine At.ret Y0 (fun _=>?_);refine AtR.leave1 Y0 l7 rfl Tryz.func114 rfl (.int .u64 ((((0+1)*4294967296+0:Nat):Int))) rfl ?_;refine Q0.val Y0 (J1 _) rfl (v:=.int .u64 ((((0+1)*4294967296+0:Nat):Int))) (E1 rfl) ?_;refine U140 ?_;refine Q0.val Y0 (J1 _) rfl (v:=.int .u64 ((((0+1)*4294967296+0:Nat):Int))) (P0 rfl) ?_;refine Q0.val Y0 (J1 _) rfl (v:=.int .u64 0) (m9 (r:=0) rfl rfl (ta0 (0+1) 0 Uo Uo)) ?_;refine U265 ?_;refine U96 ?_;refine U103 ?_;refine U459 ?_;refine Q0.val Y0 (J1 _) rfl (v:=.int .u64 ((((0+1):Nat):Int))) (km0 (r:=(((0+1):Nat):Int)) rfl rfl Ud (tb0 (0+1) 0 Uo)) ?_;refine Q0.val Y0 (J1 _) rfl (v:=.int .i32 ((((0+1):Nat):Int))) (M4 (r:=(((0+1):Nat):Int)) rfl Tryz.underlying140 Tryz.underlying21 (gu0 (0+1) Uo)) ?_;refine Q0.val Y0 (J1 _) rfl (v:=.int .i32 ((((0+1):Nat):Int))) (E1 rfl) ?_;refine Q0.nil Y0 ?_;refine U459 ?_;refine Q0.val Y0 (J1 _) rfl (v:=.int .u64 0) (m9 (r:=0) rfl rfl (mg0 (0+1) 0 Uo Uo)) ?_;refine U407 ?_;refine U140 ?_;refine U449 ?_;refine U506 ?_;refine Q0.fw0 Y0 (J1 _) rfl rfl (v:=.int .i32 ((((0+1):Nat):Int))) (P0 rfl) ?_;refine U409 ?_;refine Q0.fw0 Y0 (J1 _) rfl rfl (v:=.bool true) (fm0 (r:=true) rfl rfl (decide_eq_true Uo)) ?_;refine U334 ?_;refine At.region Y0 ?_;refine Q0.val Y0 (J1 _) rfl (v:=.pointer (some ⟨gr.blk,gr.off,none⟩)) (P0 rfl) ?_;refine Q0.val Y0 (J1 _) rfl (v:=.pointer (some ⟨gr.blk,gr.off,none⟩)) (T5 rfl) ?_;refine Q0.val Y0 (J1 _) rfl (v:=.pointer (some ⟨gr.blk,gr.off+1,none⟩)) (H5 (s:=1) gr.off (gr.off+1) rfl Tryz.underlying145 rfl Tn0 Ud rfl) ?_;refine Q0.toUnsafe az1 (J1 _) rfl rfl (.inr rfl) Tryz.underlying211 Tryz.underlying205 gg1 ?_;refine Q0.Df0 Y0 (J1 _) .read (by simp) (.inr (.inl rfl)) rfl Tryz.func115 rr1 rfl rfl sv1 rfl ?_;rw[ee0 _ rfl];refine U140 ?_;refine Q0.val Y0 (J1 _) rfl (v:=.int .i32 ((((0+1):Nat):Int))) (P0 rfl) ?_;refine U462 ?_;refine U132 ?_;refine U503 ?_;refine U96 ?_;refine U502 ?_;refine U96 ?_;refine U103 ?_;refine U132 ?_;refine Q0.val Y0 (J1 _) rfl (v:=.int .i32 ((((0+1):Nat):Int))) (P0 rfl) ?_;refine U423 ?_;refine U169 ?_;refine U334 ?_;refine At.ret Y0 (fun _=>?_);refine AtR.mark Y0 .enable (by simp) (.inl rfl) Tryz.func109 td0 rfl rfl tf0 ?_;simp only[fn0];exact U528
 ·refine Q0.val Y0 (J1 _) rfl (v:=.int .u64 ((((v+1)*4294967296+0:Nat):Int))) (E1 rfl) ?_;refine Q0.nil Y0 ?_;refine At.ret Y0 (fun _=>?_);refine AtR.leave1 Y0 l7 rfl Tryz.func114 rfl (.int .u64 ((((v+1)*4294967296+0:Nat):Int))) rfl ?_;refine Q0.val Y0 (J1 _) rfl (v:=.int .u64 ((((v+1)*4294967296+0:Nat):Int))) (E1 rfl) ?_;refine U140 ?_;refine Q0.val Y0 (J1 _) rfl (v:=.int .u64 ((((v+1)*4294967296+0:Nat):Int))) (P0 rfl) ?_;refine Q0.val Y0 (J1 _) rfl (v:=.int .u64 0) (m9 (r:=0) rfl rfl (ta0 (v+1) 0 Uo Uo)) ?_;refine U265 ?_;refine U96 ?_;refine U103 ?_;refine U458 ?_;refine Q0.val Y0 (J1 _) rfl (v:=.int .u64 ((((v+1):Nat):Int))) (km0 (r:=(((v+1):Nat):Int)) rfl rfl Ud (tb0 (v+1) 0 Uo)) ?_;refine Q0.val Y0 (J1 _) rfl (v:=.int .i32 ((((v+1):Nat):Int))) (M4 (r:=(((v+1):Nat):Int)) rfl Tryz.underlying140 Tryz.underlying21 (gu0 (v+1) Uo)) ?_;refine Q0.val Y0 (J1 _) rfl (v:=.int .i32 ((((v+1):Nat):Int))) (E1 rfl) ?_;refine Q0.nil Y0 ?_;refine U458 ?_;refine Q0.val Y0 (J1 _) rfl (v:=.int .u64 0) (m9 (r:=0) rfl rfl (mg0 (v+1) 0 Uo Uo)) ?_;refine U407 ?_;refine U140 ?_;refine U449 ?_;refine U506 ?_;refine Q0.fw0 Y0 (J1 _) rfl rfl (v:=.int .i32 ((((v+1):Nat):Int))) (P0 rfl) ?_;refine U409 ?_;refine Q0.fw0 Y0 (J1 _) rfl rfl (v:=.bool false) (fm0 (r:=false) rfl rfl (decide_eq_false Uo)) ?_;refine Q0.val Y0 (J1 _) rfl (v:=.bool false) (co0 rfl rfl) ?_;refine U103 ?_;refine U484 ?_;refine U462 ?_;refine U132 ?_;refine U503 ?_;refine U96 ?_;refine U502 ?_;refine U96 ?_;refine U103 ?_;refine U484 ?_;refine U423 ?_;refine U169 ?_;refine U334 ?_;refine At.ret Y0 (fun _=>?_);refine AtR.mark Y0 .enable (by simp) (.inl rfl) Tryz.func109 td0 rfl rfl tf0 ?_;simp only[fn0];exact U528
noncomputable def gi1:Code:=match Tryz.f64.body with|some (.seq _ (.block _ (.loop c)))=>c|_=>.skip
set_option maxRecDepth 20000 in
theorem Ot0(gr:W7)(K:Goroutine->Prop){c:Frame}{cs:List Frame}(hK:K (Conc.G (c.finish (.tuple #[])) cs)):∀(V:Nat),V<2147483648->∀(e:Env),At (YWH Tryz.prog gr K none V) (500*V+500) 84 (base 64) (c::cs) [] 1 (upd e 0 (.pointer (some ⟨gr.blk,gr.off,none⟩))) [.code gi1,.inLoop gi1,.inBlock 0]:=by
 intro V
 induction V using Nat.strongRecOn with
 |_ V ih=>
 intro hV e;refine At.block Z2 ?_;refine U53 ?_;refine U428 ?_;refine Q0.call Z2 (J1 _) [.pointer (some ⟨gr.blk,gr.off,none⟩)] 7 rfl Tryz.func116 Tu0 rfl rfl rfl (fun cs1 l7=>?_);refine U53 ?_;refine Q0.val Z2 (J1 _) rfl (v:=.int .u64 0) (E1 rfl) ?_;refine Q0.nil Z2 ?_;refine U53 ?_;refine U427 ?_;refine Q0.jg1 (J1 _) rfl Tryz.func138 Tw0 rfl rfl Ua0 rfl ?_ (fun v hv hv0=>?_)
 ·refine Q0.val R2 (J1 _) rfl (v:=.int .u64 0) (E1 rfl) ?_;refine Q0.nil R2 ?_;refine At.ret R2 (fun _=>?_);refine AtR.leave1 R2 l7 rfl Tryz.func116 rfl (.int .u64 0) rfl ?_;refine U294 ?_;refine U507 ?_;refine Q0.val R2 (J1 _) rfl (v:=.int .u64 0) (km0 (r:=0) rfl rfl Ud Ud) ?_;refine Q0.val R2 (J1 _) rfl (v:=.int .i32 0) (M4 (r:=0) rfl Tryz.underlying140 Tryz.underlying21 Ud) ?_;refine Q0.val R2 (J1 _) rfl (v:=.int .i32 0) (E1 rfl) ?_;refine Q0.nil R2 ?_;refine U507 ?_;refine Q0.val R2 (J1 _) rfl (v:=.int .u64 0) (m9 (r:=0) rfl rfl Ud) ?_;refine Q0.val R2 (J1 _) rfl (v:=.int .u32 0) (M4 (r:=0) rfl Tryz.underlying140 Tryz.underlying143 Ud) ?_;refine Q0.val R2 (J1 _) rfl (v:=.int .u32 0) (E1 rfl) ?_;refine U211 ?_;refine U51 ?_;refine Q0.val R2 (J1 _) rfl (v:=.int .i32 0) (P0 rfl) ?_;refine Q0.val R2 (J1 _) rfl (v:=.bool true) (fm0 (r:=true) rfl rfl Ud) ?_;refine Q0.nil R2 ?_;refine At.v8 R2 rfl ?_;refine At.seq R2 ?_;refine At.v8 R2 rfl ?_;refine U468 ?_;simp only[fn0];refine Q0.nil R2 ?_;refine U453 ?_;refine U395 ?_;rw[ee0 _ rfl];refine U211 ?_;refine U51 ?_;refine Q0.val R2 (J1 _) rfl (v:=.int .u32 0) (P0 rfl) ?_;refine Q0.val R2 (J1 _) rfl (v:=.bool true) (fm0 (r:=true) rfl rfl Ud) ?_;refine Q0.val R2 (J1 _) rfl (v:=.bool true) (P0 rfl) ?_;refine Q0.fw0 R2 (J1 _) rfl rfl (v:=.int .u64 0) (P0 rfl) ?_;refine Q0.fw0 R2 (J1 _) rfl rfl (v:=.int .u64 0) (m9 (r:=0) rfl rfl Ud) ?_;refine Q0.fw0 R2 (J1 _) rfl rfl (v:=.bool false) (aw0 (r:=false) rfl rfl Ud) ?_;refine Q0.val R2 (J1 _) rfl (v:=.bool false) (co0 rfl rfl) ?_;refine Q0.val R2 (J1 _) rfl (v:=.bool false) (P0 rfl) ?_;refine Q0.off R2 rfl rfl ?_;refine Q0.off R2 rfl rfl ?_;refine Q0.val R2 (J1 _) rfl (v:=.bool false) (gt0 rfl rfl) ?_;refine Q0.nil R2 ?_;refine At.X6 R2 rfl ?_;refine At.skip R2 ?_;refine At.ret R2 (fun _=>?_);exact U536
 ·refine Q0.val Z2 (J1 _) rfl (v:=.int .u64 (((v*4294967296+0:Nat):Int))) (E1 rfl) ?_;refine Q0.nil Z2 ?_;refine At.ret Z2 (fun _=>?_);refine AtR.leave1 Z2 l7 rfl Tryz.func116 rfl (.int .u64 (((v*4294967296+0:Nat):Int))) rfl ?_;refine Q0.val Z2 (J1 _) rfl (v:=.int .u64 (((v*4294967296+0:Nat):Int))) (E1 rfl) ?_;refine Q0.nil Z2 ?_;refine U472 ?_;refine Q0.val Z2 (J1 _) rfl (v:=.int .u64 (((v:Nat):Int))) (km0 (r:=((v:Nat):Int)) rfl rfl Ud (tb0 v 0 Uo)) ?_;refine Q0.val Z2 (J1 _) rfl (v:=.int .i32 (((v:Nat):Int))) (M4 (r:=((v:Nat):Int)) rfl Tryz.underlying140 Tryz.underlying21 (gu0 v Uo)) ?_;refine Q0.val Z2 (J1 _) rfl (v:=.int .i32 (((v:Nat):Int))) (E1 rfl) ?_;refine Q0.nil Z2 ?_;refine U472 ?_;refine Q0.val Z2 (J1 _) rfl (v:=.int .u64 0) (m9 (r:=0) rfl rfl (mg0 v 0 Uo Uo)) ?_;refine Q0.val Z2 (J1 _) rfl (v:=.int .u32 0) (M4 (r:=0) rfl Tryz.underlying140 Tryz.underlying143 Ud) ?_;refine Q0.val Z2 (J1 _) rfl (v:=.int .u32 0) (E1 rfl) ?_;refine Q0.nil Z2 ?_;refine At.seq Z2 ?_;refine U53 ?_;refine Q0.val Z2 (J1 _) rfl (v:=.int .i32 (((v:Nat):Int))) (P0 rfl) ?_;refine Q0.val Z2 (J1 _) rfl (v:=.bool false) (fm0 (r:=false) rfl rfl (decide_eq_false Uo)) ?_;refine Q0.nil Z2 ?_;refine At.X6 Z2 rfl ?_;refine At.skip Z2 ?_;refine U53 ?_;refine U428 ?_;refine Q0.val Z2 (J1 _) rfl (v:=.int .u64 (((v*4294967296+0:Nat):Int))) (P0 rfl) ?_;refine Q0.val Z2 (J1 _) rfl (v:=.int .u64 (((v*4294967296+0:Nat):Int))) (P0 rfl) ?_;refine Q0.val Z2 (J1 _) rfl (v:=.int .u64 (((v*4294967296+1:Nat):Int))) (jc1 (r:=((v*4294967296+1:Nat):Int)) rfl rfl (add1 v Uo)) ?_;refine Q0.call Z2 (J1 _) [.pointer (some ⟨gr.blk,gr.off,none⟩),.int .u64 (((v*4294967296+0:Nat):Int)),.int .u64 (((v*4294967296+1:Nat):Int))] 13 rfl Tryz.func122 rv1 rfl rfl rfl (fun cs2 hb2=>?_);refine U53 ?_;refine Q0.val Z2 (J1 _) rfl (v:=.bool false) (E1 rfl) ?_;refine Q0.nil Z2 ?_;refine U53 ?_;refine U427 ?_;refine Q0.val Z2 (J1 _) rfl (v:=.int .u64 (((v*4294967296+0:Nat):Int))) (P0 rfl) ?_;refine Q0.val Z2 (J1 _) rfl (v:=.int .u64 (((v*4294967296+1:Nat):Int))) (P0 rfl) ?_;refine Q0.pz1 (vs:=v) (J1 _) rfl Tryz.func140 se1 rfl rfl ta1 rfl rfl rfl ?_ (fun v2 hv2=>?_)
  ·refine Q0.val r6 (J1 _) rfl (v:=.bool true) (E1 rfl) ?_;refine Q0.nil r6 ?_;refine At.ret r6 (fun _=>?_);refine AtR.leave1 r6 hb2 rfl Tryz.func122 rfl (.bool true) rfl ?_;refine U559 ?_;refine At.seq r6 ?_;refine U209 ?_;refine Q0.val r6 (J1 _) rfl (v:=.bool true) (P0 rfl) ?_;refine Q0.fw0 r6 (J1 _) rfl rfl (v:=.int .u32 0) (P0 rfl) ?_;refine Q0.fw0 r6 (J1 _) rfl rfl (v:=.bool true) (fm0 (r:=true) rfl rfl Ud) ?_;refine Q0.val r6 (J1 _) rfl (v:=.bool true) (co0 rfl rfl) ?_;refine U559 ?_;refine At.region r6 ?_;refine U473 ?_;refine Q0.toUnsafe pw1 (J1 _) rfl rfl (.inr rfl) Tryz.underlying211 Tryz.underlying205 gg1 ?_;refine Q0.Df0 r6 (J1 _) .write (by simp) (.inr (.inr rfl)) rfl Tryz.func123 rw1 rfl rfl sw1 rfl ?_;rw[ee0 _ rfl];refine Q0.nil r6 ?_;refine U209 ?_;refine Q0.val r6 (J1 _) rfl (v:=.bool false) (E1 rfl) ?_;refine Q0.nil r6 ?_;refine At.seq r6 ?_;refine U209 ?_;refine Q0.val r6 (J1 _) rfl (v:=.int .u64 (((v*4294967296+0:Nat):Int))) (P0 rfl) ?_;refine Q0.val r6 (J1 _) rfl (v:=.int .u64 0) (m9 (r:=0) rfl rfl (ta0 v 0 Uo Uo)) ?_;refine Q0.val r6 (J1 _) rfl (v:=.bool false) (aw0 (r:=false) rfl rfl Ud) ?_;refine Q0.val r6 (J1 _) rfl (v:=.bool false) (P0 rfl) ?_;refine Q0.off r6 rfl rfl ?_;refine Q0.val r6 (J1 _) rfl (v:=.bool false) (gt0 rfl rfl) ?_;refine Q0.nil r6 ?_;refine At.X6 r6 rfl ?_;refine At.skip r6 ?_;refine U209 ?_;refine U473 ?_;refine Q0.val r6 (J1 _) rfl (v:=.bool false) (P0 rfl) ?_;refine Q0.qa1 (J1 _) rfl Tryz.func124 rx1 rfl rfl tc1 rfl ?_;refine Q0.nil R2 ?_;refine U51 ?_;refine U401 ?_;refine Q0.val R2 (J1 _) rfl (v:=.pointer (some ⟨gr.blk,gr.off,none⟩)) (H5 (s:=1) gr.off gr.off rfl Tryz.underlying145 rfl Ar0 Ud rfl) ?_;refine Q0.call R2 (J1 _) [.pointer (some ⟨gr.blk,gr.off,none⟩)] 7 rfl Tryz.func116 Tu0 rfl rfl rfl (fun cs3 hb3=>?_);refine U51 ?_;refine U294 ?_;refine U51 ?_;refine U401 ?_;refine Q0.val R2 (J1 _) rfl (v:=.pointer (some ⟨gr.blk,gr.off,none⟩)) (H5 (s:=1) gr.off gr.off rfl Tryz.underlying142 rfl Aq0 Ud rfl) ?_;refine Q0.jh1 (J1 _) rfl Tryz.func138 Tw0 rfl rfl Ua0 rfl ?_;refine U294 ?_;refine At.ret R2 (fun _=>?_);refine AtR.leave1 R2 hb3 rfl Tryz.func116 rfl (.int .u64 0) rfl ?_;refine Q0.val R2 (J1 _) rfl (v:=.bool false) (aw0 (r:=false) rfl rfl Ud) ?_;refine Q0.val R2 (J1 _) rfl (v:=.bool false) (E1 rfl) ?_;refine U211 ?_;refine At.v8 R2 rfl ?_;refine U468 ?_;simp only[fn0];refine Q0.nil R2 ?_;refine U453 ?_;refine U395 ?_;rw[ee0 _ rfl];refine U211 ?_;refine U51 ?_;refine Q0.val R2 (J1 _) rfl (v:=.bool false) (P0 rfl) ?_;refine Q0.nil R2 ?_;refine At.X6 R2 rfl ?_;refine At.skip R2 ?_;refine At.ret R2 (fun _=>?_);exact U536
  ·refine Q0.val Z2 (J1 _) rfl (v:=.bool false) (E1 rfl) ?_;refine Q0.nil Z2 ?_;refine At.ret Z2 (fun _=>?_);refine AtR.leave1 Z2 hb2 rfl Tryz.func122 rfl (.bool false) rfl ?_;refine Q0.nil Z2 ?_;refine At.X6 Z2 rfl ?_;refine At.skip Z2 ?_;refine At.inBlock Z2 ?_;refine At.inLoop Z2 ?_;exact At.Td0 (At.Mg0 (fun e=>ih v2 Uo Uo e) rfl) Uo
set_option maxRecDepth 20000 in
theorem jt1(gr:W7)(K:Goroutine->Prop){c:Frame}{cs:List Frame}(hK:K (Conc.G (c.finish (.tuple #[])) cs))(V:Nat)(hV:V<2147483648):WH Tryz.prog gr (WE Tryz.prog gr K) (500*V+510) none V 0 (Conc.G (Frame.enter Tryz.prog 64 #[.pointer (some ⟨gr.blk,gr.off,none⟩)] .normal) (c::cs)):=by
 rw[enter_at _ Tryz.func64 rfl];refine(?_:At (YWH Tryz.prog gr K none V) (500*V+510) 84 (base 64) (c::cs) [] 0 (Wg.cw0 #[.pointer (some ⟨gr.blk,gr.off,none⟩)]) [.code (Tryz.f64.body.getD .skip)]) _ (gs0 _ _ rfl);refine At.seq Z2 ?_;refine At.v8 Z2 rfl ?_;refine At.region Z2 ?_;refine Q0.Md0 Z2 (J1 _) .disable (by simp) (.inl rfl) rfl Tryz.func108 Tt0 rfl rfl Tz0 ?_;simp only[te0];refine Q0.nil Z2 ?_;refine At.block Z2 ?_;refine At.loop Z2 ?_;exact At.Td0 (At.Mg0 (fun e=>Ot0 gr K hK V hV e) rfl) Uo
end
end Go.Proofs.YtinppmaojmdmhaaGreat
end
section
namespace Go.Vy.Sc
open Go Go.Conc Go.Yc Go.RowKit Go.Proofs Go.Proofs.YtinppmaojmdmhaaGreat Tryz
open Go.Vc
structure CB where
 cb:Nat
 rc:Nat
 sp:Stp
 rf:Value
 df:Value
 X1:Nat
 wt:Bool
 st:Bool
def CB.cells(rb i:Nat)(c:CB):Array Value:=#[.i (i:Int),.p rb,.chan (some c.rc),.i c.sp.kind,.i c.sp.obj,.i c.sp.num,c.rf,c.df,.i (c.X1:Int),.bool c.wt,.bool c.st]
def evC(x:Nat×Stp):List Value:=[.i (x.1:Int),.i x.2.kind,.i x.2.obj,.i x.2.num]
def ntC(x:Nat×Nat×Nte):List Value:=[.i (x.1:Int),.i (x.2.1:Int),.i x.2.2.kind,.string x.2.2.text]
def spC(s:Stp):List Value:=[.i s.kind,.i s.obj,.i s.num]
structure Rn where
 rb:Nat
 yb:Nat
 eb:Nat
 wb:Nat
 m:Nat
 ca:Option Addr
 cc:Nat
 cl:List CB
 ea:Option Addr
 ec:Nat
 evs:List (Nat×Stp)
 na:Option Addr
 nc:Nat
 nts:List (Nat×Nat×Nte)
 ends:List Int
 wts:List Stp
 stuck:Bool
 used:Nat
def Rn.cells(R:Rn):Array Value:=#[.slice R.ca R.cl.length R.cc,.slice R.ea R.evs.length R.ec,.slice R.na R.nts.length R.nc,.slice (pt R.eb) R.m R.m,.slice (pt R.wb) R.m R.m,.bool R.stuck,.i (R.used:Int),.chan (some R.yb)]
structure B5(w:World)(Bs:Nat)(R:Rn):Prop where
 run:P1 w R.rb R.cells 173 (7,8)
 cls:Own w Bs 123 1 R.ca R.cl.length R.cc (R.cl.map fun c=>.p c.cb)
 evs:Own w Bs 67 4 R.ea R.evs.length R.ec (R.evs.flatMap evC)
 nts:Own w Bs 63 4 R.na R.nts.length R.nc (R.nts.flatMap ntC)
 ends:P1 w R.eb (R.ends.map (Value.int .i64)).toArray 3 (0,0)
 wts:P1 w R.wb (R.wts.flatMap spC).toArray 65 (0,0)
 jv0:R.ends.length=R.m
 oq0:R.wts.length=R.m
 lcl:R.cl.length <=R.m
 blk:∀(i:Nat)(c:CB),R.cl[i]? =some c->P1 w c.cb (c.cells R.rb i) 248 (0,3)
def Rn.fp(R:Rn)(k:Nat):Prop:=k=R.rb\/k=R.eb\/k=R.wb\/(R.ca≠none/\k=ab R.ca)\/(R.ea≠none/\k=ab R.ea)\/(R.na≠none/\k=ab R.na)\/∃(i:Nat) (c:CB),R.cl[i]? =some c/\k=c.cb
section
variable{w w':World}{Bs:Nat}{R:Rn}
section
variable{T E:TypeId}{row:Option Nat}{s n c i c':Nat}{a a':Option Addr}{xs:List Value}{w1:World}
theorem B5.congr(h:B5 w Bs R)(he:∀k,R.fp k->w'.heap[k]? =w.heap[k]?):B5 w' Bs R:=
 ⟨(he _ (.inl rfl)).trans h.run,Own.congr h.cls fun ha=>he _ (.inr (.inr (.inr (.inl ⟨ha,rfl⟩)))),Own.congr h.evs fun ha=>he _ (.inr (.inr (.inr (.inr (.inl ⟨ha,rfl⟩))))),Own.congr h.nts fun ha=>he _ (.inr (.inr (.inr (.inr (.inr (.inl ⟨ha,rfl⟩)))))),
  (he _ (.inr (.inl rfl))).trans h.ends,(he _ (.inr (.inr (.inl rfl)))).trans h.wts,h.jv0,h.oq0,h.lcl,fun i c hc=>(he _ (.inr (.inr (.inr (.inr (.inr (.inr ⟨i,c,hc,rfl⟩))))))).trans (h.blk i c hc)⟩
theorem B5.lt(h:B5 w Bs R){k:Nat}(hk:R.fp k):k<w.heap.size:=by
 rcases hk with rfl|rfl|rfl|⟨ha,rfl⟩|⟨ha,rfl⟩|⟨ha,rfl⟩|⟨i,c,hc,rfl⟩
 ·exact h.run.lt
 ·exact h.ends.lt
 ·exact h.wts.lt
 ·exact h.cls.lt ha
 ·exact h.evs.lt ha
 ·exact h.nts.lt ha
 ·exact(h.blk i c hc).lt
theorem B5.j0(h:B5 w Bs R)(hb:Below w.heap.size w w'):B5 w' Bs R:=h.congr fun k hk=>hb.block k (h.lt hk)
theorem S2{b:Nat}{cs:Array Value}{f:Nat×Nat}(h:P1 w b cs T f)(hg:w.grownBy w' row)(hr:∀r,row=some r->∃S6 T' f',P1 w r S6 T' f'/\T≠T'):P1 w' b cs T f:=
 h.grown hg fun e=>by
  obtain⟨S6,T',f',h',hT⟩:=hr b e.symm;exact h.ne h' hT rfl
theorem j5(h:Own w Bs E s a n c xs)(hg:w.grownBy w' row)(hr:∀r,row=some r->∃S6 T' f',P1 w r S6 T' f'/\E≠T'):Own w' Bs E s a n c xs:=
 Own.congr h fun ha=>by
  obtain⟨cur,hB,_⟩:=h.row ha;refine hg.block _ hB.lt fun e=>?_;obtain⟨S6,T',f',h',hT⟩:=hr (ab a) e.symm;exact P1.ne (f:=(0,0)) hB h' hT rfl
theorem B5.yu1(h:B5 w Bs R){j:Nat}{c d:CB}(hc:R.cl[i]? =some c)(hd:R.cl[j]? =some d)(he:c.cb=d.cb):i=j:=by
 have h1:=h.blk i c hc;have h2:=h.blk j d hd;unfold P1 at h1 h2;rw[he,h2]at h1;have:=congrArg (fun o=>match o with|some (Obj.cells c _ _)=>c[0]? |_=>none) h1;simp[CB.cells]at this;omega
theorem Ub0(l:List CB)(i:Nat)(c c':CB)(hc:l[i]? =some c)(he:c'.cb=c.cb):(l.set i c').map (fun c=>Value.p c.cb)=l.map fun c=>Value.p c.cb:=by
 apply List.ext_getElem?;intro j;rw[List.getElem?_map,List.getElem?_map,List.getElem?_set];by_cases hj:i=j
 ·subst hj;have O1:=(List.getElem?_eq_some_iff.1 hc).1;rw[List.getElem?_eq_getElem O1]at hc;obtain rfl:=Option.some.inj hc;simp[O1,he]
 ·simp[hj]
theorem Rn.Mh0{c c':CB}(hc:R.cl[i]? =some c)(he:c'.cb=c.cb){k:Nat}(hk:Rn.fp {R with cl:=R.cl.set i c'} k):R.fp k:=by
 rcases hk with h|h|h|h|h|h|⟨j,d,hd,rfl⟩
 ·exact .inl h
 ·exact .inr (.inl h)
 ·exact .inr (.inr (.inl h))
 ·exact .inr (.inr (.inr (.inl h)))
 ·exact .inr (.inr (.inr (.inr (.inl h))))
 ·exact .inr (.inr (.inr (.inr (.inr (.inl h)))))
 ·refine .inr (.inr (.inr (.inr (.inr (.inr ?_)))));have R6:(R.cl.set i c')[j]? =some d:=hd;rw[List.getElem?_set]at R6;by_cases hj:i=j
  ·subst hj;rw[if_pos rfl]at R6;split at R6
   ·obtain rfl:=Option.some.inj R6;exact⟨i,c,hc,he⟩
   ·cases R6
  ·rw[if_neg hj]at R6;exact⟨j,d,R6,rfl⟩
theorem B5.ju1(h:B5 w Bs R){c:CB}(c':CB)(hc:R.cl[i]? =some c)(he:c'.cb=c.cb):B5 (V1 w c.cb (c'.cells R.rb i) 248 (0,3)) Bs {R with cl:=R.cl.set i c'}:=by
 have hg:=E2 w c.cb (c'.cells R.rb i) 248 (0,3);have hb:=h.blk i c hc;have hr:∀T:TypeId,T≠248->∀r,some c.cb=some r->∃S6 T' f',P1 w r S6 T' f'/\T≠T':=fun T hT r e=>by cases e;exact⟨_,_,_,hb,hT⟩
 refine⟨?_,?_,j5 h.evs hg (hr _ Ud),j5 h.nts hg (hr _ Ud),S2 h.ends hg (hr _ Ud),S2 h.wts hg (hr _ Ud),h.jv0,h.oq0,by simpa using h.lcl,fun j d hd=>?_⟩
 ·have:=S2 h.run hg (hr _ Ud);simpa [Rn.cells]using this
 ·have:=j5 h.cls hg (hr _ Ud);show Own _ Bs _ 1 R.ca (R.cl.set i c').length R.cc ((R.cl.set i c').map _);rw[Ub0 R.cl i c c' hc he,List.length_set];exact this
 ·have R6:(R.cl.set i c')[j]? =some d:=hd;rw[List.getElem?_set]at R6;by_cases hj:i=j
  ·subst hj;rw[if_pos rfl]at R6;split at R6
   ·obtain rfl:=Option.some.inj R6;rw[he];exact L5 hb _ _ _
   ·cases R6
  ·rw[if_neg hj]at R6;exact(h.blk j d R6).other hg fun e=>hj (h.yu1 R6 hc e).symm
theorem B5.jv1(h:B5 w Bs R)(st:Bool)(us:Nat):B5 (V1 w R.rb (Rn.cells {R with stuck:=st,used:=us}) 173 (7,8)) Bs {R with stuck:=st,used:=us}:=by
 have hg:=E2 w R.rb (Rn.cells {R with stuck:=st,used:=us}) 173 (7,8);have hr:∀T:TypeId,T≠173->∀r,some R.rb=some r->∃S6 T' f',P1 w r S6 T' f'/\T≠T':=fun T hT r e=>by cases e;exact⟨_,_,_,h.run,hT⟩
 exact⟨L5 h.run _ _ _,j5 h.cls hg (hr _ Ud),j5 h.evs hg (hr _ Ud),j5 h.nts hg (hr _ Ud),S2 h.ends hg (hr _ Ud),S2 h.wts hg (hr _ Ud),h.jv0,h.oq0,h.lcl,fun j d hd=>S2 (h.blk j d hd) hg (hr _ Ud)⟩
theorem bd1(h:Own w Bs E s a n c xs):∀r,Value.ownBlock (.slice a n c)=some r->∃S6 T' f',P1 w r S6 T' f':=by
 intro r e;cases a with
 |none=>cases e
 |some ad=>
  obtain⟨cur,hB,_⟩:=h.row (by simp);cases e;exact⟨_,_,_,hB⟩
theorem V5(h:Own w Bs E s a n c xs)(hT:T≠E):∀r,Value.ownBlock (.slice a n c)=some r->∃S6 T' f',P1 w r S6 T' f'/\T≠T':=by
 intro r e;cases a with
 |none=>cases e
 |some ad=>
  obtain⟨cur,hB,_⟩:=h.row (by simp);cases e;exact⟨_,_,_,hB,hT⟩
theorem B5.Uc0(h:B5 w Bs R)(x:Nat×Stp)(hg:w.grownBy w1 (Value.ownBlock (.slice R.ea R.evs.length R.ec)))(hO:Own w1 Bs 67 4 a' (R.evs.length+1) c' (R.evs.flatMap evC++evC x)):B5 (V1 w1 R.rb (Rn.cells {R with ea:=a',ec:=c',evs:=R.evs ++ [x]}) 173 (7,8)) Bs {R with ea:=a',ec:=c',evs:=R.evs ++ [x]}:=by
 have L3:=S2 h.run hg (V5 h.evs Ud);have hg2:=E2 w1 R.rb (Rn.cells {R with ea:=a',ec:=c',evs:=R.evs ++ [x]}) 173 (7,8);have hr:∀T:TypeId,T≠173->∀r,some R.rb=some r->∃S6 T' f',P1 w1 r S6 T' f'/\T≠T':=fun T hT r e=>by cases e;exact⟨_,_,_,L3,hT⟩
 refine⟨L5 L3 _ _ _,j5 (j5 h.cls hg (V5 h.evs Ud)) hg2 (hr _ Ud),?_,j5 (j5 h.nts hg (V5 h.evs Ud)) hg2 (hr _ Ud),S2 (S2 h.ends hg (V5 h.evs Ud)) hg2 (hr _ Ud),S2 (S2 h.wts hg (V5 h.evs Ud)) hg2 (hr _ Ud),h.jv0,h.oq0,h.lcl,fun j d hd=>S2 (S2 (h.blk j d hd) hg (V5 h.evs Ud)) hg2 (hr _ Ud)⟩;have:=j5 hO hg2 (hr _ Ud);simpa using this
theorem B5.Ud0(h:B5 w Bs R)(x:Nat×Nat×Nte)(hg:w.grownBy w1 (Value.ownBlock (.slice R.na R.nts.length R.nc)))(hO:Own w1 Bs 63 4 a' (R.nts.length+1) c' (R.nts.flatMap ntC++ntC x)):B5 (V1 w1 R.rb (Rn.cells {R with na:=a',nc:=c',nts:=R.nts ++ [x]}) 173 (7,8)) Bs {R with na:=a',nc:=c',nts:=R.nts ++ [x]}:=by
 have L3:=S2 h.run hg (V5 h.nts Ud);have hg2:=E2 w1 R.rb (Rn.cells {R with na:=a',nc:=c',nts:=R.nts ++ [x]}) 173 (7,8);have hr:∀T:TypeId,T≠173->∀r,some R.rb=some r->∃S6 T' f',P1 w1 r S6 T' f'/\T≠T':=fun T hT r e=>by cases e;exact⟨_,_,_,L3,hT⟩
 refine⟨L5 L3 _ _ _,j5 (j5 h.cls hg (V5 h.nts Ud)) hg2 (hr _ Ud),j5 (j5 h.evs hg (V5 h.nts Ud)) hg2 (hr _ Ud),?_,S2 (S2 h.ends hg (V5 h.nts Ud)) hg2 (hr _ Ud),S2 (S2 h.wts hg (V5 h.nts Ud)) hg2 (hr _ Ud),h.jv0,h.oq0,h.lcl,fun j d hd=>S2 (S2 (h.blk j d hd) hg (V5 h.nts Ud)) hg2 (hr _ Ud)⟩;have:=j5 hO hg2 (hr _ Ud);simpa using this
theorem B5.Ue0(h:B5 w Bs R)(x:CB)(hx:P1 w x.cb (x.cells R.rb R.cl.length) 248 (0,3))(hm:R.cl.length<R.m)(hg:w.grownBy w1 (Value.ownBlock (.slice R.ca R.cl.length R.cc)))(hO:Own w1 Bs 123 1 a' (R.cl.length+1) c' ((R.cl.map fun c=>.p c.cb) ++ [.p x.cb])):B5 (V1 w1 R.rb (Rn.cells {R with ca:=a',cc:=c',cl:=R.cl ++ [x]}) 173 (7,8)) Bs {R with ca:=a',cc:=c',cl:=R.cl ++ [x]}:=by
 have L3:=S2 h.run hg (V5 h.cls Ud);have hg2:=E2 w1 R.rb (Rn.cells {R with ca:=a',cc:=c',cl:=R.cl ++ [x]}) 173 (7,8);have hr:∀T:TypeId,T≠173->∀r,some R.rb=some r->∃S6 T' f',P1 w1 r S6 T' f'/\T≠T':=fun T hT r e=>by cases e;exact⟨_,_,_,L3,hT⟩
 refine⟨L5 L3 _ _ _,?_,j5 (j5 h.evs hg (V5 h.cls Ud)) hg2 (hr _ Ud),j5 (j5 h.nts hg (V5 h.cls Ud)) hg2 (hr _ Ud),S2 (S2 h.ends hg (V5 h.cls Ud)) hg2 (hr _ Ud),S2 (S2 h.wts hg (V5 h.cls Ud)) hg2 (hr _ Ud),h.jv0,h.oq0,by simp;omega,fun j d hd=>?_⟩
 ·have:=j5 hO hg2 (hr _ Ud);simpa using this
 ·have R6:(R.cl ++ [x])[j]? =some d:=hd;have hb:P1 w d.cb (d.cells R.rb j) 248 (0,3):=by
   rw[List.getElem?_append]at R6;split at R6
   ·exact h.blk j d R6
   ·rename_i O1;have hj:j=R.cl.length:=by
     rcases Nat.lt_or_ge (j-R.cl.length) 1 with z|z
     ·omega
     ·rw[List.getElem?_eq_none (by simpa using z)]at R6;cases R6
    subst hj;simp at R6;subst R6;exact hx
  exact S2 (S2 hb hg (V5 h.cls Ud)) hg2 (hr _ Ud)
theorem B5.bd0(h:B5 w Bs R)(i:Nat)(v:Int):B5 (V1 w R.eb ((R.ends.set i v).map (Value.int .i64)).toArray 3 (0,0)) Bs {R with ends:=R.ends.set i v}:=by
 have hg:=E2 w R.eb ((R.ends.set i v).map (Value.int .i64)).toArray 3 (0,0);have hr:∀T:TypeId,T≠3->∀r,some R.eb=some r->∃S6 T' f',P1 w r S6 T' f'/\T≠T':=fun T hT r e=>by cases e;exact⟨_,_,_,h.ends,hT⟩
 exact⟨S2 h.run hg (hr _ Ud),j5 h.cls hg (hr _ Ud),j5 h.evs hg (hr _ Ud),j5 h.nts hg (hr _ Ud),L5 h.ends _ _ _,S2 h.wts hg (hr _ Ud),by simpa using h.jv0,h.oq0,h.lcl,fun j d hd=>S2 (h.blk j d hd) hg (hr _ Ud)⟩
theorem B5.jw1(h:B5 w Bs R)(i:Nat)(v:Stp):B5 (V1 w R.wb ((R.wts.set i v).flatMap spC).toArray 65 (0,0)) Bs {R with wts:=R.wts.set i v}:=by
 have hg:=E2 w R.wb ((R.wts.set i v).flatMap spC).toArray 65 (0,0);have hr:∀T:TypeId,T≠65->∀r,some R.wb=some r->∃S6 T' f',P1 w r S6 T' f'/\T≠T':=fun T hT r e=>by cases e;exact⟨_,_,_,h.wts,hT⟩
 exact⟨S2 h.run hg (hr _ Ud),j5 h.cls hg (hr _ Ud),j5 h.evs hg (hr _ Ud),j5 h.nts hg (hr _ Ud),S2 h.ends hg (hr _ Ud),L5 h.wts _ _ _,h.jv0,by simpa using h.oq0,h.lcl,fun j d hd=>S2 (h.blk j d hd) hg (hr _ Ud)⟩
end
structure Rg(S:Nat->Prop)(B:Nat)(w0 w:World)(Bs:Nat)(R:Rn):Prop where
 m:B5 w Bs R
 md:mi0 S B w0 w
 fp:∀k,R.fp k->S k\/B <=k
 le:B <=w.heap.size
end
section
variable{S:Nat->Prop}{B:Nat}{w0 w w':World}{Bs:Nat}{R:Rn}
theorem B5.rg(h:B5 w Bs R):Rg R.fp w.heap.size w w Bs R:=⟨h,mi0.refl _ _ _,fun _ h=>.inl h,Nat.le_refl _⟩
theorem Rg.j0(h:Rg S B w0 w Bs R)(hb:Below w.heap.size w w'):Rg S B w0 w' Bs R:=⟨h.m.j0 hb,h.md.below hb h.le,h.fp,Nat.le_trans h.le hb.size⟩
theorem Rg.fresh(h:Rg S B w0 w Bs R){b:Nat}(cs:Array Value)(T:TypeId)(f:Nat×Nat)(hb:∀k,R.fp k->k≠b)(hB:B <=b):Rg S B w0 (V1 w b cs T f) Bs R:=
 ⟨h.m.congr fun k hk=>B9 (hb k hk),h.md.grown (E2 w b cs T f) h.le (fun r e=>by cases e;exact .inr hB),h.fp,by rw[Y6];exact h.le⟩
theorem Rg.put(h:Rg S B w0 w Bs R){b:Nat}{cs:Array Value}{T:TypeId}{f:Nat×Nat}{R':Rn}(hb:R.fp b)(hm:B5 (V1 w b cs T f) Bs R')(hf:∀k,R'.fp k->R.fp k):Rg S B w0 (V1 w b cs T f) Bs R':=
 ⟨hm,h.md.grown (E2 w b cs T f) h.le (fun r e=>by cases e;exact h.fp _ hb),fun k hk=>h.fp k (hf k hk),by rw[Y6];exact h.le⟩
theorem te1{i:Nat}{c:CB}(hc:R.cl[i]? =some c):R.fp c.cb:=.inr (.inr (.inr (.inr (.inr (.inr ⟨i,c,hc,rfl⟩)))))
theorem Rg.ju1(h:Rg S B w0 w Bs R){i:Nat}{c:CB}(c':CB)(hc:R.cl[i]? =some c)(he:c'.cb=c.cb):Rg S B w0 (V1 w c.cb (c'.cells R.rb i) 248 (0,3)) Bs {R with cl:=R.cl.set i c'}:=
 h.put (te1 hc) (h.m.ju1 c' hc he) fun _ hk=>Rn.Mh0 hc he hk
theorem Rg.jv1(h:Rg S B w0 w Bs R)(st:Bool)(us:Nat):Rg S B w0 (V1 w R.rb (Rn.cells {R with stuck:=st,used:=us}) 173 (7,8)) Bs {R with stuck:=st,used:=us}:=
 h.put (.inl rfl) (h.m.jv1 st us) fun _ hk=>hk
theorem Rg.bd0(h:Rg S B w0 w Bs R)(i:Nat)(v:Int):Rg S B w0 (V1 w R.eb ((R.ends.set i v).map (Value.int .i64)).toArray 3 (0,0)) Bs {R with ends:=R.ends.set i v}:=
 h.put (.inr (.inl rfl)) (h.m.bd0 i v) fun _ hk=>hk
theorem Rg.jw1(h:Rg S B w0 w Bs R)(i:Nat)(v:Stp):Rg S B w0 (V1 w R.wb ((R.wts.set i v).flatMap spC).toArray 65 (0,0)) Bs {R with wts:=R.wts.set i v}:=
 h.put (.inr (.inr (.inl rfl))) (h.m.jw1 i v) fun _ hk=>hk
def Ou0(w:World)(a a':Option Addr):Prop:=a'≠none->(a≠none/\ab a'=ab a)\/w.heap.size <=ab a'
theorem Dh0{a:Option Addr}{n c r:Nat}(e:Value.ownBlock (.slice a n c)=some r):a≠none/\r=ab a:=by
 cases a with
 |none=>cases e
 |some ad=>exact⟨by simp,by cases e;rfl⟩
theorem Rg.app(h:Rg S B w0 w Bs R){R':Rn}{row:Option Nat}{w1:World}(hg:w.grownBy w1 row)(hr:∀r,row=some r->R.fp r)(hb:R'.rb=R.rb)(hm:B5 (V1 w1 R.rb R'.cells 173 (7,8)) Bs R')(hf:∀k,R'.fp k->R.fp k\/w.heap.size <=k):Rg S B w0 (V1 w1 R.rb R'.cells 173 (7,8)) Bs R':=
 ⟨hm,(h.md.grown hg h.le fun r e=>h.fp r (hr r e)).grown (E2 _ _ _ _ _) (Nat.le_trans h.le hg.size) (fun r e=>by cases e;exact h.fp _ (.inl rfl)),fun k hk=>by
  rcases hf k hk with z|z
  ·exact h.fp k z
  ·have:=h.le;exact .inr Uo,by rw[Y6];exact Nat.le_trans h.le hg.size⟩
theorem Rg.Uc0(h:Rg S B w0 w Bs R){w1:World}{a':Option Addr}{c':Nat}(x:Nat×Stp)(hg:w.grownBy w1 (Value.ownBlock (.slice R.ea R.evs.length R.ec)))(hO:Own w1 Bs 67 4 a' (R.evs.length+1) c' (R.evs.flatMap evC++evC x))(hl:Ou0 w R.ea a'):Rg S B w0 (V1 w1 R.rb (Rn.cells {R with ea:=a',ec:=c',evs:=R.evs ++ [x]}) 173 (7,8)) Bs {R with ea:=a',ec:=c',evs:=R.evs ++ [x]}:=
 h.app (R':={R with ea:=a',ec:=c',evs:=R.evs ++ [x]}) hg (fun r e=>by obtain⟨h1,rfl⟩:=Dh0 e;exact .inr (.inr (.inr (.inr (.inl ⟨h1,rfl⟩))))) rfl (h.m.Uc0 x hg hO) fun k hk=>by
  rcases hk with z|z|z|z|⟨z1,z2⟩|z|z
  ·exact .inl (.inl z)
  ·exact .inl (.inr (.inl z))
  ·exact .inl (.inr (.inr (.inl z)))
  ·exact .inl (.inr (.inr (.inr (.inl z))))
  ·rcases hl z1 with⟨y1,y2⟩|y
   ·exact .inl (.inr (.inr (.inr (.inr (.inl ⟨y1,by rw[z2];exact y2⟩)))))
   ·exact .inr (by rw[z2];exact y)
  ·exact .inl (.inr (.inr (.inr (.inr (.inr (.inl z))))))
  ·exact .inl (.inr (.inr (.inr (.inr (.inr (.inr z))))))
theorem Rg.Ud0(h:Rg S B w0 w Bs R){w1:World}{a':Option Addr}{c':Nat}(x:Nat×Nat×Nte)(hg:w.grownBy w1 (Value.ownBlock (.slice R.na R.nts.length R.nc)))(hO:Own w1 Bs 63 4 a' (R.nts.length+1) c' (R.nts.flatMap ntC++ntC x))(hl:Ou0 w R.na a'):Rg S B w0 (V1 w1 R.rb (Rn.cells {R with na:=a',nc:=c',nts:=R.nts ++ [x]}) 173 (7,8)) Bs {R with na:=a',nc:=c',nts:=R.nts ++ [x]}:=
 h.app (R':={R with na:=a',nc:=c',nts:=R.nts ++ [x]}) hg (fun r e=>by obtain⟨h1,rfl⟩:=Dh0 e;exact .inr (.inr (.inr (.inr (.inr (.inl ⟨h1,rfl⟩)))))) rfl (h.m.Ud0 x hg hO) fun k hk=>by
  rcases hk with z|z|z|z|z|⟨z1,z2⟩|z
  ·exact .inl (.inl z)
  ·exact .inl (.inr (.inl z))
  ·exact .inl (.inr (.inr (.inl z)))
  ·exact .inl (.inr (.inr (.inr (.inl z))))
  ·exact .inl (.inr (.inr (.inr (.inr (.inl z)))))
  ·rcases hl z1 with⟨y1,y2⟩|y
   ·exact .inl (.inr (.inr (.inr (.inr (.inr (.inl ⟨y1,by rw[z2];exact y2⟩))))))
   ·exact .inr (by rw[z2];exact y)
  ·exact .inl (.inr (.inr (.inr (.inr (.inr (.inr z))))))
theorem Rg.Ue0(h:Rg S B w0 w Bs R){w1:World}{a':Option Addr}{c':Nat}(x:CB)(hx:P1 w x.cb (x.cells R.rb R.cl.length) 248 (0,3))(hxS:S x.cb\/B <=x.cb)(hm:R.cl.length<R.m)(hg:w.grownBy w1 (Value.ownBlock (.slice R.ca R.cl.length R.cc)))
  (hO:Own w1 Bs 123 1 a' (R.cl.length+1) c' ((R.cl.map fun c=>.p c.cb) ++ [.p x.cb])) (hl:Ou0 w R.ca a') :
  Rg S B w0 (V1 w1 R.rb (Rn.cells {R with ca:=a',cc:=c',cl:=R.cl ++ [x]}) 173 (7,8)) Bs {R with ca:=a',cc:=c',cl:=R.cl ++ [x]}:=by
 have h1:=h.m.Ue0 x hx hm hg hO;refine⟨h1,(h.md.grown hg h.le fun r e=>h.fp r (by obtain⟨h1,rfl⟩:=Dh0 e;exact .inr (.inr (.inr (.inl ⟨h1,rfl⟩))))).grown (E2 _ _ _ _ _) (Nat.le_trans h.le hg.size) (fun r e=>by cases e;exact h.fp _ (.inl rfl)),fun k hk=>?_,by rw[Y6];exact Nat.le_trans h.le hg.size⟩;rcases hk with z|z|z|⟨z1,z2⟩|z|z|⟨i,d,hd,z⟩
 ·exact h.fp _ (.inl z)
 ·exact h.fp _ (.inr (.inl z))
 ·exact h.fp _ (.inr (.inr (.inl z)))
 ·rcases hl z1 with⟨y1,y2⟩|y
  ·exact h.fp _ (.inr (.inr (.inr (.inl ⟨y1,by rw[z2];exact y2⟩))))
  ·have:=h.le;exact .inr (by rw[z2];show B <=ab a';omega)
 ·exact h.fp _ (.inr (.inr (.inr (.inr (.inl z)))))
 ·exact h.fp _ (.inr (.inr (.inr (.inr (.inr (.inl z))))))
 ·have R6:(R.cl ++ [x])[i]? =some d:=hd;rw[List.getElem?_append]at R6;split at R6
  ·exact h.fp _ (.inr (.inr (.inr (.inr (.inr (.inr ⟨i,d,R6,z⟩))))))
  ·have hdx:d=x:=by
    have:=List.mem_of_getElem? R6;simpa using this
   subst hdx;rw[z];exact hxS
end
section
variable{w:World}{Bs:Nat}{R:Rn}
theorem Uf0(hM:B5 w Bs R){i:Nat}{c:CB}(hc:R.cl[i]? =some c):w.cell? ⟨ab R.ca,ao R.ca+i*1,none⟩=some (.p c.cb):=by
 rw[hM.cls.off,Nat.zero_add,Nat.mul_one];exact hM.cls.cell (by rw[List.getElem?_map,hc];rfl)
def rdl(cl:List CB)(r:Nat->Bool)(n:Nat):List Nat:=(List.range n).filter fun i=>(cl[i]?.any (·.wt))&&r i
def Ug0(cl:List CB)(i:Nat):Value:=.pointer (some ⟨(cl[i]?.map (·.cb)).getD 0,0,none⟩)
section
variable{cl:List CB}{r:Nat->Bool}{i:Nat}{c:CB}
theorem Uh0(hc:cl[i]? =some c)(h:(c.wt&&r i)=false):rdl cl r (i+1)=rdl cl r i:=by
 unfold rdl;rw[List.range_succ,List.filter_append];simp[hc,h]
theorem Mi0(hc:cl[i]? =some c)(h:(c.wt&&r i)=true):rdl cl r (i+1)=rdl cl r i ++ [i]:=by
 unfold rdl;rw[List.range_succ,List.filter_append];simp only[Bool.and_eq_true]at h;simp[hc,h.1,h.2]
theorem Jk0(n:Nat):(rdl cl r n).length <=n:=by
 have:=List.length_filter_le (fun i=>(cl[i]?.any (·.wt))&&r i) (List.range n);simpa [rdl]using this
theorem tf1(h:∀(j:Nat)(c:CB),j<i->cl[j]? =some c->c.wt=false)(hi:cl.length <=i):cl.any (·.wt)=false:=by
 rw[List.any_eq_false];intro c hc;obtain⟨j,hj⟩:=List.mem_iff_getElem?.1 hc;have:=h j c (by have:=(List.getElem?_eq_some_iff.1 hj).1;omega) hj;simp[this]
end
def Di0[Ctx prog](w0:World)(rf:Value)(b:Bool):Prop:=
 (rf= .nilFunc/\b=true)\/∃f fn caps,rf= .func (.func f) #[] caps/\prog.funcs[f]? =some fn/\fn.body.isSome=true/\Ue fn/\∀u,Below w0.heap.size w0 u->C prog f caps u fun v u'=>v= .bool b/\Below u.heap.size u u'
end
section
variable[Ctx prog]{n:Nat}{Q:Exit->Env->World->Prop}{e:Env}{ops:Array Oper}{rest:List Oper}{ty:TypeId}{ps:String}{af:Array Edge}{T:TypeId}{x y:Operand}
variable{S:Nat->Prop}{B:Nat}{w0 w:World}{Bs:Nat}{R:Rn}
section
variable{o s c':Nat}{v:Value}{vs:List Value}{w1:World}{a':Option Addr}
theorem L.stC{i:Nat}{c:CB}(hg:Rg S B w0 w Bs R)(c':CB)(hc:R.cl[i]? =some c)(he:c'.cb=c.cb)(hx:ev e x= .pointer (some ⟨c.cb,o,none⟩))(hy:ev e y=v)(hvs:v.cells.toList=vs)(hs:(prog.info? T).map (·.size)=some s)(hl:vs.length=s)(h1:vs.all Value.oneCell'=true)(ho:3 <=o/\o+s <=11)(hcs:setRow (c.cells R.rb i) o vs=c'.cells R.rb i)
  (k:∀w1,Rg S B w0 w1 Bs {R with cl:=R.cl.set i c'}->w.grownBy w1 (some c.cb)->L prog n ops Q rest e w1):L prog n ops Q (⟨none,.store T x y,ty,ps,af,none⟩::rest) e w:=
 L.Jh0 (c'.cells R.rb i) hx hy hvs hs hl h1 (hg.m.blk i c hc) ho.2 (.inr ho.1) hcs (k _ (hg.ju1 c' hc he) (E2 _ _ _ _ _))
theorem L.stR(hg:Rg S B w0 w Bs R)(st:Bool)(us:Nat)(hx:ev e x= .pointer (some ⟨R.rb,o,none⟩))(hy:ev e y=v)(hvs:v.cells.toList=vs)(hs:(prog.info? T).map (·.size)=some s)(hl:vs.length=s)(h1:vs.all Value.oneCell'=true)(ho:o+s <=7)(hcs:setRow R.cells o vs=Rn.cells {R with stuck:=st,used:=us})
  (k:∀w1,Rg S B w0 w1 Bs {R with stuck:=st,used:=us}->w.grownBy w1 (some R.rb)->L prog n ops Q rest e w1):L prog n ops Q (⟨none,.store T x y,ty,ps,af,none⟩::rest) e w:=
 L.Jh0 (Rn.cells {R with stuck:=st,used:=us}) hx hy hvs hs hl h1 hg.m.run (show o+s <=8 by omega) (.inl (show o+s <=7 by omega)) hcs (k _ (hg.jv1 st us) (E2 _ _ _ _ _))
theorem L.yv1{o:Nat}{v:Value}(hg:Rg S B w0 w Bs R)(x':Nat×Stp)(j3:w.grownBy w1 (Value.ownBlock (.slice R.ea R.evs.length R.ec)))(hO:Own w1 Bs 67 4 a' (R.evs.length+1) c' (R.evs.flatMap evC++evC x'))(hli:Ou0 w R.ea a')
  (hx:ev e x= .pointer (some ⟨R.rb,1,none⟩)) (hy:ev e y= .slice a' (R.evs.length+1) c') (hs:(prog.info? T).map (·.size)=some 1)
  (k:∀w2,Rg S B w0 w2 Bs {R with ea:=a',ec:=c',evs:=R.evs ++ [x']}->L prog n ops Q rest e w2):L prog n ops Q (⟨none,.store T x y,ty,ps,af,none⟩::rest) e w1:=
 L.Jh0 (Rn.cells {R with ea:=a',ec:=c',evs:=R.evs ++ [x']}) hx hy rfl hs rfl rfl (S2 hg.m.run j3 (V5 hg.m.evs Ud)) (show 1+1 <=8 by omega) (.inl (show 1+1 <=7 by omega)) (by simp[Rn.cells,setRow,Value.cells]) (k _ (hg.Uc0 x' j3 hO hli))
theorem L.yw1{o:Nat}{v:Value}(hg:Rg S B w0 w Bs R)(x':Nat×Nat×Nte)(j3:w.grownBy w1 (Value.ownBlock (.slice R.na R.nts.length R.nc)))(hO:Own w1 Bs 63 4 a' (R.nts.length+1) c' (R.nts.flatMap ntC++ntC x'))(hli:Ou0 w R.na a')
  (hx:ev e x= .pointer (some ⟨R.rb,2,none⟩)) (hy:ev e y= .slice a' (R.nts.length+1) c') (hs:(prog.info? T).map (·.size)=some 1)
  (k:∀w2,Rg S B w0 w2 Bs {R with na:=a',nc:=c',nts:=R.nts ++ [x']}->L prog n ops Q rest e w2):L prog n ops Q (⟨none,.store T x y,ty,ps,af,none⟩::rest) e w1:=
 L.Jh0 (Rn.cells {R with na:=a',nc:=c',nts:=R.nts ++ [x']}) hx hy rfl hs rfl rfl (S2 hg.m.run j3 (V5 hg.m.nts Ud)) (show 2+1 <=8 by omega) (.inl (show 2+1 <=7 by omega)) (by simp[Rn.cells,setRow,Value.cells]) (k _ (hg.Ud0 x' j3 hO hli))
theorem L.yx1(hg:Rg S B w0 w Bs R)(x':CB)(hx0:P1 w x'.cb (x'.cells R.rb R.cl.length) 248 (0,3))(hxS:S x'.cb\/B <=x'.cb)(hm:R.cl.length<R.m)(j3:w.grownBy w1 (Value.ownBlock (.slice R.ca R.cl.length R.cc)))
  (hO:Own w1 Bs 123 1 a' (R.cl.length+1) c' ((R.cl.map fun c=>.p c.cb) ++ [.p x'.cb])) (hli:Ou0 w R.ca a')
  (hx:ev e x= .p R.rb) (hy:ev e y= .slice a' (R.cl.length+1) c') (hs:(prog.info? T).map (·.size)=some 1)
  (k:∀w2,Rg S B w0 w2 Bs {R with ca:=a',cc:=c',cl:=R.cl ++ [x']}->w1.grownBy w2 (some R.rb)->L prog n ops Q rest e w2):L prog n ops Q (⟨none,.store T x y,ty,ps,af,none⟩::rest) e w1:=
 L.Jh0 (Rn.cells {R with ca:=a',cc:=c',cl:=R.cl ++ [x']}) hx hy rfl hs rfl rfl (S2 hg.m.run j3 (V5 hg.m.cls Ud)) (show 0+1 <=8 by omega) (.inl (show 0+1 <=7 by omega)) (by simp[Rn.cells,setRow,Value.cells]) (k _ (hg.Ue0 x' hx0 hxS hm j3 hO hli) (E2 _ _ _ _ _))
end
end
section
theorem Ov0(l:List Stp)(i:Nat)(s:Stp)(hi:i<l.length):setRow (l.flatMap spC).toArray (i*3) (spC s)=((l.set i s).flatMap spC).toArray:=by
 apply Array.toList_inj.1;have key:∀(l:List Stp)(i:Nat),i<l.length->(l.set i s).flatMap spC=(((l.flatMap spC).set (i*3) (.i s.kind)).set (i*3+1) (.i s.obj)).set (i*3+2) (.i s.num):=by
  intro l
  induction l with
  |nil=>intro i hi;simp at hi
  |cons a l ih=>
   intro i hi;cases i with
   |zero=>simp[spC,List.flatMap_cons]
   |succ i=>
    have:=ih i (by simpa using hi);simp only[List.set_cons_succ,List.flatMap_cons,spC,List.cons_append,List.nil_append];rw[show(i+1)*3=i*3+1+1+1 by omega];simp only[List.set_cons_succ];rw[this]
 rw[key l i hi];simp[setRow,spC]
end
section
variable[Ctx prog]{n:Nat}{Q:Exit->Env->World->Prop}{e:Env}{ops:Array Oper}{rest:List Oper}{ty:TypeId}{ps:String}{af:Array Edge}{T:TypeId}{x y:Operand}
variable{S:Nat->Prop}{B:Nat}{w0 w:World}{Bs:Nat}{R:Rn}
theorem L.stE{i:Nat}{z:Int}(hg:Rg S B w0 w Bs R)(hi:i<R.m)(hx:ev e x= .pointer (some ⟨R.eb,0+i*1,none⟩))(hy:ev e y= .i z)(hs:(prog.info? T).map (·.size)=some 1)
  (k:∀w1,Rg S B w0 w1 Bs {R with ends:=R.ends.set i z}->w.grownBy w1 (some R.eb)->L prog n ops Q rest e w1):L prog n ops Q (⟨none,.store T x y,ty,ps,af,none⟩::rest) e w:=by
 refine L.Jh0 _ hx hy rfl hs rfl rfl hg.m.ends (by rw[Nat.zero_add,Nat.mul_one];simp[hg.m.jv0];omega) (.inr (by simp)) ?_ (k _ (hg.bd0 i z) (E2 _ _ _ _ _));rw[Nat.zero_add,Nat.mul_one];apply Array.toList_inj.1;simp[setRow,Value.cells,List.map_set]
theorem L.stW{i:Nat}{z:Stp}(hg:Rg S B w0 w Bs R)(hi:i<R.m)(hx:ev e x= .pointer (some ⟨R.wb,0+i*3,none⟩))(hy:ev e y=nk0 z)(hs:(prog.info? T).map (·.size)=some 3)
  (k:∀w1,Rg S B w0 w1 Bs {R with wts:=R.wts.set i z}->w.grownBy w1 (some R.wb)->L prog n ops Q rest e w1):L prog n ops Q (⟨none,.store T x y,ty,ps,af,none⟩::rest) e w:=by
 have hln:(R.wts.flatMap spC).length=R.m*3:=by
  rw[<- hg.m.oq0];generalize R.wts=l
  induction l with
  |nil=>rfl
  |cons a l ih=>simp only[List.flatMap_cons,List.length_append,ih,List.length_cons];simp[spC];omega
 refine L.Jh0 (vs:=spC z) _ hx hy rfl hs rfl rfl hg.m.wts (by simp only[List.size_toArray,hln];omega) (.inr (by simp)) ?_ (k _ (hg.jw1 i z) (E2 _ _ _ _ _));rw[Nat.zero_add];exact Ov0 R.wts i z (by rw[hg.m.oq0];exact hi)
end
section
variable[Ctx prog]
end
section
theorem tg1(x0:Int)(x1:Int)(x2:Int)(x3:ByteArray):prog.built 63 [(0,.i x0),(1,.i x1),(2,.i x2),(3,.string x3)]=some #[.i x0,.i x1,.i x2,.string x3]:=by kernel_rfl
end
section
variable[Ctx prog]
theorem jx1{S:Nat->Prop}{B:Nat}{w0:World}{Bs:Nat}(R:Rn)(w:World)(hg:Rg S B w0 w Bs R)(hBs:Bs <=w.heap.size)(i:Nat)(c:CB)(hc:R.cl[i]? =some c)(O2:c.st=false)(hrm:R.nts.length <=1000000000)(kind:Int)(text:ByteArray):C prog 74 #[.p c.cb,.i kind,.string text] w fun v w1=>v= .tuple #[]/\∃a n,Rg S B w0 w1 Bs {R with na:=a,nc:=n,nts:=R.nts ++ [(R.evs.length,i,⟨kind,text⟩)]}:=by
 refine C.enter (n:=42) func74 rfl rfl<|W.seq<|U545 ?_;refine U89 ?_;refine L.va (A0 rfl underlying248 rfl sz4 Ud)<|L.on rfl<|L.va (q0 rfl underlying4 rfl ((hg.m.blk i c hc).E0 10 (v:=.bool c.st) rfl))<|L.va (H7 rfl)<|U1 ?_;refine W.X6 (rb O2)<|U69 ?_;refine U0 ?_;refine U11 ?_;refine L.va (A0 rfl underlying248 rfl Fy0 Ud)<|L.va (q0 rfl underlying169 rfl ((hg.m.blk i c hc).E0 1 (v:=.p R.rb) rfl))<|U95 ?_;refine U73 ?_;refine U116 ?_;intro hR hC;refine W.fl 19 [17,18] [0,1,2,3,4,5,6,7,8,9,10,11,12,13,14,15,16,17,18] (fun w'=>P1 w' R.rb #[.slice R.ca R.cl.length R.cc,.slice R.ea R.evs.length R.ec,.slice R.na R.nts.length R.nc,.slice (pt R.eb) R.m R.m,.slice (pt R.wb) R.m R.m,.bool R.stuck,.i (R.used:Int),.chan (some R.yb)] 173 (7,8)/\P1 w' c.cb #[.i (i:Int),.p R.rb,.chan (some c.rc),.i c.sp.kind,.i c.sp.obj,.i c.sp.num,c.rf,c.df,.i (c.X1:Int),.bool c.wt,.bool c.st] 248 (0,3)) Uk Uk Uk Uk Uk (⟨hR.j0 (Below.refl w.heap.size w).drew,hC.j0 (Below.refl w.heap.size w).drew⟩) ?_;have G4:Below w.heap.size w w.drew:=(Below.refl w.heap.size w).drew;have hBs:=Nat.le_trans hBs G4.size;have hg:=hg.j0 G4;have hR:=hR.j0 G4;have hC:=hC.j0 G4;clear G4;generalize w.drew=w at *;refine U550 ?_;refine F.va rfl rfl (fun w' W0=>(A0 rfl underlying45 rfl jl1 Ud))<|F.va rfl rfl (fun w' W0=>(q0 rfl underlying42 rfl (W0.1.E0 2 (v:=.slice R.na R.nts.length R.nc) rfl)))<|U31 ?_;refine U402 ?_;refine F.va rfl rfl (fun w' W0=>(A7 rfl underlying41 rfl))<|U31 ?_;refine U418 ?_;refine F.va rfl rfl (fun w' W0=>(N3 rfl))<|F.va rfl rfl (fun w' W0=>G5)<|F.va rfl rfl (fun w' W0=>(P2 (parts:=[(0,.tmp 30),(1,.tmp 34),(2,.tmp 35),(3,.tmp 36)]) rfl (tg1 (R.evs.length:Nat) (i:Int) kind text)))<|F.doo rfl rfl<|L.cx0 (cs:=#[.i (R.evs.length:Nat),.i (i:Int),.i kind,.string text]) rfl rfl underlying42 xe1 rfl ⟨_,xf1⟩ Ud (fun w b38 F38=>?_);have hBs:=Nat.le_trans hBs F38.below.size;have hg:=hg.j0 F38.below;have hR:=hR.j0 F38.below;have hC:=hC.j0 F38.below;have be1:=F38.blk;refine L.nil ⟨rfl,⟨hR,hC⟩,?_⟩;refine F.doo rfl rfl<|L.ja0 (B:=Bs) (m:=1) rfl rfl underlying42 xg1 rfl Ud hg.m.nts (news:=[.i (R.evs.length:Nat),.i (i:Int),.i kind,.string text]) rfl (fun j u hj=>by
  rw[Addr.add_lit]
  match j,hj with
  |0,hj=>cases hj;exact be1.E0 0 rfl
  |1,hj=>cases hj;exact be1.E0 1 rfl
  |2,hj=>cases hj;exact be1.E0 2 rfl
  |3,hj=>cases hj;exact be1.E0 3 rfl) (fun u hu=>by simp only[List.mem_cons,List.not_mem_nil,or_false]at hu;rcases hu with rfl|rfl|rfl|rfl <;> rfl) Uo Uo hBs (fun a39 c39 w2 hO j3 hli=>?_)
 have hR:=S2 hR j3 (V5 hg.m.nts Ud);have hC:=S2 hC j3 (V5 hg.m.nts Ud);refine L.nil ⟨rfl,⟨hR,hC⟩,?_⟩;refine U9 ?_;refine L.va (j1 rfl)<|L.va (A0 rfl underlying45 rfl jl1 Ud)<|L.yw1 (o:=0) (v:=undef) hg (R.evs.length,i,⟨kind,text⟩) j3 hO hli rfl rfl jl1 (fun w hg=>?_);refine L.nil ?_
 try clear hR
 try clear hC
 refine U93 ?_;exact⟨rfl,_,_,hg⟩
theorem Jl0(R:Rn)(Bs:Nat)(w0:World)(hM:B5 w0 Bs R)(hm:R.cl.length <=1000):C prog 79 #[.p R.rb] w0 fun v w1=>v= .bool (R.cl.any (·.wt))/\w1=w0:=by
 refine C.enter (n:=19) func79 rfl rfl<|U0 ?_;refine L.va (jm0 rfl)<|U28 ?_;refine U194 ?_;refine U441 ?_;refine U22 ?_;refine W.loop (fun k e w=>∃(i:Nat),k=R.cl.length-i/\e 0= .p R.rb/\e 2= .bool false/\e 8= .slice R.ca R.cl.length (R.cc)/\e 9= .i (R.cl.length:Nat)/\e 10= .i (i:Int)/\i <=R.cl.length/\(∀(j:Nat)(c:CB),j<i->R.cl[j]? =some c->c.wt=false)/\w=w0) _ ⟨0,rfl,rfl,rfl,rfl,rfl,rfl,Nat.zero_le _,fun j c hj=>absurd hj (Nat.not_lt_zero _),rfl⟩ ?_;rintro k e w ⟨i,hk,s0,s2,s8,s9,s10,hi,r9,hw⟩;rw[L0 s0,L0 s2,L0 s8,L0 s9,L0 s10];clear s0 s2 s8 s9 s10;subst hw;refine U12 ?_;refine W.m6 rfl (fun h11=>?_) (fun h11=>?_)
 ·have O1:i<R.cl.length:=by omega
  obtain⟨c,hc⟩:∃c,R.cl[i]? =some c:=⟨_,List.getElem?_eq_getElem O1⟩
  refine U58 ?_;refine U440 ?_;refine U64 ?_;refine U480 ?_;refine U1 ?_;refine W.cond rfl (fun h17=>?_) (fun h17=>?_)
  ·refine W.seq<|W.region rfl<|U8 ?_;refine U15 ?_;exact⟨congrArg Value.bool (List.any_eq_true.2 ⟨c,List.mem_of_getElem? hc,h17⟩).symm,rfl⟩
  ·refine W.skip<|U27 ?_;exact⟨_,by omega,⟨i+1,rfl,rfl,rfl,rfl,rfl,rfl,Uo,(fun j d hj hd=>by
     rcases Nat.lt_or_ge j i with z|z
     ·exact r9 j d z hd
     ·obtain rfl:j=i:=by omega
      rw[hc]at hd;obtain rfl:=Option.some.inj hd;exact h17),rfl⟩⟩
 ·refine W.exit<|U44 ?_;refine U8 ?_;refine U15 ?_;exact⟨congrArg Value.bool (tf1 r9 Uo).symm,rfl⟩
theorem Au0(R:Rn)(Bs:Nat)(w0:World)(hM:B5 w0 Bs R)(hm:R.cl.length <=1000)(r:Nat->Bool)(hrd:∀(i:Nat)(c:CB),R.cl[i]? =some c->c.wt=true->Di0 w0 c.rf (r i)):C prog 77 #[.p R.rb] w0 fun v w=>∃a cp,v= .slice a (rdl R.cl r R.cl.length).length cp/\Own w w0.heap.size 123 1 a (rdl R.cl r R.cl.length).length cp ((rdl R.cl r R.cl.length).map (Ug0 R.cl))/\Below w0.heap.size w0 w:=by
 refine C.enter (n:=39) func77 rfl rfl<|U2 ?_;intro hb;refine U25 ?_;refine U0 ?_;refine L.va (kg0 rfl)<|U28 ?_;refine U194 ?_;refine L.va (q0 rfl underlying171 rfl ((hM.j0 hb).run.E0 0 (v:=.slice R.ca R.cl.length R.cc) rfl))<|L.va (A7 rfl underlying171 rfl)<|U22 ?_;refine W.loop (fun k e w=>∃(i:Nat),∃(a:Option Addr),∃(q:Nat),∃(cp:Nat),k=R.cl.length-i/\e 0= .p R.rb/\e 2= .slice none 0 0/\e 3= .slice a q cp/\e 9= .slice R.ca R.cl.length (R.cc)/\e 10= .i (R.cl.length:Nat)/\e 11= .i (i:Int)/\i <=R.cl.length/\q=(rdl R.cl r i).length/\Own w w0.heap.size 123 1 a q cp ((rdl R.cl r i).map (Ug0 R.cl))/\Below w0.heap.size w0 w) _ ⟨0,none,0,0,rfl,rfl,rfl,rfl,rfl,rfl,rfl,Nat.zero_le _,rfl,Own.nil _ _ _ _,hb⟩ ?_;rintro k e w ⟨i,a,q,cp,hk,s0,s2,s3,s9,s10,s11,hi,hq,hO,hb⟩;rw[L0 s0,L0 s2,L0 s3,L0 s9,L0 s10,L0 s11];clear s0 s2 s3 s9 s10 s11;refine U12 ?_;refine W.m6 rfl (fun h12=>?_) (fun h12=>?_)
 ·have O1:i<R.cl.length:=by omega
  obtain⟨c,hc⟩:∃c,R.cl[i]? =some c:=⟨_,List.getElem?_eq_getElem O1⟩
  obtain⟨cb,rc,sp,rf,df,pk,wt,st⟩:=c;refine U58 ?_;refine L.va (Q7 (i:=i) rfl rfl underlying171 Fv0 hM.cls.sl O1)<|L.va (q0 (v:=.p cb) rfl underlying123 rfl (Uf0 (hM.j0 hb) hc))<|L.va (Z9 rfl)<|U5 ?_;cases wt with
  |false=>
   refine W.region rfl<|U74 ?_;refine L.va (q0 rfl underlying4 rfl (((hM.j0 hb).blk i _ hc).E0 9 (v:=.bool false) rfl))<|U147 ?_;refine U248 ?_;refine U248 ?_;refine U19 ?_;have hrl:=Uh0 (r:=r) hc rfl;show W _ _ _ _ _ _;exact W.X6 rfl<|W.skip<|U443
  |true=>
   rcases hrd i _ hc rfl with⟨h1,h2⟩|⟨f,fn,caps,h1,hf,hbd,hnm,sv0⟩
   all_goals dsimp only at h1
   all_goals subst h1
   ·refine W.region rfl<|U461 ?_;refine U89 ?_;refine U302 ?_;refine L.va (q0 rfl underlying22 rfl (((hM.j0 hb).blk i _ hc).E0 6 (v:=.nilFunc) rfl))<|L.on rfl<|L.va (dp0 (v:=.nilFunc) (b:=true) rfl (.inl ⟨rfl,rfl⟩) rfl underlying22 ⟨_,_,_,rfl⟩)<|L.on rfl<|U425 ?_;refine U82 ?_;refine L.on rfl<|L.va (k7 rfl)<|U32 ?_;have hrl:=Mi0 (r:=r) hc h2;show W _ _ _ _ _ _;refine U370 ?_;refine U317 ?_;refine U520 ?_;intro w b35 F35 hb;have hO:=hO.j0 F35.below;have jy1:=F35.blk;have hOl:=Jk0 (cl:=R.cl) (r:=r) i;refine L.dr0 (B:=w0.heap.size) (m:=1) rfl rfl underlying171 Tl0 rfl Ud hO Uz (news:=[.p cb]) rfl (fun ad had j u hj=>by
     cases had;rw[Addr.add_lit]
     match j,hj with
     |0,hj=>cases hj;exact jy1.E0 0 rfl) (fun u hu=>by simp only[List.mem_cons,List.not_mem_nil,or_false]at hu;subst hu;rfl) Uo Uo hb.size (fun a2 cp2 w2 hO2 hg2 A1 _=>?_)
    have hb:=hb.trans A1
    rename World=>w
    refine U329 ?_;exact U403
   ·refine W.region rfl<|U461 ?_;refine U89 ?_;refine U302 ?_;refine U445 ?_;refine L.va (dp0 (v:=.func (.func f) #[] caps) (b:=false) rfl (.inr ⟨_,_,_,rfl,rfl⟩) rfl underlying22 ⟨_,_,_,rfl⟩)<|L.on rfl<|U89 ?_;refine U302 ?_;refine U445 ?_;refine L.call (kj0 rfl hf hbd hnm) (sv0 w hb) ?_;rintro _ w ⟨rfl,L2⟩;have hb:=B0 hb L2;have hO:=hO.j0 L2;refine L.on rfl<|L.va (H7 rfl)<|L.va (k7 rfl)<|U1 ?_;refine W.cond rfl (fun h32=>?_) (fun h32=>?_)
    ·have hrl:=Mi0 (r:=r) hc h32;refine W.region rfl<|U317 ?_;refine U520 ?_;intro w b35 F35 hb;have hO:=hO.j0 F35.below;have jy1:=F35.blk;have hOl:=Jk0 (cl:=R.cl) (r:=r) i;refine L.dr0 (B:=w0.heap.size) (m:=1) rfl rfl underlying171 Tl0 rfl Ud hO Uz (news:=[.p cb]) rfl (fun ad had j u hj=>by
      cases had;rw[Addr.add_lit]
      match j,hj with
      |0,hj=>cases hj;exact jy1.E0 0 rfl) (fun u hu=>by simp only[List.mem_cons,List.not_mem_nil,or_false]at hu;subst hu;rfl) Uo Uo hb.size (fun a2 cp2 w2 hO2 hg2 A1 _=>?_)
     have hb:=hb.trans A1
     rename World=>w
     refine U329 ?_;exact U403
    ·have hrl:=Uh0 (r:=r) hc h32;exact W.skip<|U443
 ·refine W.exit<|U143 ?_;refine U23 ?_;refine U25 ?_;refine U15 ?_;obtain rfl:i=R.cl.length:=by omega
  subst hq;exact⟨a,cp,rfl,hO,hb⟩
end
end Go.Vy.Sc
end
section
namespace Go.Vy
open Go Go.Conc Go.Yc Go.RowKit
open Go.Vc Go.Wg
def YS(P:Program)(main:Bool)(l:kc0)(K:e7->Prop):Nat->Nat->Goroutine->Prop:=fun m _ g=>∃s,K s/\Yc.Way P main l s m g
def okS(l:kc0)(e:Event):Prop:=∃p∈l,e=⟨.cell p.1,false,false⟩
theorem Dj0{P:Program}{main:Bool}{l:kc0}{K:e7->Prop}:HF P main (okS l) (YS P main l K):=
 ⟨fun m d g g' es h1 h2 h3 h4 ⟨s,hk,hw⟩=>⟨s,hk,.inr ⟨(by
  rcases hw.status with⟨_,h⟩|⟨h,_⟩
  ·exact h
  ·rw[h2]at h;cases h),h1,g',es,h3,fun w _=>h4 w,hw⟩⟩⟩
def Sits(n:Nat)(b:Frame)(cs:List Frame)(e:Env)(dst:Option Nat)(todo:List Item)(me:Goroutine):Prop:=∀v,∃a,Rep n a (V3 e dst v)/\Go.Conc.served me v=G (b.at a todo) cs
theorem Sits.go{Z:Goroutine->World->Prop}{n:Nat}{b:Frame}{cs:List Frame}{e:Env}{dst:Option Nat}{todo:List Item}{me:Goroutine}(h:Sits n b cs e dst todo me){v:Value}{w:World}(hz:ZA Z n b cs (V3 e dst v) todo w):Z (Go.Conc.served me v) w:=by
 obtain⟨a,ha,he⟩:=h v;rw[he];exact hz a ha
theorem or0{b:Frame}{a:Act}{k:List Item}{cs:List Frame}{ops:Array Oper}{i:Nat}{rest:List Nat}{o:Oper}(ho:ops[i]? =some o)(v:Value):Go.Conc.served (G (b.at a (.inRegion ops (i::rest)::k)) cs) v=G (b.at (a.put o.dst v) (.inRegion ops rest::k)) cs:=by
 have:(b.at a (.inRegion ops (i::rest)::k)).finish v=b.at (a.put o.dst v) (.inRegion ops rest::k):=by rw[Frame.finish_at,ho];rfl
 show({frame:=(b.at a (.inRegion ops (i::rest)::k)).finish v,callers:=cs,status:=.running,dying:=none}:Goroutine)=_;rw[this];rfl
section
variable{P:Program}{main:Bool}{st:kc0}{K:e7->Prop}{ft n:Nat}{b:Frame}{cs:List Frame}{d:Nat}{e:Env}{k:List Item}{ops:Array Oper}{i:Nat}{l:List Oper}{dst:Option Nat}{ty:TypeId}{ps:String}{af:Array Edge}{T E:TypeId}{x y:Operand}
section
variable{v:Value}{c:Nat}{a:Act}{rest:List Nat}
theorem Q0.stay{p:Addr}{u:TypeDesc}(hk:b.kind≠.early)(hd:z6 n dst=true)(hp:(p,v)∈st)(hx:ev e x= .pointer (some p))(hT:P.underlying T=some u)(hu:bm0 u=true)
  (h:Q0 (YS P main st K) ft n b cs [] d (V3 e dst v) ops (i+1) l k):Q0 (YS P main st K) (ft+1) n b cs [] d e ops i (⟨dst,.load T x,ty,ps,af,none⟩::l) k:=by
 intro hl a ha;obtain⟨ho,x8⟩:=Y5 hl;obtain⟨s,hs,hw⟩:=h x8 _ (ha.put hd v);have h0:0<ft:=by
  rcases hw.status with⟨_,h⟩|⟨h,_⟩
  ·exact h
  ·cases h
 refine⟨s,hs,.inr ⟨h0,rfl,_,seen P b.fn #[⟨.cell p,false,false⟩],fun ev' he=>⟨(p,v),hp,?_⟩,fun w W0=>?_,hw⟩⟩
 ·have:=mem_seen he;simpa using this
 ·have hc:=W0 (p,v) hp;show stepG P main (G (b.at a (.inRegion ops (i::List.range' (i+1) l.length)::k)) cs) w=_;rw[stepG_value ho (by rw[ha.yielded];rfl) hk (by rw[ha.eval];exact Go.Vc.q0 hx hT hu hc),listed];have he:∀es,(isAgg T).events P w es=es:=fun es=>by
   cases u <;> simp[isAgg,go_sem,run_underlying hT]
  have hq:(execOp a.eval ⟨dst,.load T x,ty,ps,af,none⟩).events P w #[]=#[⟨.cell p,false,false⟩]:=by
   rw[ha.eval];simp[execOp,Instr.loadAt,hx,Instr.sureAddr,loadVar,Go.Vc.dn0 hT,hu,hc,he]
  rw[hq]
theorem Q0.W1{z:Value}{dd:ChanDir}(hk:b.kind≠.early)(hT:P.underlying T=some (.chan dd E))(hz:(P.info? E).bind (·.zero)=some z)(hx:ev e x= .chan (some c))
  (hK:∀me,Sits n b cs e dst (.inRegion ops (List.range' (i+1) l.length)::k) me->K ⟨c,z,me⟩) (hd:z6 n dst=true):Q0 (YS P main st K) (ft+1) n b cs [] d e ops i (⟨dst,.recv T x false,ty,ps,af,none⟩::l) k:=by
 intro hl a ha;obtain⟨ho,x8⟩:=Y5 hl;refine⟨⟨c,z,G (b.at a (.inRegion ops (i::List.range' (i+1) l.length)::k)) cs⟩,hK _ fun v=>⟨a.put dst v,⟨(ha.put hd v).size,(ha.put hd v).defers,(ha.put hd v).get⟩,or0 ho v⟩,.inl ⟨rfl,rfl,rfl,rfl,fun w=>?_⟩⟩;have hr:(execOp a.eval ⟨dst,.recv T x false,ty,ps,af,none⟩).run P w= .ok (.comm #[rcase c z] true (.recv false)) w:=by
  rw[ha.eval];obtain⟨inf,hi,hz'⟩:=Option.bind_eq_some_iff.1 hz;simp[execOp,hx,run_underlying hT,zeroValue,typeInfo,hi,hz',rcase,go_sem]
 show stepG P main (G (b.at a (.inRegion ops (i::List.range' (i+1) l.length)::k)) cs) w=_;have hq:(execOp a.eval ⟨dst,.recv T x false,ty,ps,af,none⟩).events P w #[]=#[]:=by
  rw[ha.eval];obtain⟨inf,hi,hz'⟩:=Option.bind_eq_some_iff.1 hz;simp[execOp,hx,run_underlying hT,zeroValue,typeInfo,hi,hz',go_sem]
 rw[stepG_comm ho (by rw[ha.yielded];rfl) hk hr,listed,hq,seen_none]
theorem Av0(hk:b.kind≠.early)(ho:ops[i]? =some ⟨dst,.send x y,ty,ps,af,none⟩)(hx:a.eval x= .chan (some c))(hy:a.eval y=v)(w:World):stepG P main (G (b.at a (.inRegion ops (i::rest)::k)) cs) w= .comm (G (b.at a (.inRegion ops (i::rest)::k)) cs) #[scase c v (.tuple #[])] true .send w #[]:=by
 rw[stepG_comm (cases:=#[scase c v (.tuple #[])]) (blocking:=true) (shape:=.send) (w':=w) ho rfl hk (by simp[execOp,hx,hy,scase]),listed];have:(execOp a.eval ⟨dst,.send x y,ty,ps,af,none⟩).events P w #[]=#[]:=rfl;rw[this,seen_none]
theorem Ui0{f:FuncId}{asx:Array Operand}{ats:Array TypeId}(hk:b.kind≠.early)(ho:ops[i]? =some ⟨dst,.go {callee:=.value (.func f),args:=asx,argTypes:=ats},ty,ps,af,none⟩)(w:World):stepG P main (G (b.at a (.inRegion ops (i::rest)::k)) cs) w= .spawn (G (b.at (a.put dst undef) (.inRegion ops rest::k)) cs) (born P (dcall f (asx.map a.eval))) w #[]:=by
 have ef:a.eval (.func f)= .func (.func f) #[] #[]:=rfl;have hr:(execOp a.eval ⟨dst,.go {callee:=.value (.func f),args:=asx,argTypes:=ats},ty,ps,af,none⟩).run P w= .ok (.spawn (dcall f (asx.map a.eval))) w:=by
  unfold execOp;simp[resolve,Deferred.ofValue,ef,dcall]
 have he:(execOp a.eval ⟨dst,.go {callee:=.value (.func f),args:=asx,argTypes:=ats},ty,ps,af,none⟩).events P w #[]=#[]:=by
  unfold execOp;simp[resolve,Deferred.ofValue,ef]
 rw[stepG_spawn ho rfl hk hr rfl,listed,he,seen_none]
end
end
section
variable{P:Program}{main:Bool}{b c:Frame}{a:Act}{k todo:List Item}{cs:List Frame}{w:World}{ops:Array Oper}{i:Nat}{rest:List Nat}{f:FuncId}{fn:Func}{args caps:Array Value}{ds:List Deferred}
section
variable{dst:Option Nat}{ty:TypeId}{ps:String}{af:Array Edge}{v:Value}{O4:List PanicEntry}
theorem fo0{md:FrameMode}{body:Code}(hmd:md≠.run)(hd:a.defers={target:=.fn (.func f) caps,args:=args} :: ds)(hf:P.funcs[f]? =some fn)(J4:Ue fn)(hb:fn.body=some body):stepG P main (G {b.at a todo with mode:=md} cs) w= .go (G ((baseD f).at {tmps:=(args++caps)++Array.replicate (fn.ntmps-(args++caps).size) undef,defers:=[]} [.code body]) ({b.at ⟨a.tmps,ds⟩ todo with mode:=md} :: cs)) w #[]:=by
 have h1:¬fn.name= "runtime.NumGoroutine":=by simpa using J4
 rw[<- enter_atD (args++caps) hf hb];cases md with
 |run=>exact absurd rfl hmd
 |returning=>simp[G,stepG,unwind,callDeferred,Frame.at,hd,invoke,callFunc,hf,h1,hb,GStep.after,seen_none]
 |panicking ch=>simp[G,stepG,unwind,callDeferred,Frame.at,hd,invoke,callFunc,hf,h1,hb,GStep.after,seen_none]
theorem qc0{ρ:Operand->Value} :((execOp ρ ⟨dst,.call {callee:=.builtin .recover,args:=#[],argTypes:=#[]},ty,ps,af,none⟩).run P w= .ok .recover w)/\(execOp ρ ⟨dst,.call {callee:=.builtin .recover,args:=#[],argTypes:=#[]},ty,ps,af,none⟩).events P w #[]=#[]:=by
 constructor <;> simp[execOp,resolve,invoke,builtin]
theorem qr0(ho:ops[i]? =some ⟨dst,.call {callee:=.builtin .recover,args:=#[],argTypes:=#[]},ty,ps,af,none⟩)(hk:b.kind= .deferred)(hr:b.roundOf=none)(hc:c.mode= .returning):stepG P main (G (b.at a (.inRegion ops (i::rest)::k)) (c::cs)) w= .go (G (b.at (a.put dst .nilIface) (.inRegion ops rest::k)) (c::cs)) w #[]:=by
 have eo0:(b.at a (.inRegion ops (i::rest)::k)).finish .nilIface=b.at (a.put dst .nilIface) (.inRegion ops rest::k):=by rw[Frame.finish_at,ho];rfl
 rw[stepG_oper ho rfl,<- eo0];simp[stepG.apply,qc0,G,Frame.at,hk,tryRecover,hc,GStep.after,seen_none]
theorem os0(ho:ops[i]? =some ⟨dst,.call {callee:=.builtin .recover,args:=#[],argTypes:=#[]},ty,ps,af,none⟩)(hk:b.kind= .deferred)(hr:b.roundOf=none)(hc:c.mode= .panicking ({v,recovered:=false} :: O4)):stepG P main (G (b.at a (.inRegion ops (i::rest)::k)) (c::cs)) w= .go (G (b.at (a.put dst v) (.inRegion ops rest::k)) ({c with mode:=.panicking ({v,recovered:=true} :: O4)} :: cs)) w #[]:=by
 have eo0:(b.at a (.inRegion ops (i::rest)::k)).finish v=b.at (a.put dst v) (.inRegion ops rest::k):=by rw[Frame.finish_at,ho];rfl
 rw[stepG_oper ho rfl,<- eo0];simp[stepG.apply,qc0,G,Frame.at,hk,tryRecover,hc,GStep.after,seen_none]
theorem ot0{v':Value}(hn:b.kind= .deferred)(hd:a.defers=[])(hf:P.funcs[b.fn]? =some fn)(hr:(results fn a.tmps).run P w= .ok v w)(he:(results fn a.tmps).events P w #[]=#[])
  (hc:c.mode= .panicking ({v:=v',recovered:=true} :: O4)) (ho:O4.dropWhile (!·.goexit)=[]) :
  stepG P main (G {b.at a todo with mode:=.returning} (c::cs)) w= .go (G {c with mode:=.returning} cs) w #[]:=by
 simp[G,stepG,unwind,doReturn,Frame.at,hn,hd,hf,hr,he,hc,ho,seen,GStep.after]
theorem Ga0{x:Operand}(ho:ops[i]? =some ⟨dst,.defer {callee:=.value x,args:=#[],argTypes:=#[]},ty,ps,af,none⟩)(hk:b.kind≠.early)(hx:a.eval x= .func (.func f) #[] caps):stepG P main (G (b.at a (.inRegion ops (i::rest)::k)) cs) w= .go (G (b.at (Act.put ⟨a.tmps,{target:=.fn (.func f) caps,args:=#[]} :: a.defers⟩ dst undef) (.inRegion ops rest::k)) cs) w #[]:=by
 have hr:(execOp a.eval ⟨dst,.defer {callee:=.value x,args:=#[],argTypes:=#[]},ty,ps,af,none⟩).run P w= .ok (.defer {target:=.fn (.func f) caps,args:=#[]}) w:=by
  simp[execOp,resolve,Deferred.ofValue,hx]
 have he:(execOp a.eval ⟨dst,.defer {callee:=.value x,args:=#[],argTypes:=#[]},ty,ps,af,none⟩).events P w #[]=#[]:=by
  simp[execOp,resolve,Deferred.ofValue,hx]
 have eo0:(b.at ⟨a.tmps,{target:=.fn (.func f) caps,args:=#[]} :: a.defers⟩ (.inRegion ops (i::rest)::k)).finish undef=b.at (Act.put ⟨a.tmps,{target:=.fn (.func f) caps,args:=#[]} :: a.defers⟩ dst undef) (.inRegion ops rest::k):=by rw[Frame.finish_at,ho];rfl
 have hk':(b.kind==CallKind.early)=false:=by simpa using hk
 rw[stepG_oper ho rfl,<- eo0];simp[stepG.apply,hr,he,G,Frame.at,hk',GStep.after,seen_none]
end
def ad0(P:Program):Frame:={fn:=P.funcs.size,tmps:=#[],todo:=[],defers:=[],mode:=.panicking [goexitEntry],kind:=.normal,roundOf:=none}
theorem Ow0{body:Code}(hf:P.funcs[f]? =some fn)(J4:Ue fn)(hb:fn.body=some body):stepG P main (born P (dcall f args)) w= .go (G ((baseD f).at {tmps:=args++Array.replicate (fn.ntmps-args.size) undef,defers:=[]} [.code body]) [ad0 P]) w #[]:=by
 have h1:¬fn.name= "runtime.NumGoroutine":=by simpa using J4
 rw[<- enter_atD args hf hb];simp[born,G,stepG,unwind,callDeferred,dcall,invoke,callFunc,hf,h1,hb,GStep.after,seen_none,ad0];exact⟨rfl,rfl,rfl,rfl⟩
theorem Ox0(hn:b.kind= .deferred)(hd:a.defers=[])(hf:P.funcs[b.fn]? =some fn){v:Value}(hr:(results fn a.tmps).run P w= .ok v w)(he:(results fn a.tmps).events P w #[]=#[]):stepG P main (G {b.at a todo with mode:=.returning} [ad0 P]) w= .go (G (ad0 P) []) w #[]:=by
 simp[G,stepG,unwind,doReturn,Frame.at,hn,hd,hf,hr,he,seen,GStep.after,ad0,goexitEntry]
theorem Oy0:stepG P main (G (ad0 P) []) w= .go {frame:=ad0 P,callers:=[],status:=.finished,dying:=none} w #[]:=by
 simp[G,stepG,unwind,ad0,goexitEntry,Frame.catches]
end
section
variable{P:Program}[Ctx P]{Z:Goroutine->World->Prop}{Q:Exit->Act->World->Prop}{ops:Array Oper}{b:Frame}{k:List Item}{cs:List Frame}{n:Nat}{e:Env}{w:World}
section
variable{c:Operand}{x y:Code}
theorem ZA.v8[Go.Vc.K3](hZ:Ctx.Zs P Z)(hc:ev e c= .bool true)(h:ZA Z n b cs e (.code x::k) w):ZA Z n b cs e (.code (.cond c x y)::k) w:=ZA.cond hZ (t:=true) hc h
theorem ZA.X6[Go.Vc.K3](hZ:Ctx.Zs P Z)(hc:ev e c= .bool false)(h:ZA Z n b cs e (.code y::k) w):ZA Z n b cs e (.code (.cond c x y)::k) w:=ZA.cond hZ (t:=false) hc h
theorem ZA.W[Go.Vc.K3](hZ:Ctx.Zs P Z)(hb:b.kind≠.early){c:Code}(h:Vy.W P n c (x9 (fun e' w'=>ZA Z n b cs e' k w') fun _ _ _=>False) e w):ZA Z n b cs e (.code c::k) w:=ZA.piece hZ hb h fun _ _ h=>h
theorem ZA.panics[Go.Vc.K3](hZ:Ctx.Zs P Z)(hb:b.kind≠.early){c:Code}(h:Vy.W P n c (fun x e' w'=>∃ch,x= .panic ch/\∀a todo,Rep n a e'->Z (G {b.at a todo with mode:=.panicking ch} cs) w') e w):ZA Z n b cs e (.code c::k) w:=by
 intro a ha;refine h a ha Z hZ b k cs hb fun x a' w' hx=>?_;obtain⟨e',r,ch,rfl,hq⟩:=hx;exact fun todo=>hq a' todo r
theorem L.Uj0[Go.Vc.K3]{x:Operand}{ty:TypeId}{ps:String}{af:Array Edge}{rest:List Oper}{Q:Exit->Env->World->Prop}{t:TypeId}{v0:Value}(hx:ev e x= .iface t v0)(k:Q (.panic [{v:=.iface t v0,recovered:=false}]) e w):L P n ops Q (⟨none,.panic x,ty,ps,af,none⟩::rest) e w:=by
 refine L.io1 rfl ⟨rfl,rfl,fun τ d ρ x' hs=>⟨Evo.refl _,x',#[],?_,hs,fun e he=>by simp at he⟩⟩ k;rw[Sem.runT_eq];have h1:(execOp (ev e) ⟨none,.panic x,ty,ps,af,none⟩).run P x'= .halt (.panic (.iface t v0)) x':=by simp[execOp,Instr.panic,hx]
 have h2:(execOp (ev e) ⟨none,.panic x,ty,ps,af,none⟩).events P x' #[]=#[]:=by simp[execOp,Instr.panic,hx]
 rw[h1,h2];rfl
end
end
section
variable{P:Program}{Z:Goroutine->World->Prop}{b:Frame}{cs:List Frame}{n:Nat}{e:Env}{w:World}
theorem ZA.leaves{fn:Func}{f:FuncId}(hb:b=base f)(hf:P.funcs[f]? =some fn)(hr:fn.results=#[])(h:∀fr,fr.fn=f->Leaves P fr w (.returned (.tuple #[]))->Z (G fr cs) w):ZR Z n b cs e w:=by
 intro todo a ha;subst hb;refine h _ rfl ⟨rfl,ha.defers,rfl,fn,hf,T8 (fun w=>results_none hr _ P w) (fun w=>events_results_none hr _ _)⟩
end
section
variable{P:Program}[Ctx P]{Z:Goroutine->World->Prop}{ops:Array Oper}{b:Frame}{k:List Item}{cs:List Frame}{n:Nat}{e:Env}{w:World}
section
variable{i:Nat}{rest:List Nat}{o:Oper}
theorem ZA.call[Go.Vc.K3](hZ:Ctx.Zs P Z)(hb:b.kind≠.early){f:FuncId}{args:Array Value}(ho:ops[i]? =some o)(hg:o.guard=none)(hr:Does P (execOp (ev e) o) w (.enter f args) w)
  (h:∀a,Rep n a e->Z (G (Frame.enter P f args .normal) (b.at a (.inRegion ops (i::rest)::k)::cs)) w):ZA Z n b cs e (.inRegion ops (i::rest)::k) w:=by
 intro a ha;have hw:Region.wanted o (yielded ops a.tmps)=true:=by
  obtain⟨d,op,ty,ps,af,g⟩:=o;cases hg;rfl
 refine(Ctx.cl Z hZ).own _ _ rfl fun τ d=>?_;refine⟨_,G2 w τ d,w.drawn,⟨rfl,fun ρ x hx=>?_⟩,h a ha⟩;obtain⟨h1,x',es,h2,h3,h4⟩:=hr.go τ d ρ x hx;rw[Sem.runT_eq]at h2;obtain⟨h5,h6⟩:=Prod.mk.inj h2;refine⟨h1,x',seen P b.fn es,?_,h3,fun e he=>h4 e (mem_seen he)⟩;have h5':(execOp a.eval o).run P x= .ok (.enter f args) x':=by rw[ha.eval];exact h5
 rw[stepG_enter ho hw hb h5',listed,ha.eval,h6]
theorem ZA.home[Go.Vc.K3](ho:ops[i]? =some o)(hd:z6 n o.dst=true){v:Value}{w':World}{a:Act}(ha:Rep n a e)(h:ZA Z n b cs (V3 e o.dst v) (.inRegion ops rest::k) w'):Z (G ((b.at a (.inRegion ops (i::rest)::k)).finish v) cs) w':=by
 have eo0:(b.at a (.inRegion ops (i::rest)::k)).finish v=b.at (a.put o.dst v) (.inRegion ops rest::k):=by rw[Frame.finish_at,ho];rfl
 rw[eo0];exact h _ (ha.put hd v)
end
end
section
variable{P:Program}{ops:Array Oper}{b:Frame}{k:List Item}{cs:List Frame}{n:Nat}{e:Env}
theorem ZA.back[Go.Vc.K3]{Z':Goroutine->World->Prop}{main:Bool}(hZ':Cl P main Z'){i:Nat}{rest:List Nat}{o:Oper}(ho:ops[i]? =some o)(hd:z6 n o.dst=true){v:Value}{w':World}{fr:Frame}{a:Act}(ha:Rep n a e)(hl:Leaves P fr w' (.returned v))
  (h:ZA Z' n b cs (V3 e o.dst v) (.inRegion ops rest::k) w'):Z' (G fr (b.at a (.inRegion ops (i::rest)::k)::cs)) w':=by
 refine dv0 hZ' hl ?_;have eo0:(b.at a (.inRegion ops (i::rest)::k)).finish v=b.at (a.put o.dst v) (.inRegion ops rest::k):=by rw[Frame.finish_at,ho];rfl
 rw[eo0];exact h _ (ha.put hd v)
end
section
variable{P:Program}[Ctx P]
end
section
variable{P:Program}[Ctx P]{Z:Goroutine->World->Prop}{ops:Array Oper}{b c:Frame}{k:List Item}{cs:List Frame}{n:Nat}{e:Env}{w:World}{i:Nat}{rest:List Nat}{dst:Option Nat}{ty:TypeId}{ps:String}{af:Array Edge}
theorem ZA.Oz0[Go.Vc.K3](hZ:Ctx.Zs P Z)(ho:ops[i]? =some ⟨dst,.call {callee:=.builtin .recover,args:=#[],argTypes:=#[]},ty,ps,af,none⟩)(hd:z6 n dst=true)(hk:b.kind= .deferred)(hr:b.roundOf=none)(hc:c.mode= .returning)(h:ZA Z n b (c::cs) (V3 e dst .nilIface) (.inRegion ops rest::k) w):ZA Z n b (c::cs) e (.inRegion ops (i::rest)::k) w:=
 fun _a ha=>(Ctx.cl Z hZ).ctl rfl rfl (fun _w=>qr0 ho hk hr hc) (h _ (ha.put hd _))
theorem ZA.Jm0[Go.Vc.K3](hZ:Ctx.Zs P Z){v:Value}{O4:List PanicEntry}(ho:ops[i]? =some ⟨dst,.call {callee:=.builtin .recover,args:=#[],argTypes:=#[]},ty,ps,af,none⟩)(hd:z6 n dst=true)(hk:b.kind= .deferred)(hr:b.roundOf=none)(hc:c.mode= .panicking ({v,recovered:=false} :: O4))(h:ZA Z n b ({c with mode:=.panicking ({v,recovered:=true} :: O4)} :: cs) (V3 e dst v) (.inRegion ops rest::k) w):ZA Z n b (c::cs) e (.inRegion ops (i::rest)::k) w:=
 fun _a ha=>(Ctx.cl Z hZ).ctl rfl rfl (fun _w=>os0 ho hk hr hc) (h _ (ha.put hd _))
def gj1(c c':Frame):Prop:=(c.mode= .returning/\c'=c)\/∃v O4,O4.dropWhile (!·.goexit)=[]/\c'={c with mode:=.panicking ({v,recovered:=true} :: O4)}
theorem ZA.recover[Go.Vc.K3](hZ:Ctx.Zs P Z)(ho:ops[i]? =some ⟨dst,.call {callee:=.builtin .recover,args:=#[],argTypes:=#[]},ty,ps,af,none⟩)(hd:z6 n dst=true)(hk:b.kind= .deferred)(hr:b.roundOf=none)(hc:c.mode= .returning\/∃v O4,c.mode= .panicking ({v,recovered:=false} :: O4)/\O4.dropWhile (!·.goexit)=[])
  (h:∀c' v,gj1 c c'->ZA Z n b (c'::cs) (V3 e dst v) (.inRegion ops rest::k) w):ZA Z n b (c::cs) e (.inRegion ops (i::rest)::k) w:=by
 rcases hc with hc|⟨v,O4,hc,ho'⟩
 ·exact ZA.Oz0 hZ ho hd hk hr hc (h c _ (.inl ⟨hc,rfl⟩))
 ·exact ZA.Jm0 hZ ho hd hk hr hc (h _ _ (.inr ⟨v,O4,ho',rfl⟩))
theorem ZA.region[Go.Vc.K3](hZ:Ctx.Zs P Z){id:Nat}(h:ZA Z n b cs e (.inRegion ops (List.range ops.size)::k) w):ZA Z n b cs e (.code (.region id ops false)::k) w:=ZA.c hZ (fun _ _=>stepG_region) h
def ZD(Z:Goroutine->World->Prop)(n:Nat)(b:Frame)(cs:List Frame)(ds:List Deferred)(e:Env)(todo:List Item)(w:World):Prop:=∀a,md0 n a e ds->Z (G (b.at a todo) cs) w
variable{ds:List Deferred}
theorem ZA.zd(h:ZD Z n b cs [] e k w):ZA Z n b cs e k w:=fun a ha=>h a (th1 ha) where th1 {n:Nat} {a:Act} {e:Env} (h:Rep n a e):md0 n a e []:=⟨h.size,h.defers,h.get⟩
theorem ZD.ctl(hZ:Ctx.Zs P Z){todo qa0:List Item}(hs:∀a w,stepG P (Ctx.main P) (G (b.at a todo) cs) w= .go (G (b.at a qa0) cs) w #[])(h:ZD Z n b cs ds e qa0 w):ZD Z n b cs ds e todo w:=fun a ha=>(Ctx.cl Z hZ).ctl rfl rfl (hs a) (h a ha)
theorem ZD.seq(hZ:Ctx.Zs P Z){x y:Code}(h:ZD Z n b cs ds e (.code x :: .code y::k) w):ZD Z n b cs ds e (.code (.seq x y)::k) w:=ZD.ctl hZ (fun _ _=>stepG_seq) h
theorem ZD.region(hZ:Ctx.Zs P Z){id:Nat}(h:ZD Z n b cs ds e (.inRegion ops (List.range ops.size)::k) w):ZD Z n b cs ds e (.code (.region id ops false)::k) w:=ZD.ctl hZ (fun _ _=>stepG_region) h
theorem ZD.Y4(hZ:Ctx.Zs P Z)(h:ZD Z n b cs ds e k w):ZD Z n b cs ds e (.inRegion ops []::k) w:=ZD.ctl hZ (fun _ _=>stepG_region_end) h
variable{op:Op}{d:Nat}{v:Value}{w':World}
theorem ZD.va(hZ:Ctx.Zs P Z)(hb:b.kind≠.early)(ho:ops[i]? =some ⟨some d,op,ty,ps,af,none⟩)(hd:z6 n (some d)=true)(hr:Does P (execOp (ev e) ⟨some d,op,ty,ps,af,none⟩) w (.val v) w')(h:ZD Z n b cs ds (upd e d v) (.inRegion ops rest::k) w'):ZD Z n b cs ds e (.inRegion ops (i::rest)::k) w:=by
 intro a ha;refine U495 ?_;exact bp0 (r:=.val v) (w':=w') (by rw[ha.eval];exact hr)<|h _ (ha.put hd v)
theorem ZD.st(hZ:Ctx.Zs P Z)(hb:b.kind≠.early)(ho:ops[i]? =some ⟨none,op,ty,ps,af,none⟩)(hr:Does P (execOp (ev e) ⟨none,op,ty,ps,af,none⟩) w .skip w')(h:ZD Z n b cs ds e (.inRegion ops rest::k) w'):ZD Z n b cs ds e (.inRegion ops (i::rest)::k) w:=by
 intro a ha;refine U495 ?_;exact bp0 (r:=.skip) (w':=w') (by rw[ha.eval];exact hr)<|h _ ha
theorem ZD.defer(hZ:Ctx.Zs P Z)(hb:b.kind≠.early){f:FuncId}{asx:Array Operand}{ats:Array TypeId}{vs:Array Value}(ho:ops[i]? =some ⟨none,.defer {callee:=.value (.func f),args:=asx,argTypes:=ats},ty,ps,af,none⟩)(hv:asx.map (ev e)=vs)(h:ZD Z n b cs (dcall f vs::ds) e (.inRegion ops rest::k) w):ZD Z n b cs ds e (.inRegion ops (i::rest)::k) w:=by
 intro a ha;refine(Ctx.cl Z hZ).ctl rfl rfl (fun w=>stepG_defer ho rfl hb rfl) ?_;rw[ha.eval,hv,ha.defers];exact h _ ⟨ha.size,rfl,ha.get⟩
theorem ZD.jz1(hZ:Ctx.Zs P Z)(hb:b.kind≠.early){f:FuncId}{caps:Array Value}{x:Operand}(ho:ops[i]? =some ⟨none,.defer {callee:=.value x,args:=#[],argTypes:=#[]},ty,ps,af,none⟩)(hx:ev e x= .func (.func f) #[] caps)(h:ZD Z n b cs ({target:=.fn (.func f) caps,args:=#[]} :: ds) e (.inRegion ops rest::k) w):ZD Z n b cs ds e (.inRegion ops (i::rest)::k) w:=by
 intro a ha;refine(Ctx.cl Z hZ).ctl rfl rfl (fun w=>Ga0 ho hb (by rw[ha.eval];exact hx)) ?_;rw[ha.defers];exact h _ ⟨ha.size,rfl,ha.get⟩
theorem ZD.call(hZ:Ctx.Zs P Z)(hb:b.kind≠.early){f:FuncId}{args:Array Value}(ho:ops[i]? =some ⟨dst,op,ty,ps,af,none⟩)(hr:Does P (execOp (ev e) ⟨dst,op,ty,ps,af,none⟩) w (.enter f args) w)
  (h:∀a,md0 n a e ds->Z (G (Frame.enter P f args .normal) (b.at a (.inRegion ops (i::rest)::k)::cs)) w):ZD Z n b cs ds e (.inRegion ops (i::rest)::k) w:=by
 intro a ha;refine(Ctx.cl Z hZ).own _ _ rfl fun τ d=>?_;refine⟨_,G2 w τ d,w.drawn,⟨rfl,fun ρ x hx=>?_⟩,h a ha⟩;obtain⟨h1,x',es,h2,h3,h4⟩:=hr.go τ d ρ x hx;rw[Sem.runT_eq]at h2;obtain⟨h5,h6⟩:=Prod.mk.inj h2;refine⟨h1,x',seen P b.fn es,?_,h3,fun e he=>h4 e (mem_seen he)⟩;have h5':(execOp a.eval ⟨dst,op,ty,ps,af,none⟩).run P x= .ok (.enter f args) x':=by rw[ha.eval];exact h5
 rw[stepG_enter ho rfl hb h5',listed,ha.eval,h6]
end
section
variable{P:Program}{Post:Value->World->Prop}{X:Gh}{h:Nat}{H:Hid}
theorem J6:@Ctx.Zs P (D2 P (h==0)) (Fin P Post X h):=⟨im0 P Post X h,de0⟩
theorem Mj0:@Ctx.Zs P (D2 P (h==0)) (nh0 P Post X h H):=⟨av1 H,fun _g _u hz hH=>de0 _ _ fun hv=>hz (nj0 hH hv) hH⟩
theorem np0(V:Nat->Prop)[DecidablePred V]{g:Goroutine}{U:World}(hf:nh0 P Post X h (av0 V U) g (X3 V U)):Fin P Post X h g U:=
 de0 _ _ fun hv=>by have:=hf (sy0 hv);rwa [ni0]at this
theorem At.Y4{main:Bool}{ok:Event->Prop}{Y:Nat->Nat->Goroutine->Prop}{ft n d:Nat}{b:Frame}{cs:List Frame}{ds:List Deferred}{e:Env}{k:List Item}{ops:Array Oper}(hY:HF P main ok Y)(h:At Y ft n b cs ds d e k):At Y (ft+1) n b cs ds d e (.inRegion ops []::k):=At.c hY (fun _ _=>stepG_region_end) h
theorem M8{n:Nat}(args:Array Value)(m:Nat)(hn:args.size+(m-args.size)=n):Rep n {tmps:=args++Array.replicate (m-args.size) undef,defers:=[]} (Vc.cw0 args):=by
 have:=gs0 args m hn;exact⟨this.size,this.defers,this.get⟩
theorem tg0{n:Nat}{a:Act}{e:Env}(h:Rep n a e):md0 n a e []:=⟨h.size,h.defers,h.get⟩
variable{n ft:Nat}{b:Frame}{cs:List Frame}{e:Env}{k:List Item}{ops:Array Oper}{i:Nat}{rest:List Nat}{ty:TypeId}{ps:String}{af:Array Edge}{x y:Operand}{v:Value}{w:World}
theorem ZA.more[Go.Vc.K3][Ctx P]{Z:Goroutine->World->Prop}(hZ:Ctx.Zs P Z)(hb:b.kind≠.early){l:List Oper}(i:Nat)(hB:ag1 n l=true)(h:L P n l.toArray (x9 (fun e' w'=>ZA Z n b cs e' k w') fun _ _ _=>False) (l.drop i) e w):ZA Z n b cs e (.inRegion l.toArray (List.range' i (l.drop i).length)::k) w:=by
 intro a ha;have h1:=h (fun o ho=>List.all_eq_true.1 hB o (List.mem_of_mem_drop ho)) a ha;have h2:=mh0 (l.drop i) i a w (fun j _=>by rw[List.getElem?_drop];simp) h1;have:=ld0 (Z:=Z) (b:=b) (k:=k) (cs:=cs) (suf:=[]) hZ hb (fun ch a' w' hx=>by obtain⟨_,_,hx⟩:=hx;exact hx.elim) (fun a' w' hx=>by
  obtain⟨e',r,hq⟩:=hx;exact ZA.Y4 hZ hq a' r) _ a w h2
 rwa [List.append_nil]at this
theorem ZA.give{j:Nat}{s:e7}{st:kc0}{K:e7->Prop}(hb:b.kind≠.early)(ho:ops[i]? =some ⟨none,.send x y,ty,ps,af,none⟩)(hx:ev e x= .chan (some s.ch))(hy:ev e y=v)(hj:X.W1 j=some s)(hjh:j≠h)(hdn:X.dn=0)(O2:X.stay h=st)
  (Co0:At (YS P (h==0) st K) ft n b cs [] 0 e (.inRegion ops rest::k)) (R9:∀s',K s'->X.chs s'.ch/\∀i s2,i≠j->X.W1 i=some s2->s2.ch≠s'.ch)
  (hF:∀s',K s'->Fin P Post (X.pass h j (some s')) j (Go.Conc.served s.me v) w):ZA (Fin P Post X h) n b cs e (.inRegion ops (i::rest)::k) w:=by
 intro a ha;have Uk0:a.put none undef=a:=rfl;obtain⟨s',hK,hw⟩:=Co0 a (tg0 ha);refine Fin.give (a₂:=G (b.at a (.inRegion ops (i::rest)::k)) cs) (s:=s) (j:=j) (nh:=ft) (v:=v) (z':=.tuple #[]) rfl hj hjh hdn (Av0 hb ho (by rw[ha.eval];exact hx) (by rw[ha.eval];exact hy)) (some s') (fun s2 e2=>by cases e2;exact R9 s' hK) ?_ (hF s' hK);unfold Cq0;rw[or0 ho,O2];exact hw
theorem ZA.th0{j:Nat}{s:e7}{gr:W7}(hb:b.kind≠.early)(ho:ops[i]? =some ⟨none,.send x y,ty,ps,af,none⟩)(hx:ev e x= .chan (some s.ch))(hy:ev e y=v)(hj:X.W1 j=some s)(hjh:j≠h)(hdn:X.dn=0)(hh:0<h)(j3:X.T4=some gr)
  (Co0:At (YLt P gr) ft n b cs [] 0 e (.inRegion ops rest::k)) (hF:Fin P Post (X.pass h j none) j (Go.Conc.served s.me v) w):ZA (Fin P Post X h) n b cs e (.inRegion ops (i::rest)::k) w:=by
 intro a ha;refine Fin.give (a₂:=G (b.at a (.inRegion ops (i::rest)::k)) cs) (s:=s) (j:=j) (nh:=ft) (v:=v) (z':=.tuple #[]) rfl hj hjh hdn (Av0 hb ho (by rw[ha.eval];exact hx) (by rw[ha.eval];exact hy)) none (fun s2 e2=>by cases e2) ?_ hF;unfold Cq0;rw[or0 ho];exact⟨hh,gr,j3,Co0 a (tg0 ha)⟩
theorem ZA.spawn{f:FuncId}{asx:Array Operand}{ats:Array TypeId}{st:kc0}{K:e7->Prop}{vs:Array Value}{gr:W7}(hb:b.kind≠.early)(ho:ops[i]? =some ⟨none,.go {callee:=.value (.func f),args:=asx,argTypes:=ats},ty,ps,af,none⟩)(hvs:asx.map (ev e)=vs)(hdn:X.dn=0)(hp:X.pend=1)(j3:X.T4=some gr)(O2:X.stay 0=st)
  (Co0:At (YS P true st K) ft n b cs [] 0 e (.inRegion ops rest::k)) (R9:∀s',K s'->X.chs s'.ch/\∀i s2,X.W1 i=some s2->s2.ch≠s'.ch)
  (hF:∀s',K s'->Fin P Post (X.hire s') X.n (born P (dcall f vs)) w):ZA (Fin P Post X 0) n b cs e (.inRegion ops (i::rest)::k) w:=by
 intro a ha;have Uk0:a.put none undef=a:=rfl;obtain⟨s',hK,hw⟩:=Co0 a (tg0 ha);refine Fin.spawn (g':=G (b.at (a.put none undef) (.inRegion ops rest::k)) cs) (child:=born P (dcall f vs)) (s:=s') (nh:=ft) (G:=gr) rfl hdn hp j3 (fun w=>?_) (R9 s' hK).1 (R9 s' hK).2 (by rw[O2];exact hw) (hF s' hK);rw[Ui0 hb ho,ha.eval,hvs]
theorem AtR.saved{Y:Nat->Nat->Goroutine->Prop}{main:Bool}{ok:Event->Prop}(hY:HF P main ok Y){c c':Frame}{fn:Func}{todo:List Item}{d:Nat}(hs:gj1 c c')(hn:b.kind= .deferred)(hf:P.funcs[b.fn]? =some fn)(hr:fn.results=#[])(h:Y ft d (G {c with mode:=.returning} cs)):AtR Y (ft+1) n b (c'::cs) [] d e todo:=by
 intro a ha;rcases hs with⟨hc,rfl⟩|⟨v,O4,ho,rfl⟩
 ·have:({c' with mode:=.returning}:Frame)=c':=by rw[<- hc]
  rw[this]at h;exact hY.c rfl rfl (fun w=>stepG_leave_deferred hn ha.defers hf (results_none hr _ P w) (events_results_none hr _ _) hc) h
 ·refine hY.c rfl rfl (fun w=>?_) h;exact ot0 hn ha.defers hf (results_none hr _ P w) (events_results_none hr _ _) rfl ho
end
end Go.Vy
end
section
namespace Go.Vy.Sc
open Go Go.Conc Go.Yc Go.RowKit Go.Proofs Go.Proofs.YtinppmaojmdmhaaGreat Tryz
open Go.Vc Go.Wg
structure ti0(cs:List Frame)(cb:Nat)(df:Value)(me:Goroutine):Prop where
 yes:∀(C0:Ctx prog)(Z:Goroutine->World->Prop),@Ctx.Zs prog C0 Z->∀(u:World)(K:World->Prop),Op0 prog C0 df u K->(∀u2 fr,K u2->fr.fn=126->Leaves prog fr u2 (.returned (.tuple #[]))->Z (G fr cs) u2)->Z (Go.Conc.served me (.bool true)) u
 no:∀Z,@Ctx.Zs prog (D2 prog false) Z->∀(u:World)(S:Nat->Prop)(B:Nat)(w0:World)(Bs:Nat)(R:Rn)(i:Nat)(c:CB),Rg S B w0 u Bs R->R.cl[i]? =some c->c.cb=cb->(∀u2 fr ch,Rg S B w0 u2 Bs {R with cl:=R.cl.set i {c with st:=true}}->fr.fn=126->A6 ch->Leaves prog fr u2 (.panicked ch)->Z (G fr cs) u2)->Z (Go.Conc.served me (.bool false)) u
section
variable{w w0:World}{i B Bs:Nat}{c:CB}{S:Nat->Prop}{R:Rn}
theorem nq0{f:FuncId}{fn:Func}{n:Nat}{a:Act}{e:Env}{todo:List Item}{ch:List PanicEntry}(hf:prog.funcs[f]? =some fn)(ha:Rep n a e):Leaves prog {(base f).at a todo with mode:=.panicking ch} w (.panicked ch):=
 ⟨rfl,ha.defers,by simp[Frame.catches,Frame.at,base,hf]⟩
theorem ti1:prog.built 268 []=some #[]:=by kernel_rfl
theorem J7{l:List CB}{c':CB}(h:l[i]? =some c):(l.set i c')[i]? =some c':=by
 have:=(List.getElem?_eq_some_iff.1 h).1;simp[this]
theorem bf1{c1 c2 c3 c4:CB}(h:Rg S B w0 w Bs {R with cl:=(((R.cl.set i c1).set i c2).set i c3).set i c4}):Rg S B w0 w Bs {R with cl:=R.cl.set i c4}:=by
 simpa using h
set_option maxRecDepth 20000 in
theorem step_fin{Post:Value->World->Prop}{X:Gh}{g:Nat}{s:Stp}{rf df:Value}{cs:List Frame}{z0:Value}{me0:Goroutine}
  (hg:Rg S B w0 w Bs R) (hc:R.cl[i]? =some c) (yy1:c.st=false) (hrf:rf.cells=#[rf]/\rf.oneCell'=true) (hdf:df.cells=#[df]/\df.oneCell'=true)
  (hg0:g≠0) (hX0:X.W1 0=some ⟨R.yb,z0,me0⟩) (hdn:X.dn=0) (O2:X.stay g=[(⟨c.cb,2,none⟩,.chan (some c.rc))]) (R9:X.chs c.rc/\∀i s2,i≠0->X.W1 i=some s2->s2.ch≠c.rc)
  (ag0:∀w' me,Rg S B w0 w' Bs {R with cl:=R.cl.set i {c with sp:=s,rf:=rf,df:=df,wt:=true}}->ti0 cs c.cb df me->Fin prog Post (X.pass g 0 (some ⟨c.rc,.bool false,me⟩)) 0 (Go.Conc.served me0 (.i (i:Int))) w') :
  Fin prog Post X g (G (Frame.enter prog 126 #[.p c.cb,nk0 s,rf,df] .normal) cs) w:=by
 letI:Ctx prog:=D2 prog (g==0);rw[enter_at _ func126 rfl];refine(?_:ZA (Fin prog Post X g) 63 (base 126) cs (Vc.cw0 #[.p c.cb,nk0 s,rf,df]) [.code (Tryz.f126.body.getD .skip)] w) _ (M8 _ _ rfl);have hZ:Ctx.Zs prog (Fin prog Post X g):=J6;have hb:=J1 126;refine U4 ?_;refine L.box (cs:=#[.i s.kind,.i s.obj,.i s.num]) rfl rfl (fun w b5 F5=>?_);have hg:=hg.j0 F5.below;have K2:=F5.blk;refine U13 ?_;refine U546 ?_;refine U87 ?_;refine U4 ?_;refine U74 ?_;refine L.va (q0 rfl underlying4 rfl ((hg.m.blk i c hc).E0 10 (v:=.bool c.st) rfl))<|U3 ?_;refine ZA.X6 hZ (rb yy1)<|ZA.skip hZ<|U14 ?_;refine U191 ?_;refine L.va (D3 rfl)<|L.va (A2 (cs:=[.i s.kind,.i s.obj,.i s.num]) rfl underlying65 rfl qp0 rfl (K2.R7 rfl))<|U215 ?_;refine L.va (j1 rfl)<|L.va (A0 rfl underlying248 rfl qp0 Ud)<|L.stC (i:=i) (o:=3) (vs:=[.i s.kind,.i s.obj,.i s.num]) hg {c with sp:=s} hc rfl rfl rfl rfl qp0 rfl rfl Ud rfl (fun w hg j3=>?_)
 try clear j3
 refine L.va (j1 rfl)<|L.va (A0 rfl underlying248 rfl jj1 Ud)<|L.stC (i:=i) (o:=6) (vs:=[rf]) hg {{c with sp:=s} with rf:=rf} (J7 hc) rfl rfl rfl (congrArg Array.toList hrf.1) jj1 rfl (by simp[hrf.2]) Ud rfl (fun w hg j3=>?_)
 try clear j3
 refine L.va (j1 rfl)<|L.va (A0 rfl underlying248 rfl sz1 Ud)<|L.stC (i:=i) (o:=7) (vs:=[df]) hg {{{c with sp:=s} with rf:=rf} with df:=df} (J7 (J7 hc)) rfl rfl rfl (congrArg Array.toList hdf.1) sz1 rfl (by simp[hdf.2]) Ud rfl (fun w hg j3=>?_)
 try clear j3
 refine L.va (j1 rfl)<|L.va (A0 rfl underlying248 rfl sz4 Ud)<|L.stC (i:=i) (o:=9) (vs:=[.bool true]) hg {{{{c with sp:=s} with rf:=rf} with df:=df} with wt:=true} (J7 (J7 (J7 hc))) rfl rfl rfl rfl sz4 rfl rfl Ud rfl (fun w hg j3=>?_)
 try clear j3
 refine U13 ?_;refine ZA.px0 hZ hb 11 (fun w'=>Below w.heap.size w w') Uk Uk Uk Uk (Below.refl w.heap.size w).drew<|U49 ?_;refine D.va (fun w' W0=>(A0 rfl underlying248 rfl Fy0 Ud))<|D.va (fun w' W0=>(q0 rfl underlying169 rfl (((hg.m.blk i _ (J7 (J7 (J7 (J7 hc))))).j0 W0).E0 1 (v:=.p R.rb) rfl)))<|U205 ?_;refine U49 ?_;refine D.va (fun w' W0=>(A0 rfl underlying248 rfl sz3 Ud))<|D.va (fun w' W0=>(q0 rfl underlying3 rfl (((hg.m.blk i _ (J7 (J7 (J7 (J7 hc))))).j0 W0).E0 0 (v:=.i (i:Int)) rfl)))<|U159 ?_;intro w L2 hg;clear L2;refine ZA.give (i:=11) (rest:=[]) (s:=⟨R.yb,z0,me0⟩) (st:=[(⟨c.cb,2,none⟩,.chan (some c.rc))]) (K:=fun s=>s.ch=c.rc/\s.z= .bool false/\ti0 cs c.cb df s.me) (ft:=60) hb rfl rfl rfl hX0 hg0.symm hdn O2 ?_ ?_ ?_
 ·have yz1:(g==0)=false:=by simpa using hg0
  rw[yz1];have hY:=Dj0 (P:=prog) (main:=false) (l:=[((⟨c.cb,2,none⟩:Addr),Value.chan (some c.rc))]) (K:=fun s=>s.ch=c.rc/\s.z= .bool false/\ti0 cs c.cb df s.me);refine At.Y4 hY<|At.seq hY<|At.seq hY<|At.region hY<|Q0.val hY hb rfl (v:=.p c.cb) (P0 rfl)<|Q0.val hY hb rfl (T5 rfl)<|Q0.val hY hb rfl (sz0 rfl underlying248 rfl fq1 Ud)<|Q0.stay (v:=.chan (some c.rc)) hb rfl (by simp) rfl underlying246 rfl<|Q0.W1 (E:=4) (z:=.bool false) hb underlying246 zr4 rfl (fun me hs=>⟨rfl,rfl,⟨?_,?_⟩⟩) rfl
  ·intro C0 Z hZ w K hdo hK;refine hs.go ?_;letI:Ctx prog:=C0;refine ZA.more hZ hb 5 rfl ?_;show L _ _ _ _ _ _ _;refine U239 ?_;refine L.va (pv0 rfl)<|U87 ?_;rcases hdo with⟨h1,h2⟩|⟨f,caps,⟨h1,fn,hf,hbd,hnm⟩,sv0⟩
   all_goals subst h1
   ·refine ZA.W hZ hb<|U139 ?_;refine L.va (ec0 (v:=.nilFunc) (b:=false) rfl (.inl ⟨rfl,rfl⟩) rfl underlying1 ⟨_,_,_,rfl⟩)<|U137 ?_;exact U463
   ·refine ZA.W hZ hb<|U139 ?_;refine L.va (ec0 (v:=.func (.func f) #[] caps) (b:=true) rfl (.inr ⟨_,_,_,rfl,rfl⟩) rfl underlying1 ⟨_,_,_,rfl⟩)<|U57 ?_;refine U160 ?_;refine L.va G5<|L.call (kj0 rfl hf hbd hnm) sv0 ?_;rintro _ w h2;refine U3 ?_;exact U463
  ·intro Z hZ w S B w0 Bs R i c2 hg hc hcb hK;refine hs.go ?_;letI:Ctx prog:=D2 prog false
   skip
   refine ZA.more hZ hb 5 rfl ?_;show L _ _ _ _ _ _ _;refine U239 ?_;refine L.va (pv0 rfl)<|U57 ?_;refine U4 ?_;refine U74 ?_;refine L.stC (i:=i) (o:=10) (vs:=[.bool true]) hg {c2 with st:=true} hc rfl (by rw[hcb];rfl) rfl rfl sz4 rfl rfl Ud rfl (fun w hg j3=>?_)
   try clear j3
   refine U3 ?_;refine ZA.panics hZ hb<|W.region rfl<|L.va (P2 (parts:=[]) rfl ti1)<|L.va (cj0 (v:=.agg #[]) rfl underlying268 rfl)<|L.Uj0 rfl ⟨_,rfl,fun a todo ha=>?_⟩;exact hK _ _ _ hg rfl ⟨_,_,rfl,rfl⟩ (nq0 func126 ha)
 ·rintro s2 ⟨h1,_,_⟩;rw[h1];exact R9
 ·rintro⟨ch,z,me⟩ ⟨h1,h2,h3⟩;cases h1;cases h2;exact ag0 _ me (bf1 hg) h3
end
section
attribute [local irreducible] KK
abbrev gz0(a b:Nat):Array Value:=#[.p a,.p b]
section
variable{i g B Bs u9 A8:Nat}{c:CB}{w0 w:World}{Post:Value->World->Prop}{X:Gh}{S:Nat->Prop}{R:Rn}{z0:Value}{me0:Goroutine}{a45:Act}{O9:List Item}{md:FrameMode}
theorem Dk0(gr:W7){n:Nat}{a:Act}{todo:List Item}(hd:a.defers=[dcall 62 #[.pointer (some ⟨gr.blk,gr.off,none⟩)]]):∃m,Lt prog gr m 0 (G {(baseD 128).at a todo with mode:=.returning} [ad0 prog]):=by
 have hq:QuitsD prog 2 0 (G {(baseD 128).at ⟨a.tmps,[]⟩ todo with mode:=.returning} [ad0 prog]):=by
  refine .inr ⟨rfl,_,#[],fun e he=>by simp at he,fun w=>Ox0 (fn:=Tryz.f128) rfl rfl func128 (results_none rfl _ _ w) (events_results_none rfl _ _),?_⟩;refine .inr ⟨rfl,_,#[],fun e he=>by simp at he,fun w=>Oy0,?_⟩;exact⟨rfl,rfl⟩
 obtain⟨m,hm⟩:=bc1 gr (c:={(baseD 128).at ⟨a.tmps,[]⟩ todo with mode:=.returning}) rfl hq;refine⟨m+1,?_⟩;exact(Y3 prog gr).c rfl rfl (fun w=>fo0 (f:=62) (fn:=Tryz.f62) (caps:=#[]) (args:=#[.pointer (some ⟨gr.blk,gr.off,none⟩)]) (by simp) hd func62 ye1 rfl) hm
theorem tj1:prog.built 268 []=some #[]:=by kernel_rfl
set_option maxRecDepth 20000 in
theorem Jn0{Z:Goroutine->World->Prop}(hZ:@Ctx.Zs prog (D2 prog false) Z){rb0:Nat}(hC:P1 w0 c.cb (c.cells rb0 i) 248 (0,3))(O2:c.st=true){s:Stp}{rf df:Value}{cs:List Frame}
  (hK:∀w' fr ch,Below w0.heap.size w0 w'->fr.fn=126->A6 ch->Leaves prog fr w' (.panicked ch)->Z (G fr cs) w'):Z (G (Frame.enter prog 126 #[.p c.cb,nk0 s,rf,df] .normal) cs) w0:=by
 letI:Ctx prog:=D2 prog false;rw[enter_at _ func126 rfl];refine(?_:ZA Z 63 (base 126) cs (Vc.cw0 #[.p c.cb,nk0 s,rf,df]) [.code (Tryz.f126.body.getD .skip)] w0) _ (M8 _ _ rfl);have hb:=J1 126;have hb0:Below w0.heap.size w0 w0:=Below.refl _ _;refine U4 ?_;refine L.box (cs:=#[.i s.kind,.i s.obj,.i s.num]) rfl rfl (fun w b5 F5=>?_);have hb0:=B0 hb0 F5.below;have hC:=hC.j0 F5.below;refine U13 ?_;refine U546 ?_;refine U87 ?_;refine U4 ?_;refine U74 ?_;refine L.va (q0 rfl underlying4 rfl (hC.E0 10 (v:=.bool c.st) rfl))<|U3 ?_;refine ZA.v8 hZ (rb O2)<|ZA.panics hZ hb<|W.region rfl<|L.va (P2 (parts:=[]) rfl tj1)<|L.va (cj0 (v:=.agg #[]) rfl underlying268 rfl)<|L.Uj0 rfl ⟨_,rfl,fun a todo ha=>?_⟩;exact hK _ _ _ hb0 rfl ⟨_,_,rfl,rfl⟩ (nq0 func126 ha)
set_option maxRecDepth 20000 in
theorem Ul0{en:Bool} 
  (hg:Rg S B w0 w Bs R) (hc:R.cl[i]? =some c) (O2:c.st=true) (hA:P1 w u9 #[.p c.cb] 123 (0,0)) (hE:P1 w A8 #[.bool en] 4 (0,0)) (hg0:0<g) (hX0:X.W1 0=some ⟨R.yb,z0,me0⟩) (hdn:X.dn=0) (tj0:X.T4=some ⟨R.rb,8⟩)
  (hmd:md= .returning\/∃v O4,md= .panicking ({v,recovered:=false} :: O4)/\O4.dropWhile (!·.goexit)=[]) (Dl0:a45.defers=[dcall 62 #[.pointer (some ⟨R.rb,8,none⟩)]])
  (ag0:∀w',Rg S B w0 w' Bs {R with ends:=R.ends.set i 0,cl:=R.cl.set i {c with wt:=false}}->Fin prog Post (X.pass g 0 none) 0 (Go.Conc.served me0 (.i (i:Int))) w') :
  Fin prog Post X g (G ((baseD 151).at {tmps:=((#[]:Array Value)++gz0 u9 A8)++Array.replicate (Tryz.f151.ntmps-((#[]:Array Value)++gz0 u9 A8).size) undef,defers:=[]} [.code (Tryz.f151.body.getD .skip)]) [{(baseD 128).at a45 O9 with mode:=md},ad0 prog]) w:=by
 letI:Ctx prog:=D2 prog (g==0);refine(?_:ZA (Fin prog Post X g) 63 (baseD 151) [{(baseD 128).at a45 O9 with mode:=md},ad0 prog] (Vc.cw0 ((#[]:Array Value)++gz0 u9 A8)) [.code (Tryz.f151.body.getD .skip)] w) _ (M8 _ _ rfl);refine U351 ?_;intro hZ hb;have hi:i<R.m:=Nat.lt_of_lt_of_le (List.getElem?_eq_some_iff.1 hc).1 hg.m.lcl;refine ZA.seq hZ<|U310 ?_;intro c45 v hsv;refine U55 ?_;refine U108 ?_;refine U99 ?_;refine U288 ?_;refine ZA.v8 hZ (rb O2)<|ZA.W hZ hb<|U116 ?_;intro hR hC;refine U284 ?_;refine U272 ?_;refine U283 ?_;refine U269 ?_;refine U301 ?_;refine U271 ?_;refine D.nil (fun w L2=>?_);have hA:=hA.j0 L2;have hE:=hE.j0 L2;have hg:=hg.j0 L2;have hR:=hR.j0 L2;have hC:=hC.j0 L2;clear L2;have neA:=P1.ne hA hg.m.ends Ud;refine U330 ?_;intro neE w hg j3;have hA:=hA.other j3 neA;clear neA neE j3;have hc:(Rn.cl {R with ends:=R.ends.set i 0})[i]? =some c:=hc;refine L.nil ?_
 try clear hR
 try clear hC
 refine U106 ?_;refine U349 ?_;refine U99 ?_;refine U280 ?_;intro neA w hg j3;have hA:=hA.other j3 neA;refine U282 ?_;refine U46 ?_;refine U267 ?_;refine U205 ?_;refine U46 ?_;refine U268 ?_;refine U159 ?_;intro w L2 hg;clear L2;obtain⟨m,hm⟩:=Dk0 ⟨R.rb,8⟩ (n:=0) (a:=a45) (todo:=O9) Dl0;refine ZA.th0 (i:=11) (rest:=[]) (s:=⟨R.yb,z0,me0⟩) (gr:=⟨R.rb,8⟩) (ft:=m+3) hb rfl rfl rfl hX0 (Nat.ne_of_lt hg0) hdn hg0 tj0 ?_ ?_
 ·refine At.Y4 (Y3 _ _)<|At.done (Y3 _ _) (fun _=>?_);exact AtR.saved (Y3 _ _) hsv rfl func151 rfl hm
 ·exact ag0 _ hg
set_option maxRecDepth 20000 in
theorem Um0{en:Bool} 
  (hg:Rg S B w0 w Bs R) (hc:R.cl[i]? =some c) (O2:c.st=false) (hA:P1 w u9 #[.p c.cb] 123 (0,0)) (hE:P1 w A8 #[.bool true] 4 (0,0)) (hg0:0<g) (hX0:X.W1 0=some ⟨R.yb,z0,me0⟩) (hdn:X.dn=0) (tj0:X.T4=some ⟨R.rb,8⟩)
  (hmd:md= .returning\/∃v O4,md= .panicking ({v,recovered:=false} :: O4)/\O4.dropWhile (!·.goexit)=[]) (Dl0:a45.defers=[dcall 62 #[.pointer (some ⟨R.rb,8,none⟩)]])
  (ag0:∀w',Rg S B w0 w' Bs {R with ends:=R.ends.set i 1,cl:=R.cl.set i {c with wt:=false}}->Fin prog Post (X.pass g 0 none) 0 (Go.Conc.served me0 (.i (i:Int))) w') :
  Fin prog Post X g (G ((baseD 151).at {tmps:=((#[]:Array Value)++gz0 u9 A8)++Array.replicate (Tryz.f151.ntmps-((#[]:Array Value)++gz0 u9 A8).size) undef,defers:=[]} [.code (Tryz.f151.body.getD .skip)]) [{(baseD 128).at a45 O9 with mode:=md},ad0 prog]) w:=by
 letI:Ctx prog:=D2 prog (g==0);refine(?_:ZA (Fin prog Post X g) 63 (baseD 151) [{(baseD 128).at a45 O9 with mode:=md},ad0 prog] (Vc.cw0 ((#[]:Array Value)++gz0 u9 A8)) [.code (Tryz.f151.body.getD .skip)] w) _ (M8 _ _ rfl);refine U351 ?_;intro hZ hb;have hi:i<R.m:=Nat.lt_of_lt_of_le (List.getElem?_eq_some_iff.1 hc).1 hg.m.lcl;refine ZA.seq hZ<|U310 ?_;intro c45 v hsv;refine U55 ?_;refine U108 ?_;refine U99 ?_;refine U288 ?_;refine ZA.X6 hZ (rb O2)<|U4 ?_;refine L.va (q0 rfl underlying4 rfl (hE.E0 0 (v:=.bool true) rfl))<|U76 ?_;refine ZA.v8 hZ rfl<|ZA.W hZ hb<|U116 ?_;intro hR hC;refine U284 ?_;refine U272 ?_;refine U283 ?_;refine U269 ?_;refine U301 ?_;refine U271 ?_;refine D.nil (fun w L2=>?_);have hA:=hA.j0 L2;have hE:=hE.j0 L2;have hg:=hg.j0 L2;have hR:=hR.j0 L2;have hC:=hC.j0 L2;clear L2;have neA:=P1.ne hA hg.m.ends Ud;refine U330 ?_;intro neE w hg j3;have hA:=hA.other j3 neA;clear neA neE j3;have hc:(Rn.cl {R with ends:=R.ends.set i 1})[i]? =some c:=hc;refine L.nil ?_
 try clear hR
 try clear hC
 refine U106 ?_;refine U349 ?_;refine U99 ?_;refine U280 ?_;intro neA w hg j3;have hA:=hA.other j3 neA;refine U282 ?_;refine U46 ?_;refine U267 ?_;refine U205 ?_;refine U46 ?_;refine U268 ?_;refine U159 ?_;intro w L2 hg;clear L2;obtain⟨m,hm⟩:=Dk0 ⟨R.rb,8⟩ (n:=0) (a:=a45) (todo:=O9) Dl0;refine ZA.th0 (i:=11) (rest:=[]) (s:=⟨R.yb,z0,me0⟩) (gr:=⟨R.rb,8⟩) (ft:=m+3) hb rfl rfl rfl hX0 (Nat.ne_of_lt hg0) hdn hg0 tj0 ?_ ?_
 ·refine At.Y4 (Y3 _ _)<|At.done (Y3 _ _) (fun _=>?_);exact AtR.saved (Y3 _ _) hsv rfl func151 rfl hm
 ·exact ag0 _ hg
set_option maxRecDepth 20000 in
theorem Un0{en:Bool} 
  (hg:Rg S B w0 w Bs R) (hc:R.cl[i]? =some c) (O2:c.st=false) (hA:P1 w u9 #[.p c.cb] 123 (0,0)) (hE:P1 w A8 #[.bool false] 4 (0,0)) (hg0:0<g) (hX0:X.W1 0=some ⟨R.yb,z0,me0⟩) (hdn:X.dn=0) (tj0:X.T4=some ⟨R.rb,8⟩)
  (hmd:md= .returning\/∃v O4,md= .panicking ({v,recovered:=false} :: O4)/\O4.dropWhile (!·.goexit)=[]) (Dl0:a45.defers=[dcall 62 #[.pointer (some ⟨R.rb,8,none⟩)]])
  (ag0:∀w',Rg S B w0 w' Bs {R with ends:=R.ends.set i 2,cl:=R.cl.set i {c with wt:=false}}->Fin prog Post (X.pass g 0 none) 0 (Go.Conc.served me0 (.i (i:Int))) w') :
  Fin prog Post X g (G ((baseD 151).at {tmps:=((#[]:Array Value)++gz0 u9 A8)++Array.replicate (Tryz.f151.ntmps-((#[]:Array Value)++gz0 u9 A8).size) undef,defers:=[]} [.code (Tryz.f151.body.getD .skip)]) [{(baseD 128).at a45 O9 with mode:=md},ad0 prog]) w:=by
 letI:Ctx prog:=D2 prog (g==0);refine(?_:ZA (Fin prog Post X g) 63 (baseD 151) [{(baseD 128).at a45 O9 with mode:=md},ad0 prog] (Vc.cw0 ((#[]:Array Value)++gz0 u9 A8)) [.code (Tryz.f151.body.getD .skip)] w) _ (M8 _ _ rfl);refine U351 ?_;intro hZ hb;have hi:i<R.m:=Nat.lt_of_lt_of_le (List.getElem?_eq_some_iff.1 hc).1 hg.m.lcl;refine ZA.seq hZ<|U310 ?_;intro c45 v hsv;refine U55 ?_;refine U108 ?_;refine U99 ?_;refine U288 ?_;refine ZA.X6 hZ (rb O2)<|U4 ?_;refine L.va (q0 rfl underlying4 rfl (hE.E0 0 (v:=.bool false) rfl))<|U76 ?_;refine ZA.X6 hZ rfl<|ZA.W hZ hb<|U116 ?_;intro hR hC;refine U284 ?_;refine U272 ?_;refine U283 ?_;refine U269 ?_;refine U301 ?_;refine U271 ?_;refine D.nil (fun w L2=>?_);have hA:=hA.j0 L2;have hE:=hE.j0 L2;have hg:=hg.j0 L2;have hR:=hR.j0 L2;have hC:=hC.j0 L2;clear L2;have neA:=P1.ne hA hg.m.ends Ud;refine U330 ?_;intro neE w hg j3;have hA:=hA.other j3 neA;clear neA neE j3;have hc:(Rn.cl {R with ends:=R.ends.set i 2})[i]? =some c:=hc;refine L.nil ?_
 try clear hR
 try clear hC
 refine U106 ?_;refine U349 ?_;refine U99 ?_;refine U280 ?_;intro neA w hg j3;have hA:=hA.other j3 neA;refine U282 ?_;refine U46 ?_;refine U267 ?_;refine U205 ?_;refine U46 ?_;refine U268 ?_;refine U159 ?_;intro w L2 hg;clear L2;obtain⟨m,hm⟩:=Dk0 ⟨R.rb,8⟩ (n:=0) (a:=a45) (todo:=O9) Dl0;refine ZA.th0 (i:=11) (rest:=[]) (s:=⟨R.yb,z0,me0⟩) (gr:=⟨R.rb,8⟩) (ft:=m+3) hb rfl rfl rfl hX0 (Nat.ne_of_lt hg0) hdn hg0 tj0 ?_ ?_
 ·refine At.Y4 (Y3 _ _)<|At.done (Y3 _ _) (fun _=>?_);exact AtR.saved (Y3 _ _) hsv rfl func151 rfl hm
 ·exact ag0 _ hg
end
end
section
attribute [local irreducible] KK
theorem Rg.side{S:Nat->Prop}{B:Nat}{w0 w:World}{Bs:Nat}{R:Rn}(h:Rg S B w0 w Bs R){b:Nat}{cs S6:Array Value}{T:TypeId}{f:Nat×Nat}(hb:P1 w b cs T f)(hT:T≠173/\T≠123/\T≠67/\T≠63/\T≠3/\T≠65/\T≠248)(hS:S b\/B <=b):Rg S B w0 (V1 w b S6 T f) Bs R:=by
 have j3:=E2 w b S6 T f;have hr:∀T':TypeId,T'≠T->∀r,some b=some r->∃S6 T'' f',P1 w r S6 T'' f'/\T'≠T'':=fun T' hT r e=>by cases e;exact⟨_,_,_,hb,hT⟩
 have hm:B5 (V1 w b S6 T f) Bs R:=⟨S2 h.m.run j3 (hr _ (Ne.symm hT.1)),j5 h.m.cls j3 (hr _ (Ne.symm hT.2.1)),j5 h.m.evs j3 (hr _ (Ne.symm hT.2.2.1)),j5 h.m.nts j3 (hr _ (Ne.symm hT.2.2.2.1)),S2 h.m.ends j3 (hr _ (Ne.symm hT.2.2.2.2.1)),S2 h.m.wts j3 (hr _ (Ne.symm hT.2.2.2.2.2.1)),h.m.jv0,h.m.oq0,h.m.lcl,fun i c hc=>S2 (h.m.blk i c hc) j3 (hr _ (Ne.symm hT.2.2.2.2.2.2))⟩
 exact⟨hm,h.md.grown j3 h.le (fun r e=>by cases e;exact hS),h.fp,by rw[Y6];exact h.le⟩
def tk1(c:CB)(x:Int):Ending->Prop
 | .returned _=>(c.st=true/\x=0)\/(c.st=false/\x=1)
 | .panicked ch=>A6 ch/\((c.st=true/\x=0)\/(c.st=false/\x=2))
 | .outgrown=>False
structure Uo0(top:List Frame)(u9 A8 rb cb:Nat):Prop where
 leave:∀{Post:Value->World->Prop}{X:Gh}{g:Nat}{S:Nat->Prop}{B:Nat}{w0:World}{Bs:Nat}{R:Rn}{w:World}{i:Nat}{c:CB}{z0:Value}{me0:Goroutine}{fr:Frame}{e:Ending}(x:Int),Rg S B w0 w Bs R->R.rb=rb->R.cl[i]? =some c->c.cb=cb ->
  P1 w u9 #[.p cb] 123 (0,0)->P1 w A8 #[.bool false] 4 (0,0)->(S A8\/B <=A8)->tk1 c x e->0<g->X.W1 0=some ⟨R.yb,z0,me0⟩->X.dn=0->X.T4=some ⟨rb,8⟩ ->
  (∀w',Rg S B w0 w' Bs {R with ends:=R.ends.set i x,cl:=R.cl.set i {c with wt:=false}}->(∃en,P1 w' A8 #[.bool en] 4 (0,0))->Fin prog Post (X.pass g 0 none) 0 (Go.Conc.served me0 (.i (i:Int))) w') ->
  Leaves prog fr w e->Fin prog Post X g (G fr top) w
section
variable{w w0:World}{Bs B g i u9 A8:Nat}{R:Rn}{S:Nat->Prop}{Post:Value->World->Prop}{X:Gh}{c:CB}{z0:Value}{me0:Goroutine}{en:Bool}{a45:Act}{O9:List Item}{md:FrameMode}{x:Int}
theorem B5.gk1(h:B5 w Bs R){b:Nat}{cs:Array Value}{T:TypeId}{f:Nat×Nat}(hb:P1 w b cs T f)(hT:T≠173/\T≠123/\T≠67/\T≠63/\T≠3/\T≠65/\T≠248):¬R.fp b:=by
 intro hk;have own:∀{E:TypeId}{s n c:Nat}{a:Option Addr}{xs:List Value},Own w Bs E s a n c xs->a≠none->b=ab a->T≠E->False:=fun ho ha e X2=>by
  obtain⟨cur,hB,_⟩:=ho.row ha;exact P1.ne (f:=(0,0)) hB hb (Ne.symm X2) e.symm
 rcases hk with rfl|rfl|rfl|⟨ha,e⟩|⟨ha,e⟩|⟨ha,e⟩|⟨i,c,hc,rfl⟩
 ·exact P1.ne hb h.run hT.1 rfl
 ·exact P1.ne hb h.ends hT.2.2.2.2.1 rfl
 ·exact P1.ne hb h.wts hT.2.2.2.2.2.1 rfl
 ·exact own h.cls ha e hT.2.1
 ·exact own h.evs ha e hT.2.2.1
 ·exact own h.nts ha e hT.2.2.2.1
 ·exact P1.ne hb (h.blk i c hc) hT.2.2.2.2.2.2 rfl
theorem Rg.then{w':World}{R':Rn}(h:Rg S B w0 w Bs R)(h':Rg R.fp w.heap.size w w' Bs R'):Rg S B w0 w' Bs R':=
 ⟨h'.m,⟨h'.md.os.trans h.md.os,h'.md.tape.trans h.md.tape,h'.md.output.trans h.md.output,Nat.le_trans h.md.size h'.md.size,fun k hk hs=>(h'.md.block k (Nat.lt_of_lt_of_le hk h.le) fun z=>(h.fp k z).elim hs (Nat.not_le_of_lt hk)).trans (h.md.block k hk hs)⟩,fun k hk=>by
  rcases h'.fp k hk with z|z
  ·exact h.fp k z
  ·exact .inr (Nat.le_trans h.le z),Nat.le_trans h.le h'.md.size⟩
theorem Up0 
  (hg:Rg S B w0 w Bs R) (hc:R.cl[i]? =some c) (hx:(c.st=true/\x=0)\/(c.st=false/\en=true/\x=1)\/(c.st=false/\en=false/\x=2)) (hA:P1 w u9 #[.p c.cb] 123 (0,0)) (hE:P1 w A8 #[.bool en] 4 (0,0)) (hg0:0<g) (hX0:X.W1 0=some ⟨R.yb,z0,me0⟩) (hdn:X.dn=0) (tj0:X.T4=some ⟨R.rb,8⟩)
  (hmd:md= .returning\/∃v O4,md= .panicking ({v,recovered:=false} :: O4)/\O4.dropWhile (!·.goexit)=[]) (Dl0:a45.defers={target:=.fn (.func 151) (gz0 u9 A8),args:=#[]} :: [dcall 62 #[.pointer (some ⟨R.rb,8,none⟩)]])
  (ag0:∀w',Rg S B w0 w' Bs {R with ends:=R.ends.set i x,cl:=R.cl.set i {c with wt:=false}}->Fin prog Post (X.pass g 0 none) 0 (Go.Conc.served me0 (.i (i:Int))) w') :
  Fin prog Post X g (G {(baseD 128).at a45 O9 with mode:=md} [ad0 prog]) w:=by
 refine(im0 prog Post X g).ctl rfl rfl (fun w=>fo0 (f:=151) (fn:=Tryz.f151) (caps:=gz0 u9 A8) (args:=#[]) (ds:=[dcall 62 #[.pointer (some ⟨R.rb,8,none⟩)]]) (by rcases hmd with rfl|⟨_,_,rfl,_⟩ <;> simp) Dl0 func151 so1 rfl) ?_;rcases hx with⟨h1,rfl⟩|⟨h1,rfl,rfl⟩|⟨h1,rfl,rfl⟩
 ·exact Ul0 hg hc h1 hA hE hg0 hX0 hdn tj0 hmd rfl ag0
 ·exact Um0 (en:=true) hg hc h1 hA hE hg0 hX0 hdn tj0 hmd rfl ag0
 ·exact Un0 (en:=false) hg hc h1 hA hE hg0 hX0 hdn tj0 hmd rfl ag0
theorem Ba0 
  (hg:Rg S B w0 w Bs R) (hc:R.cl[i]? =some c) (hx:(c.st=true/\x=0)\/(c.st=false/\en=true/\x=1)\/(c.st=false/\en=false/\x=2)) (hA:P1 w u9 #[.p c.cb] 123 (0,0)) (hE:P1 w A8 #[.bool en] 4 (0,0)) (hg0:0<g) (hX0:X.W1 0=some ⟨R.yb,z0,me0⟩) (hdn:X.dn=0) (tj0:X.T4=some ⟨R.rb,8⟩)
  (hmd:md= .returning\/∃v O4,md= .panicking ({v,recovered:=false} :: O4)/\O4.dropWhile (!·.goexit)=[]) (Dl0:a45.defers={target:=.fn (.func 151) (gz0 u9 A8),args:=#[]} :: [dcall 62 #[.pointer (some ⟨R.rb,8,none⟩)]])
  (ag0:∀w',Rg S B w0 w' Bs {R with ends:=R.ends.set i x,cl:=R.cl.set i {c with wt:=false}}->(∃en,P1 w' A8 #[.bool en] 4 (0,0))->Fin prog Post (X.pass g 0 none) 0 (Go.Conc.served me0 (.i (i:Int))) w') :
  Fin prog Post X g (G {(baseD 128).at a45 O9 with mode:=md} [ad0 prog]) w:=by
 refine Up0 hg.m.rg hc hx hA hE hg0 hX0 hdn tj0 hmd Dl0 fun w' hg'=>ag0 w' (hg.then hg') ⟨en,?_⟩;exact(hg'.md.block A8 hE.lt (hg.m.gk1 hE Ud)).trans hE
set_option maxRecDepth 20000 in
theorem Uq0{f:FuncId}{fn:Func}{caps:Array Value}(hf:prog.funcs[f]? =some fn)(hbd:fn.body.isSome=true)(hnm:Ue fn)
  (hM:B5 w Bs R) (hc:R.cl[i]? =some c)
  (L3:∀w1 top u9 A8,Below w.heap.size w w1->w.heap.size <=u9->w.heap.size <=A8->P1 w1 u9 #[.p c.cb] 123 (0,0)->P1 w1 A8 #[.bool false] 4 (0,0)->Uo0 top u9 A8 R.rb c.cb->Fin prog Post X g (G (Frame.enter prog f (#[] ++ #[.p c.cb]++caps) .normal) top) w1) :
  Fin prog Post X g (born prog (dcall 128 #[.p c.cb,.func (.func f) #[] caps])) w:=by
 refine(im0 prog Post X g).ctl rfl rfl (fun w=>Ow0 func128 rz1 rfl) ?_;letI:Ctx prog:=D2 prog (g==0);have hZ:Ctx.Zs prog (Fin prog Post X g):=J6;have hb:=bkd 128;refine(?_:ZA (Fin prog Post X g) 15 (baseD 128) [ad0 prog] (Vc.cw0 #[.p c.cb,.func (.func f) #[] caps]) [.code (Tryz.f128.body.getD .skip)] w) _ (M8 _ _ rfl);refine U4 ?_;refine L.box (cs:=#[.p c.cb]) rfl rfl (fun w1 u9 FA=>?_);refine U3 ?_;refine U4 ?_;refine L.alloc (cs:=#[.bool false]) zr4 rfl (fun w2 A8 FE=>?_);refine L.pu 0 [.bool false] #[.bool false] sz4 FE.blk (fun w3 hE j3 H2=>?_);refine U3 ?_;have l7:Below w.heap.size w w1:=FA.below;have lA:w.heap.size <=u9:=by have:=FA.here;omega
 have lE:w.heap.size <=A8:=by have:=FE.here;have:=l7.size;omega
 have hb2:Below w.heap.size w w2:=B0 l7 FE.below;have hb3:Below w.heap.size w w3:=W3 hb2 hb2.size j3 lE;have hA:P1 w3 u9 #[.p c.cb] 123 (0,0):=(S3 (FA.blk.j0 FE.below)).other j3 (P1.ne (S3 (FA.blk.j0 FE.below)) (S3 FE.blk) Ud);have hM3:=hM.j0 hb3;refine ZA.zd<|U335 ?_;refine ZD.va hZ hb (i:=0) (rest:=[1,2,3,4,5,6]) rfl rfl (q0 rfl underlying123 rfl (hA.E0 0 (v:=.p c.cb) rfl))<|ZD.va hZ hb (i:=1) rfl rfl (j1 rfl)<|ZD.va hZ hb (i:=2) rfl rfl (A0 rfl underlying248 rfl Fy0 Ud)<|ZD.va hZ hb (i:=3) rfl rfl (q0 rfl underlying169 rfl ((hM3.blk i c hc).E0 1 (v:=.p R.rb) rfl))<|ZD.va hZ hb (i:=4) rfl rfl (j1 rfl)<|ZD.va hZ hb (i:=5) rfl rfl (A0 rfl underlying173 rfl fl1 Ud)<|ZD.defer hZ hb (i:=6) (vs:=#[.pointer (some ⟨R.rb,8,none⟩)]) rfl (Wg.cn0 (vl:=[.pointer (some ⟨R.rb,8,none⟩)]) rfl)<|ZD.Y4 hZ<|U335 ?_;refine ZD.va hZ hb (i:=0) (rest:=[1]) rfl rfl (p6 (l:=[.tmp 2,.tmp 4]) (vs:=[.p u9,.p A8]) rfl)<|ZD.jz1 hZ hb (i:=1) (caps:=gz0 u9 A8) rfl rfl<|ZD.Y4 hZ<|U335 ?_;refine ZD.va hZ hb (i:=0) (rest:=[1,2]) rfl rfl (rx0 rfl)<|ZD.va hZ hb (i:=1) rfl rfl (q0 rfl underlying123 rfl (hA.E0 0 (v:=.p c.cb) rfl))<|ZD.call hZ hb (i:=2) rfl (cv0 (first:=#[]) (cap:=caps) (args:=#[.p c.cb]) rfl (Wg.cn0 (vl:=[.p c.cb]) rfl) hf hbd hnm) (fun a ha=>?_);refine L3 w3 _ u9 A8 hb3 lA lE hA hE ⟨?_⟩;clear L3 hb3 hb2 l7 hM3 hA hE j3 H2 FA FE;intro Post X g S B w0 Bs R' w i c' z0 me0 fr e x hg hRb hc hcb hA hE hS hx hg0 hX0 hdn j3 ag0 hl;rw[<- hcb]at hA;have ka1:X.T4=some ⟨R'.rb,8⟩:=by rw[hRb];exact j3
 letI:Ctx prog:=D2 prog (g==0);have hZ:Ctx.Zs prog (Fin prog Post X g):=J6;cases e with
 |outgrown=>exact hx.elim
 |panicked ch=>
  obtain⟨⟨v,O4,rfl,ho⟩,hx⟩:=hx;refine ke0 (im0 _ _ _ _) hl ?_;rw[Frame.raise_at];exact Ba0 (en:=false) hg hc (by rcases hx with h|h;exact .inl h;exact .inr (.inr ⟨h.1,rfl,h.2⟩)) hA hE hg0 hX0 hdn ka1 (.inr ⟨v,O4,rfl,ho⟩) (by rw[hRb];exact ha.defers) ag0
 |returned v=>
  refine dv0 (im0 _ _ _ _) hl ?_;have eo0:∀(ops:Array Oper)(k:List Item)(o:Oper),ops[2]? =some o->((baseD 128).at a (.inRegion ops [2]::k)).finish v=(baseD 128).at (a.put o.dst v) (.inRegion ops []::k):=fun ops k o ho=>by rw[Frame.finish_at,ho];rfl
  rw[eo0 _ _ _ rfl];refine(?_:ZD (Fin prog Post X g) 15 (baseD 128) [ad0 prog] _ _ _ w) _ (ha.put rfl v);refine ZD.Y4 hZ<|ZD.region hZ<|ZD.st hZ hb (i:=0) (rest:=[]) rfl (nb0 (v:=.bool true) (p:=⟨A8,0,none⟩) (v0:=.bool false) rfl rfl sz4 rfl (hE.E0 0 rfl) (by rw[hE.frozen];rfl)) ?_;rw[jq0 hE];refine ZD.Y4 hZ ?_;intro a5 ha5;exact(im0 prog Post X g).ctl rfl rfl (fun _=>stepG_end)<|Ba0 (en:=true) (hg.side hE Ud hS) hc (by rcases hx with h|h;exact .inl h;exact .inr (.inl ⟨h.1,rfl,h.2⟩)) (hA.other (E2 _ _ _ _ _) (P1.ne hA hE Ud)) (L5 hE _ _ _) hg0 hX0 hdn ka1 (.inl rfl) (by rw[hRb];exact ha5.defers) ag0
end
end
section
attribute [local irreducible] KK
def Jo0(cs:List Frame)(me:Goroutine):Prop:=∀Z,@Ctx.Zs prog (D2 prog true) Z->∀(u:World)(v:Value),(∀fr,fr.fn=78->Leaves prog fr u (.returned (.tuple #[]))->Z (G fr cs) u)->Z (Go.Conc.served me v) u
theorem tl1(x0:Int)(x1:Int)(x2:Int)(x3:Int):prog.built 67 [(0,.i x0),(1,.agg #[.i x1,.i x2,.i x3])]=some #[.i x0,.i x1,.i x2,.i x3]:=by kernel_rfl
set_option maxRecDepth 20000 in
theorem Ur0{Post:Value->World->Prop}{X:Gh}{g:Nat}{S:Nat->Prop}{B:Nat}{w0:World}{Bs:Nat}{R:Rn}{w:World}{i:Nat}{c:CB}{cs:List Frame}{z1:Value}{me1:Goroutine}
  (hg:Rg S B w0 w Bs R) (hBs:Bs <=w.heap.size) (hc:R.cl[i]? =some c) (hrm:R.evs.length <=1000000) (hpm:c.X1 <=1000000) (hum:R.used <=1000000)
  (hg0:g≠0) (hX0:X.W1 g=some ⟨c.rc,z1,me1⟩) (hdn:X.dn=0) (O2:X.stay 0=[(⟨R.rb,7,none⟩,.chan (some R.yb))]) (R9:X.chs R.yb/\∀i s2,i≠g->X.W1 i=some s2->s2.ch≠R.yb)
  (y7:∀w' a n me0,Rg S B w0 w' Bs {R with ea:=a,ec:=n,evs:=R.evs ++ [(i,c.sp)],used:=R.used+1,cl:=R.cl.set i {c with X1:=c.X1+1,wt:=false}}->Jo0 cs me0->Fin prog Post (X.pass 0 g (some ⟨R.yb,.i 0,me0⟩)) g (Go.Conc.served me1 (.bool true)) w') :
  Fin prog Post X 0 (G (Frame.enter prog 78 #[.p R.rb,.p c.cb] .normal) cs) w:=by
 letI:Ctx prog:=D2 prog true;rw[enter_at _ func78 rfl];refine(?_:ZA (Fin prog Post X 0) 52 (base 78) cs (Vc.cw0 #[.p R.rb,.p c.cb]) [.code (Tryz.f78.body.getD .skip)] w) _ (M8 _ _ rfl);have hZ:Ctx.Zs prog (Fin prog Post X 0):=J6;have hb:=J1 78;refine U102 ?_;refine U116 ?_;intro hR hC;refine W.fl 17 [15,16] [0,1,2,3,4,5,6,7,8,9,10,11,12,13,14,15,16] (fun w'=>P1 w' R.rb #[.slice R.ca R.cl.length R.cc,.slice R.ea R.evs.length R.ec,.slice R.na R.nts.length R.nc,.slice (pt R.eb) R.m R.m,.slice (pt R.wb) R.m R.m,.bool R.stuck,.i (R.used:Int),.chan (some R.yb)] 173 (7,8)/\P1 w' c.cb #[.i (i:Int),.p R.rb,.chan (some c.rc),.i c.sp.kind,.i c.sp.obj,.i c.sp.num,c.rf,c.df,.i (c.X1:Int),.bool c.wt,.bool c.st] 248 (0,3)) Uk Uk Uk Uk Uk (⟨hR.j0 (Below.refl w.heap.size w).drew,hC.j0 (Below.refl w.heap.size w).drew⟩) ?_;have G4:Below w.heap.size w w.drew:=(Below.refl w.heap.size w).drew;have hBs:=Nat.le_trans hBs G4.size;have hg:=hg.j0 G4;have hR:=hR.j0 G4;have hC:=hC.j0 G4;clear G4;generalize w.drew=w at *;refine U550 ?_;refine F.va rfl rfl (fun w' W0=>(A0 rfl underlying173 rfl nn0 Ud))<|U402 ?_;refine U31 ?_;refine U418 ?_;refine U31 ?_;refine F.va rfl rfl (fun w' W0=>(A0 rfl underlying248 rfl qp0 Ud))<|F.va rfl rfl (fun w' W0=>(A2 (cs:=[.i c.sp.kind,.i c.sp.obj,.i c.sp.num]) rfl underlying65 rfl qp0 rfl (W0.2.R7 rfl)))<|F.va rfl rfl (fun w' W0=>(P2 (parts:=[(0,.tmp 13),(1,.tmp 17)]) rfl (tl1 (i:Int) c.sp.kind c.sp.obj c.sp.num)))<|F.doo rfl rfl<|L.cx0 (cs:=#[.i (i:Int),.i c.sp.kind,.i c.sp.obj,.i c.sp.num]) rfl rfl underlying41 wj0 rfl ⟨_,Ti0⟩ Ud (fun w b19 F19=>?_);have hBs:=Nat.le_trans hBs F19.below.size;have hg:=hg.j0 F19.below;have hR:=hR.j0 F19.below;have hC:=hC.j0 F19.below;have bg1:=F19.blk;refine L.nil ⟨rfl,⟨hR,hC⟩,?_⟩;refine F.doo rfl rfl<|L.ja0 (B:=Bs) (m:=1) rfl rfl underlying41 xi1 rfl Ud hg.m.evs (news:=[.i (i:Int),.i c.sp.kind,.i c.sp.obj,.i c.sp.num]) rfl (fun j u hj=>by
  rw[Addr.add_lit]
  match j,hj with
  |0,hj=>cases hj;exact bg1.E0 0 rfl
  |1,hj=>cases hj;exact bg1.E0 1 rfl
  |2,hj=>cases hj;exact bg1.E0 2 rfl
  |3,hj=>cases hj;exact bg1.E0 3 rfl) (fun u hu=>by simp only[List.mem_cons,List.not_mem_nil,or_false]at hu;rcases hu with rfl|rfl|rfl|rfl <;> rfl) Uo Uo hBs (fun a20 c20 w2 hO j3 hli=>?_)
 have hR:=S2 hR j3 (V5 hg.m.evs Ud);have hC:=S2 hC j3 (V5 hg.m.evs Ud);refine L.nil ⟨rfl,⟨hR,hC⟩,?_⟩;refine U9 ?_;refine U95 ?_;refine L.va (A0 rfl underlying45 rfl Tg0 Ud)<|L.yv1 (o:=0) (v:=undef) hg (i,c.sp) j3 hO hli rfl rfl Tg0 (fun w hg=>?_)
 try clear j3
 refine L.nil ?_
 try clear hR
 try clear hC
 refine U106 ?_;refine U4 ?_;refine U308 ?_;refine L.va (A0 rfl underlying45 rfl sz3 Ud)<|L.va (q0 rfl underlying3 rfl (hg.m.run.E0 6 (v:=.i (R.used:Int)) rfl))<|L.va (ry0 rfl rfl Uo)<|U95 ?_;refine L.va (A0 rfl underlying45 rfl sz3 Ud)<|L.stR (o:=6) (vs:=[.i ((R.used+1:Nat):Int)]) hg R.stuck (R.used+1) rfl rfl rfl sz3 rfl rfl Ud rfl (fun w hg j3=>?_)
 try clear j3
 refine U3 ?_;refine U4 ?_;refine U11 ?_;refine L.va (A0 rfl underlying248 rfl sz3 Ud)<|L.va (q0 rfl underlying3 rfl ((hg.m.blk i c hc).E0 8 (v:=.i (c.X1:Int)) rfl))<|L.va (ry0 rfl rfl Uo)<|L.va (j1 rfl)<|L.va (A0 rfl underlying248 rfl sz3 Ud)<|L.stC (i:=i) (o:=8) (vs:=[.i ((c.X1+1:Nat):Int)]) hg {c with X1:=c.X1+1} hc rfl rfl rfl rfl sz3 rfl rfl Ud rfl (fun w hg j3=>?_)
 try clear j3
 refine U3 ?_;refine U4 ?_;refine U74 ?_;refine L.stC (i:=i) (o:=9) (vs:=[.bool false]) hg {{c with X1:=c.X1+1} with wt:=false} (J7 hc) rfl rfl rfl rfl sz4 rfl rfl Ud rfl (fun w hg j3=>?_)
 try clear j3
 refine U13 ?_;refine ZA.upto hZ hb 4 rfl rfl (R:=fun e' w'=>ZA _ _ _ _ e' _ w') ?_ (fun _ _ h=>h);refine U527 ?_;refine L.va (q0 rfl underlying246 rfl ((hg.m.blk i _ (J7 (J7 hc))).E0 2 (v:=.chan (some c.rc)) rfl))<|U3 ?_;refine ZA.give (i:=4) (rest:=[]) (s:=⟨c.rc,z1,me1⟩) (j:=g) (st:=[(⟨R.rb,7,none⟩,.chan (some R.yb))]) (K:=fun s=>s.ch=R.yb/\s.z= .i 0/\Jo0 cs s.me) (ft:=60) hb rfl rfl rfl hX0 hg0 hdn O2 ?_ ?_ ?_
 ·have hY:=Dj0 (P:=prog) (main:=true) (l:=[((⟨R.rb,7,none⟩:Addr),Value.chan (some R.yb))]) (K:=fun s=>s.ch=R.yb/\s.z= .i 0/\Jo0 cs s.me);refine U324 ?_;refine U290 ?_;refine U274 ?_;refine Q0.W1 (E:=3) (z:=.i 0) hb underlying170 zr3 rfl (fun me hs=>⟨rfl,rfl,?_⟩) rfl;intro Z hZ w v hK;refine hs.go ?_;letI:Ctx prog:=D2 prog true;exact ZA.Y4 hZ<|ZA.done hZ<|ZA.leaves (fn:=Tryz.f78) (f:=78) rfl func78 rfl (fun fr h8 h9=>hK fr h8 h9)
 ·rintro s2 ⟨h1,_,_⟩;rw[h1];exact R9
 ·rintro⟨ch,z,me⟩ ⟨h1,h2,h3⟩;cases h1;cases h2;exact y7 _ _ _ me (by simpa using hg) h3
end
section
attribute [local irreducible] KK
noncomputable def endLoop:Code:=match Tryz.f80.body with|some (.seq (.seq _ (.block _ (.loop c))) _)=>c|_=>.skip
noncomputable def Mk0:Code:=match Tryz.f80.body with|some (.seq _ c)=>c|_=>.skip
structure bh1(rb0 m:Nat)(ca:Option Addr)(cc:Nat)(Bs:Nat)(Post:Value->World->Prop)(cs:List Frame)(J:Nat->Gh->Rn->World->Prop):Prop where
 mem:∀i X R w,J i X R w->B5 w Bs R/\R.rb=rb0/\R.cl.length=m/\R.ca=ca/\R.cc=cc
 skip:∀i X R w c,J i X R w->R.cl[i]? =some c->c.wt=false->J (i+1) X R w
 stop:∀i X R w c,J i X R w->R.cl[i]? =some c->c.wt=true->∃g z1 me1,g≠0/\X.W1 g=some ⟨c.rc,z1,me1⟩/\X.dn=0/\X.stay 0=[(⟨R.rb,7,none⟩,.chan (some R.yb))]/\(X.chs R.yb/\∀i s2,i≠g->X.W1 i=some s2->s2.ch≠R.yb) /\
  ∀w' me0,Rg R.fp w.heap.size w w' Bs {R with wts:=R.wts.set i c.sp}->(∀X' R' u v,J (i+1) X' R' u->Fin prog Post X' 0 (Go.Conc.served me0 v) u)->Fin prog Post (X.pass 0 g (some ⟨R.yb,.i 0,me0⟩)) g (Go.Conc.served me1 (.bool false)) w'
 fin:∀X R w,J m X R w->(∀i,X.W1 i=none)/\X.T4=some ⟨rb0,8⟩/\X.pend=0/\X.dn=0/\X.cap<2147483648/\∀fr,fr.fn=80->Leaves prog fr w (.returned (.tuple #[]))->Fin prog Post {X with pend:=0,cap:=0,dn:=0} 0 (G fr cs) w
section
variable{rb0 m cc Bs:Nat}{ca:Option Addr}{Post:Value->World->Prop}{cs:List Frame}{J:Nat->Gh->Rn->World->Prop}{X:Gh}{R:Rn}{w:World}
set_option maxRecDepth 20000 in
theorem Us0(hE:bh1 rb0 m ca cc Bs Post cs J)(hJ:J m X R w){e:Env}(s0:e 0= .p rb0):ZA (Fin prog Post X 0) 43 (base 80) cs e [.code Mk0] w:=by
 obtain⟨hM,hrb,hm,hca,hcc⟩:=hE.mem _ _ _ _ hJ;obtain⟨r9,j3,hp,hdn,Cp0,hK⟩:=hE.fin _ _ _ hJ;letI:Ctx prog:=D2 prog true;refine U219 ?_;intro hZ hb;rw[<- hrb]at s0;rw[L0 s0];clear s0;refine ZA.upto hZ hb 3 rfl rfl (R:=fun e' w'=>ZA _ _ _ _ e' _ w') ?_ (fun _ _ h=>h);refine U331 ?_;refine U526 ?_;refine ZA.call (i:=3) (rest:=[]) hZ hb (f:=64) (args:=#[.pointer (some ⟨R.rb,8,none⟩)]) rfl rfl (N2 rfl func64 rfl yf1 rfl) (fun a ha=>?_);rw[hrb];refine Fin.wait (G:=⟨rb0,8⟩) (K:=fun g'=>g'=_) j3 r9 hp hdn (jt1 ⟨rb0,8⟩ (fun g'=>g'=_) rfl X.cap Cp0) (fun g' hg'=>?_);subst hg';refine ZA.home (i:=3) rfl rfl ha ?_;have hZ':Ctx.Zs prog (Fin prog Post {X with pend:=0,cap:=0,dn:=0} 0):=J6;exact ZA.Y4 hZ'<|ZA.done hZ'<|ZA.leaves (fn:=Tryz.f80) (f:=80) rfl func80 rfl hK
set_option maxRecDepth 20000 in
theorem Ut0(hE:bh1 rb0 m ca cc Bs Post cs J)(hm1:m <=1000):∀(k i:Nat),i+k=m->∀X R w,J i X R w->∀e:Env,e 0= .p rb0->e 7= .slice ca m cc->e 8= .i (m:Int)->e 9= .i (i:Int)->ZA (Fin prog Post X 0) 43 (base 80) cs e [.code endLoop,.inLoop endLoop,.inBlock 0,.code Mk0] w:=by
 intro k
 induction k with
 |zero=>
  intro i hk X R w hJ e s0 s7 s8 s9;obtain⟨hM,hrb,hm,hca,hcc⟩:=hE.mem _ _ _ _ hJ;letI:Ctx prog:=D2 prog true;refine U219 ?_;intro hZ hb;rw[<- hrb]at s0;rw[<- hca,<- hm,<- hcc]at s7;rw[<- hm]at s8;refine U199 ?_;refine ZA.seq hZ ?_;obtain rfl:i=R.cl.length:=by omega
  refine U160 ?_;refine U421 ?_;refine U303 ?_;exact Us0 hE (by rw[<- hm];exact hJ) (by rw[<- hrb];rfl)
 |succ k ih=>
  intro i hk X R w hJ e s0 s7 s8 s9;obtain⟨hM,hrb,hm,hca,hcc⟩:=hE.mem _ _ _ _ hJ;letI:Ctx prog:=D2 prog true;refine U219 ?_;intro hZ hb;rw[<- hrb]at s0;rw[<- hca,<- hm,<- hcc]at s7;rw[<- hm]at s8;refine U199 ?_;have O1:i<R.cl.length:=by omega
  obtain⟨c,hc⟩:∃c,R.cl[i]? =some c:=⟨_,List.getElem?_eq_getElem O1⟩
  refine U153 ?_;refine U307 ?_;refine ZA.seq hZ<|U108 ?_;refine L.va (N3 rfl)<|U440 ?_;refine L.va (fd0 rfl)<|U135 ?_;refine U4 ?_;refine U480 ?_;refine U3 ?_;by_cases hwt:c.wt=false
  ·refine ZA.X6 hZ (rb hwt)<|ZA.skip hZ<|ZA.inBlock hZ<|U149 ?_;exact ih (i+1) Uo X R w (hE.skip i X R w c hJ hc hwt) _ (by rw[<- hrb];rfl) (by rw[<- hca,<- hm,<- hcc];rfl) (by rw[<- hm];rfl) rfl
  ·have hwt:c.wt=true:=by simpa using hwt
   refine ZA.v8 hZ (rb hwt) ?_;obtain⟨g,z1,me1,hg0,hX0,hdn,O2,R9,y7⟩:=hE.stop i X R w c hJ hc hwt;have hg:=hM.rg;refine U102 ?_;refine U116 ?_;intro hR hC;refine W.px0 11 (fun w'=>Below w.heap.size w w') Uk Uk Uk Uk ((Below.refl w.heap.size w).drew)<|U49 ?_;refine D.va (fun w' W0=>(A0 rfl underlying173 rfl nn0 Ud))<|D.va (fun w' W0=>(A0 rfl underlying45 rfl jm1 Ud))<|D.va (fun w' W0=>(q0 rfl underlying43 rfl ((hR.j0 W0).E0 4 (v:=.slice (pt R.wb) R.m R.m) rfl)))<|D.va (fun w' W0=>(N3 rfl))<|U49 ?_;refine D.va (fun w' W0=>(A0 rfl underlying248 rfl qp0 Ud))<|D.va (fun w' W0=>(A2 (cs:=[.i c.sp.kind,.i c.sp.obj,.i c.sp.num]) rfl underlying65 rfl qp0 rfl ((hC.j0 W0).R7 rfl)))<|D.va (fun w' W0=>cb0 (i:=i) rfl rfl underlying43 qp0 (Nat.lt_of_lt_of_le O1 hM.lcl))<|U159 ?_;intro w L2 hg;have hR:=hR.j0 L2;have hC:=hC.j0 L2;clear L2;refine L.stW (i:=i) (z:=c.sp) hg (Nat.lt_of_lt_of_le O1 hM.lcl) rfl rfl qp0 (fun w hg j3=>?_);clear j3;refine L.nil ?_
   try clear hR
   try clear hC
   refine U106 ?_;refine ZA.seq hZ<|ZA.upto hZ hb 4 rfl rfl (R:=fun e' w'=>ZA _ _ _ _ e' _ w') ?_ (fun _ _ h=>h);refine U527 ?_;refine L.va (q0 rfl underlying246 rfl ((hg.m.blk i c hc).E0 2 (v:=.chan (some c.rc)) rfl))<|U3 ?_;refine ZA.give (i:=4) (rest:=[]) (s:=⟨c.rc,z1,me1⟩) (j:=g) (st:=[(⟨R.rb,7,none⟩,.chan (some R.yb))]) (K:=fun s=>s.ch=R.yb/\s.z= .i 0/\∀X' R' u v,J (i+1) X' R' u->Fin prog Post X' 0 (Go.Conc.served s.me v) u) (ft:=60) hb rfl rfl rfl hX0 hg0 hdn O2 ?_ ?_ ?_
   ·have hY:=Dj0 (P:=prog) (main:=true) (l:=[((⟨R.rb,7,none⟩:Addr),Value.chan (some R.yb))]) (K:=fun s=>s.ch=R.yb/\s.z= .i 0/\∀X' R' u v,J (i+1) X' R' u->Fin prog Post X' 0 (Go.Conc.served s.me v) u);refine U324 ?_;refine U290 ?_;refine U274 ?_;refine Q0.W1 (E:=3) (z:=.i 0) hb underlying170 zr3 rfl (fun me hs=>⟨rfl,rfl,?_⟩) rfl;intro X R' w v hJ';refine hs.go ?_;have hZ:Ctx.Zs prog (Fin prog Post X 0):=J6;refine U321 ?_;refine U149 ?_;exact ih (i+1) Uo X R' w hJ' _ (by rw[<- hrb];rfl) (by rw[<- hca,<- hm,<- hcc];rfl) (by rw[<- hm];rfl) rfl
   ·rintro s2 ⟨h1,_,_⟩;rw[h1];exact R9
   ·rintro⟨ch,z,me⟩ ⟨h1,h2,h3⟩;cases h1;cases h2;exact y7 _ me hg h3
set_option maxRecDepth 20000 in
theorem Ml0(hE:bh1 rb0 m ca cc Bs Post cs J)(hm1:m <=1000)(hJ:J 0 X R w):Fin prog Post X 0 (G (Frame.enter prog 80 #[.p rb0] .normal) cs) w:=by
 obtain⟨hM,hrb,hm,hca,hcc⟩:=hE.mem _ _ _ _ hJ;letI:Ctx prog:=D2 prog true;refine U219 ?_;intro hZ hb;rw[enter_at _ func80 rfl];rw[<- hrb];refine(?_:ZA (Fin prog Post X 0) 43 (base 80) cs (Vc.cw0 #[.p R.rb]) [.code (Tryz.f80.body.getD .skip)] w) _ (M8 _ _ rfl);refine ZA.seq hZ<|U4 ?_;refine U194 ?_;refine U441 ?_;refine U344 ?_;refine U336 ?_;exact Ut0 hE hm1 m 0 Uo X R w hJ _ (by rw[<- hrb];rfl) (by rw[<- hca,<- hm,<- hcc];rfl) (by rw[<- hm];rfl) rfl
end
end
end Go.Vy.Sc
end
section
namespace Go.Vy
open Go Go.Conc Go.Yc Go.RowKit
open Go.Vc Go.Wg
def ChanAt(w:World)(b:Nat):Prop:=w.heap[b]? =some (.chan 0 #[] false 0 0 false)
section
variable{w w':World}{b:Nat}
theorem ChanAt.lt(h:ChanAt w b):b<w.heap.size:=(Array.getElem?_eq_some_iff.1 h).1
theorem ChanAt.j0(h:ChanAt w b)(hb:Below w.heap.size w w'):ChanAt w' b:=(hb.block b h.lt).trans h
theorem ChanAt.grown{row:Option Nat}(h:ChanAt w b)(hg:w.grownBy w' row)(hr:∀r,row=some r->∃cs T f,P1 w r cs T f):ChanAt w' b:=
 (hg.block b h.lt fun e=>by
  obtain⟨cs,T,f,h'⟩:=hr b e.symm;unfold ChanAt at h;unfold P1 at h';rw[h]at h';cases h').trans h
end
theorem L.makeChan{P:Program}[Ctx P]{n:Nat}{Q:Exit->Env->World->Prop}{e:Env}{w:World}{ops:Array Oper}{rest:List Oper}{d:Nat}{ty:TypeId}{ps:String}{af:Array Edge}{T E:TypeId}{x:Operand}{dd:ChanDir}(hx:ev e x= .int .i64 0)(hT:P.underlying T=some (.chan dd E))(hi:∃z,(P.info? E).map (·.size)=some z)
  (k:∀w1,Below w.heap.size w w1->ChanAt w1 w.heap.size->w1.heap.size=w.heap.size+1->L P n ops Q rest (upd e d (.chan (some w.heap.size))) w1):L P n ops Q (⟨some d,.makeChan T x,ty,ps,af,none⟩::rest) e w:=by
 obtain⟨z,hz⟩:=hi;obtain⟨i,hi,_⟩:=Option.map_eq_some_iff.1 hz;refine L.va (v:=.chan (some w.heap.size)) (w':=w.alloc (.chan 0 #[] false 0 0 false)) (.N0 (N1 rfl _) rfl rfl fun τ d'=>?_) (k _ ((Below.refl _ _).alloc (Nat.le_refl _) _) (by unfold ChanAt;show(w.heap.push _)[_]? =_;simp) (by show(w.heap.push _).size=_;simp));have:=run_makeChan (P:=P) (w:=G2 w τ d') hT hi .i64 0 Ud (by simp);show _=Result.ok (Next.value (.chan (some (G2 w τ d').heap.size))) ((G2 w τ d').alloc (.chan 0 #[] false 0 0 false));simp only[execOp,hx];have h2:((0:Nat):Int)=0:=rfl;rw[h2]at this;simp[this]
section
variable{P:Program}{Post:Value->World->Prop}{X:Gh}{h n:Nat}{b:Frame}{cs:List Frame}{e:Env}{k:List Item}{w:World}
theorem ZA.freeze{bb:Nat}{cells:Array Value}{T:TypeId}{f:Nat×Nat}(hl:ok0 X bb)(hB:P1 w bb cells T (0,0))(hz:ZA (Fin P Post (X.lower bb) h) n b cs e k (V1 w bb cells T f)):ZA (Fin P Post X h) n b cs e k w:=
 fun a ha=>Fin.freeze (f:=(0,0)) (f':=f) hl hB (fun i hi=>by unfold inR at hi;omega) (hz a ha)
def Dm0(X:Gh)(rb yb off:Nat):Gh:=⟨X.W1,Go.ConcN.upd X.stay 0 [(⟨rb,off-1,none⟩,.chan (some yb))],some ⟨rb,off⟩,X.T4.toList++X.old,X.D5,fun c=>X.chs c\/c=yb,fun k=>(X.low k\/k=yb)\/k=rb,X.D7,X.cap,X.pend,X.dn,X.n⟩
theorem ZA.begin{rb yb:Nat}{c8:Array Value}{T:TypeId}(Cp0:X.cap=0)(hU:X.gh0 rb)(hUy:X.gh0 yb)(hpr:X.D7 rb= .all)(hpy:X.D7 yb= .all)(hch:ChanAt w yb)(hB:I0 w rb (c8 ++ #[.int .u64 0,.int .u32 0]) T)(h0:0<c8.size)(hy:c8[c8.size-1]? =some (.chan (some yb)))
  (hz:ZA (Fin P Post (Dm0 X rb yb c8.size) 0) n b cs e k (V1 (V2 w yb nothing) rb c8 T (c8.size-1,c8.size))):ZA (Fin P Post X 0) n b cs e k w:=by
 have X2:yb≠rb:=by
  intro e;subst e;unfold ChanAt at hch;unfold I0 at hB;rw[hch]at hB;cases hB
 intro a ha;refine Fin.chan (b:=yb) (k:=0) (hUy.lu0 (Nat.le_refl _)) (fun hl=>absurd (hUy.low _ hl) (Nat.lt_irrefl _)) hpy hch ?_;have V8:(V2 w yb nothing).heap[rb]? =some (.cells (c8 ++ #[.int .u64 0,.int .u32 0]) T (0,0)):=by rw[G7 _ _ X2];exact hB
 refine Fin.hv1 (f':=(c8.size-1,c8.size)) (b:=rb) Cp0 ?_ ?_ hpr V8 (Nat.zero_le _) ?_
 ·have hl:=hU.lu0 (Nat.le_refl rb);exact⟨hl.stay,hl.D5,fun h=>h.elim hl.chs fun h=>X2 h.symm,hl.T4⟩
 ·intro h;rcases h with h|h
  ·exact absurd (hU.low _ h) (Nat.lt_irrefl _)
  ·exact X2 h.symm
 have Y1:(V2 (V2 w yb nothing) rb (.cells c8 T (c8.size-1,c8.size))).heap[rb]? =some (.cells c8 T (c8.size-1,c8.size)):=Q8 _ V8;refine Fin.stay (l:=[(⟨rb,c8.size-1,none⟩,.chan (some yb))]) (fun p hp=>?_) (hz a ha);obtain rfl:p=(⟨rb,c8.size-1,none⟩,.chan (some yb)):=by simpa using hp
 exact⟨P1.cell (f:=(c8.size-1,c8.size)) Y1 hy,by rw[P1.frozen (f:=(c8.size-1,c8.size)) Y1];simp;omega⟩
end
end Go.Vy
end
section
namespace Go.Vy.Sc
open Go Go.Conc Go.Yc Go.RowKit Go.Proofs Go.Proofs.YtinppmaojmdmhaaGreat Tryz
open Go.Vc Go.Wg
section
attribute [local irreducible] KK
noncomputable def Mm0:Code:=match Tryz.f76.body with|some (.seq _ (.block _ (.loop c)))=>c|_=>.skip
def sp0:Stp:=⟨0,0,0⟩
abbrev n5(cb rc:Nat):CB:=⟨cb,rc,sp0,.nilFunc,.nilFunc,0,false,false⟩
structure kb1(rb0 m:Nat)(ba:Option Addr)(fv:Nat->Value)(Bs:Nat)(Post:Value->World->Prop)(cs:List Frame)(J:Nat->Gh->Rn->World->Prop):Prop where
 sl:SL ba m
 fn:∀i,i<m->fv i= .nilFunc\/∃f fn caps,fv i= .func (.func f) #[] caps/\prog.funcs[f]? =some fn/\fn.body.isSome=true/\Ue fn
 mem:∀i X R w,J i X R w->B5 w Bs R/\R.rb=rb0/\R.cl.length=i/\R.m=m/\Bs <=w.heap.size/\X.gh0 w.heap.size/\∀j,j<m->w.cell? ⟨ab ba,ao ba+j*1,none⟩=some (fv j)
 nil:∀i X R w w' a n cb rc,i<m->J i X R w->fv i= .nilFunc->w.heap.size <=cb->w.heap.size <=rc->Rg R.fp w.heap.size w w' Bs {R with ca:=a,cc:=n,cl:=R.cl ++ [n5 cb rc],ends:=R.ends.set i 1}->J (i+1) (X.lower cb) {R with ca:=a,cc:=n,cl:=R.cl ++ [n5 cb rc],ends:=R.ends.set i 1} w'
 go:∀i X R w w' a n cb rc,i<m->J i X R w->fv i≠.nilFunc->w.heap.size <=cb->w.heap.size <=rc->cb≠rc->ChanAt w' rc->Rg R.fp w.heap.size w w' Bs {R with ca:=a,cc:=n,cl:=R.cl ++ [n5 cb rc]} ->
  X.T4=some ⟨rb0,8⟩/\X.pend=0/\X.cap<65536/\X.dn=0/\X.stay 0=[(⟨R.rb,7,none⟩,.chan (some R.yb))]/\(X.chs R.yb/\∀i s2,X.W1 i=some s2->s2.ch≠R.yb) /\
  ∀me0,(∀X' R' u v,J (i+1) X' R' u->Fin prog Post X' 0 (Go.Conc.served me0 v) u)->Fin prog Post (Gh.hire {X.lower cb with pend:=1,cap:=X.cap+1,dn:=0} ⟨R.yb,.i 0,me0⟩) X.n (born prog (dcall 128 #[.p cb,fv i])) w'
 fin:∀X R w,J m X R w->∀fr,fr.fn=76->Leaves prog fr w (.returned (.tuple #[]))->Fin prog Post X 0 (G fr cs) w
section
variable{rb0 m Bs bc:Nat}{ba:Option Addr}{fv:Nat->Value}{Post:Value->World->Prop}{cs:List Frame}{J:Nat->Gh->Rn->World->Prop}
theorem tm1(x0:Int)(x1:Option Addr)(x2:Option Nat):prog.built 248 [(0,.i x0),(1,.pointer x1),(2,.chan x2)]=some #[.i x0,.pointer x1,.chan x2,.i 0,.i 0,.i 0,.nilFunc,.nilFunc,.i 0,.bool false,.bool false]:=by kernel_rfl
set_option maxRecDepth 20000 in
theorem Uu0(hE:kb1 rb0 m ba fv Bs Post cs J)(hm1:m <=1000) :∀(k i:Nat),i+k=m->∀X R w1,J i X R w1->∀e:Env,e 0= .p rb0->e 7= .slice ba m bc->e 8= .i (m:Int)->e 9= .i (i:Int)->ZA (Fin prog Post X 0) 50 (base 76) cs e [.code Mm0,.inLoop Mm0,.inBlock 0] w1:=by
 intro k
 induction k with
 |zero=>
  intro i hk X R w1 hJ e s0 s7 s8 s9;obtain⟨hM,hrb,hlen,hRm,hBs,hU,jr0⟩:=hE.mem _ _ _ _ hJ;letI:Ctx prog:=D2 prog true;refine U352 ?_;intro hZ hb;rw[<- hrb]at s0;refine U199 ?_;have hg:=hM.rg;refine U153 ?_;refine U303 ?_;refine ZA.done hZ ?_;obtain rfl:i=m:=by omega
  exact ZA.leaves (fn:=Tryz.f76) (f:=76) rfl func76 rfl (hE.fin X R w1 hJ)
 |succ k ih=>
  intro i hk X R w1 hJ e s0 s7 s8 s9;obtain⟨hM,hrb,hlen,hRm,hBs,hU,jr0⟩:=hE.mem _ _ _ _ hJ;letI:Ctx prog:=D2 prog true;refine U352 ?_;intro hZ hb;rw[<- hrb]at s0;refine U199 ?_;have hg:=hM.rg;have O1:i<m:=by omega
  refine U153 ?_;refine U307 ?_;refine ZA.seq hZ<|U108 ?_;refine L.va (N3 rfl)<|L.va (Q7 (i:=i) rfl rfl underlying101 qf1 hE.sl O1)<|L.va (q0 (v:=fv i) rfl underlying72 rfl (jr0 i O1))<|L.va (fd0 rfl)<|L.va Q5<|U3 ?_;refine U4 ?_;refine L.va (N3 rfl)<|L.va (D3 rfl)<|L.makeChan rfl underlying246 ⟨_,sz4⟩ (fun w2 L2 hch tn1=>?_);obtain⟨rc,hrc⟩:∃rc,rc=w1.heap.size:=⟨_,rfl⟩
  have lrc:w1.heap.size <=rc:=Nat.le_of_eq hrc.symm;rw[<- hrc]at hch⊢;have hg:=hg.j0 L2;refine L.va (P2 (parts:=[(0,.tmp 14),(1,.tmp 15),(2,.tmp 16)]) rfl (tm1 (i:Int) ((pt R.rb)) (some rc)))<|L.box (cs:=(n5 0 rc).cells R.rb i) rfl rfl (fun w3 cb F=>?_);have lcb:w1.heap.size <=cb:=by have:=F.here;have:=L2.size;omega
  have X2:cb≠rc:=by have:=F.here;omega
  have hg:=hg.j0 F.below;have hch:=hch.j0 F.below;have hX:=S3 F.blk;have hBs:=Nat.le_trans hBs (Nat.le_trans L2.size F.below.size);clear F L2;refine U135 ?_;have hfb:∀k,R.fp k->k≠cb:=fun k hk e=>by have:=hM.lt hk;omega
  refine ZA.freeze (f:=(0,3)) (hU.lu0 lcb) hX ?_;have hg:=hg.fresh ((n5 0 rc).cells R.rb i) 248 (0,3) hfb lcb;have hch:ChanAt (V1 w3 cb ((n5 0 rc).cells R.rb i) 248 (0,3)) rc:=hch.grown (E2 _ _ _ _ _) (fun r e=>by cases e;exact⟨_,_,_,hX⟩);have hX:P1 (V1 w3 cb ((n5 0 rc).cells R.rb i) 248 (0,3)) cb ((n5 cb rc).cells R.rb R.cl.length) 248 (0,3):=by rw[hlen];exact L5 hX _ _ _
  rw[<- Y6 (w:=w3) (b:=cb) (cs:=(n5 0 rc).cells R.rb i) (T:=248) (f:=(0,3))]at hBs;generalize V1 w3 cb ((n5 0 rc).cells R.rb i) 248 (0,3)=w at *;have hZ:Ctx.Zs prog (Fin prog Post (X.lower cb) 0):=J6;refine U14 ?_;refine U194 ?_;refine L.va (q0 rfl underlying171 rfl (hg.m.run.E0 0 (v:=.slice R.ca R.cl.length R.cc) rfl))<|L.va (D3 rfl)<|L.cx0 (cs:=#[.p cb]) rfl rfl underlying171 Fv0 rfl ⟨_,fj1⟩ Ud (fun w b25 F25=>?_);have hBs:=Nat.le_trans hBs F25.below.size;have hg:=hg.j0 F25.below;have hch:=hch.j0 F25.below;have hX:=hX.j0 F25.below;have ou0:=F25.blk;have hX0:=hX;have hR:=hg.m.run;refine L.ja0 (B:=Bs) (m:=1) rfl rfl underlying171 Tl0 rfl Ud hg.m.cls (news:=[.p cb]) rfl (fun j u hj=>by
   rw[Addr.add_lit]
   match j,hj with
   |0,hj=>cases hj;exact ou0.E0 0 rfl) (fun u hu=>by simp only[List.mem_cons,List.not_mem_nil,or_false]at hu;subst hu;rfl) Uo Uo hBs (fun a26 c26 w2 hO j3 hli=>?_)
  have hch:=hch.grown j3 (bd1 hg.m.cls);have hX:=True.intro;have hR:=S2 hR j3 (V5 hg.m.cls Ud);refine L.va (j1 rfl)<|L.va (A0 rfl underlying173 rfl To0 Ud)<|L.yx1 hg (n5 cb rc) hX0 (.inr lcb) (by rw[hlen,hRm];exact O1) j3 hO hli rfl rfl To0 (fun w hg to1=>?_);have hch:=hch.grown to1 (fun r e=>by cases e;exact⟨_,_,_,hR⟩);clear to1 j3 hO hli;refine U13 ?_;refine ZA.seq hZ ?_;by_cases rv0:fv i= .nilFunc
  ·refine ZA.W hZ hb<|U139 ?_;refine L.va (dp0 (v:=fv i) (b:=true) rfl (.inl ⟨rv0,rfl⟩) rfl underlying72 ⟨_,_,_,rfl⟩)<|U57 ?_;refine U4 ?_;refine U308 ?_;refine L.va (A0 rfl underlying45 rfl Ji0 Ud)<|L.va (q0 rfl underlying37 rfl (hg.m.run.E0 3 (v:=.slice (pt R.eb) R.m R.m) rfl))<|L.va (N3 rfl)<|L.va (cb0 (i:=i) rfl rfl underlying37 sz3 (by rw[hRm];exact O1))<|L.stE (i:=i) hg (by show i<R.m;rw[hRm];exact O1) rfl rfl sz3 (fun w hg j3=>?_);clear j3;refine U3 ?_;refine ZA.exit hZ rfl<|U149 ?_;exact ih (i+1) Uo _ _ w (hE.nil i X R w1 w _ _ cb rc O1 hJ rv0 lcb lrc hg) _ (by rw[<- hrb];rfl) rfl rfl rfl
  ·refine ZA.W hZ hb<|U139 ?_;obtain⟨f,fn,caps,hfv,hff,hbd,hnm⟩:=(hE.fn i O1).resolve_left rv0;refine L.va (dp0 (v:=fv i) (b:=false) rfl (.inr ⟨_,_,_,hfv,rfl⟩) rfl underlying72 ⟨_,_,_,rfl⟩)<|U87 ?_;obtain⟨Zy0,Ln0,Cp0,hdn,O2,R9,hgo⟩:=hE.go i X R w1 w _ _ cb rc O1 hJ rv0 lcb lrc X2 hch hg;refine ZA.upto hZ hb 3 rfl rfl (R:=fun e' w'=>ZA _ _ _ _ e' _ w') ?_ (fun _ _ h=>h);refine U331 ?_;refine U526 ?_;refine ZA.call (i:=3) (rest:=[]) hZ hb (f:=60) (args:=#[.pointer (some ⟨R.rb,8,none⟩),.i 1]) rfl rfl (B2 rfl rfl func60 rfl re1 rfl) (fun a ha=>?_);have hXe:X.lower cb={X.lower cb with dn:=0}:=by show X.lower cb={X.lower cb with dn:=0};cases X;simp only[Gh.lower]at hdn⊢;subst hdn;rfl
   rw[hXe,hrb];refine Fin.ad1 (G:=⟨rb0,8⟩) (X:=X.lower cb) (K:=fun g'=>g'=_) Zy0 Ln0 Cp0 (fun g' hg'=>?_) _ _ _ (td1 ⟨rb0,8⟩ (fun g'=>g'=_) rfl);subst hg';refine ZA.home (i:=3) rfl rfl ha ?_;have hZ:Ctx.Zs prog (Fin prog Post {X.lower cb with pend:=1,cap:=(X.lower cb).cap+1,dn:=0} 0):=J6;refine U55 ?_;refine ZA.upto hZ hb 2 rfl rfl (R:=fun e' w'=>ZA _ _ _ _ e' _ w') ?_ (fun _ _ h=>h);refine U138 ?_;refine L.va G5<|U3 ?_;refine ZA.spawn (i:=2) (rest:=[]) (gr:=⟨rb0,8⟩) (vs:=#[.p cb,fv i]) (st:=[(⟨R.rb,7,none⟩,.chan (some R.yb))]) (K:=fun s=>s.ch=R.yb/\s.z= .i 0/\∀X' R' u v,J (i+1) X' R' u->Fin prog Post X' 0 (Go.Conc.served s.me v) u) (ft:=60) hb rfl (Wg.cn0 (vl:=[.p cb,fv i]) rfl) rfl rfl Zy0 O2 ?_ ?_ ?_
   ·have hY:=Dj0 (P:=prog) (main:=true) (l:=[((⟨R.rb,7,none⟩:Addr),Value.chan (some R.yb))]) (K:=fun s=>s.ch=R.yb/\s.z= .i 0/\∀X' R' u v,J (i+1) X' R' u->Fin prog Post X' 0 (Go.Conc.served s.me v) u);refine U324 ?_;refine U290 ?_;refine U274 ?_;refine Q0.W1 (E:=3) (z:=.i 0) hb underlying170 zr3 rfl (fun me hs=>⟨rfl,rfl,?_⟩) rfl;intro X' R' w v hJ';refine hs.go ?_;have hZ:Ctx.Zs prog (Fin prog Post X' 0):=J6;refine U321 ?_;refine U149 ?_;exact ih (i+1) Uo X' R' w hJ' _ (by rw[<- hrb];rfl) rfl rfl rfl
   ·rintro s2 ⟨h1,_,_⟩;rw[h1];exact R9
   ·rintro⟨ch,z,me⟩ ⟨h1,h2,h3⟩;cases h1;cases h2;exact hgo me h3
set_option maxRecDepth 20000 in
theorem bi1(hE:kb1 rb0 m ba fv Bs Post cs J)(hm1:m <=1000){X:Gh}{R:Rn}{w:World}(hJ:J 0 X R w):Fin prog Post X 0 (G (Frame.enter prog 76 #[.p rb0,.slice ba m bc] .normal) cs) w:=by
 obtain⟨hM,hrb,hlen,hRm,hBs,hU,jr0⟩:=hE.mem _ _ _ _ hJ;letI:Ctx prog:=D2 prog true;refine U352 ?_;intro hZ hb;rw[enter_at _ func76 rfl];rw[<- hrb];have hg:=hM.rg;refine(?_:ZA (Fin prog Post X 0) 50 (base 76) cs (Vc.cw0 #[.p R.rb,.slice ba m bc]) [.code (Tryz.f76.body.getD .skip)] w) _ (M8 _ _ rfl);refine U4 ?_;refine U192 ?_;refine U344 ?_;refine U336 ?_;exact Uu0 hE hm1 m 0 Uo X R w hJ _ (by rw[<- hrb];rfl) rfl rfl rfl
end
end
section
attribute [local irreducible] KK
noncomputable def Mn0:Code:=match Tryz.f41.body with|some (.seq _ (.seq _ (.seq _ (.seq _ (.seq _ (.seq _ (.seq _ (.seq (.seq _ (.block _ (.loop c))) _))))))))=>c|_=>.skip
noncomputable def Dn0:Code:=match Tryz.f41.body with|some (.seq _ (.seq _ (.seq _ (.seq _ (.seq _ (.seq _ (.seq _ (.seq _ c))))))))=>c|_=>.skip
def rn0(rb yb eb wb m:Nat):Rn:=⟨rb,yb,eb,wb,m,none,0,[],none,0,[],none,0,[],List.replicate m 0,List.replicate m sp0,false,0⟩
def ax0(e:Int)(n:Nat):Nat:=(e%(n:Int)).toNat
theorem Pa0(e:Int){n:Nat}(hn:0<n):ax0 e n<n:=by
 have h1:=Int.emod_nonneg e (b:=(n:Int)) Uo;have h2:=Int.emod_lt_of_pos e (b:=(n:Int)) Uo;unfold ax0;omega
theorem tq1(e:Int){n:Nat}(hn:0<n):(e.tmod (n:Int)+(n:Int)).tmod (n:Int)=((ax0 e n:Nat):Int):=by
 have h1:=Int.emod_nonneg e (b:=(n:Int)) Uo;have h2:=Int.emod_lt_of_pos e (b:=(n:Int)) Uo;have h3:-(n:Int)<e.tmod (n:Int):=by
  have:=Int.lt_tmod_of_pos e (b:=(n:Int)) Uo;omega
 have h4:((ax0 e n:Nat):Int)=e%(n:Int):=by unfold ax0;omega
 rw[h4,Int.tmod_eq_emod_of_nonneg Uo,Int.add_emod_right];rw[Int.tmod_eq_emod];split
 ·simp
 ·rw[Int.sub_emod,Int.emod_emod];have:(((n:Int).natAbs:Int))%(n:Int)=0:=by simp
  rw[this,Int.sub_zero,Int.emod_emod]
theorem Mo0(e:Int){n:Nat}(hn:0<n)(h:n <=1000):-1000 <=e.tmod (n:Int)/\e.tmod (n:Int) <=1000:=by
 have h1:=Int.lt_tmod_of_pos e (b:=(n:Int)) Uo;have h2:=Int.tmod_lt_of_pos e (b:=(n:Int)) Uo;omega
structure Uv0(rb0 m sn tb:Nat)(ba sa:Option Addr)(fv:Nat->Value)(sc:Nat->Int)(Bs:Nat)(Post:Value->World->Prop)(JB J2 JE:Nat->Gh->Rn->World->Prop)(rr:Nat->Nat->Bool):Prop where
 beg:∀cs,(∀X R w,JB m X R w->∀fr,fr.fn=76->Leaves prog fr w (.returned (.tuple #[]))->Fin prog Post X 0 (G fr cs) w)->kb1 rb0 m ba fv Bs Post cs JB
 b2s:∀X R w,JB m X R w->J2 0 X R w
 ssl:SL sa sn
 mem:∀n X R w,J2 n X R w->B5 w Bs R/\R.rb=rb0/\R.cl.length=m/\Bs <=w.heap.size/\R.evs.length <=1000000/\R.used <=1000000/\(∀(i:Nat)(c:CB),R.cl[i]? =some c->c.X1 <=1000000)/\∀j,j<sn->w.cell? ⟨ab sa,ao sa+j*1,none⟩=some (.i (sc j))
 j0:∀n X R w w',J2 n X R w->Below w.heap.size w w'->J2 n X R w'
 rdy:∀n X R w,J2 n X R w->∀(i:Nat)(c:CB),R.cl[i]? =some c->c.wt=true->@Di0 (D2 prog true) w c.rf (rr n i)
 pick:∀n X R w i c,J2 n X R w->n<sn->(rdl R.cl (rr n) m)[ax0 (sc n) (rdl R.cl (rr n) m).length]? =some i->R.cl[i]? =some c->∃g z1 me1,g≠0/\X.W1 g=some ⟨c.rc,z1,me1⟩/\X.dn=0/\X.stay 0=[(⟨R.rb,7,none⟩,.chan (some R.yb))]/\(X.chs R.yb/\∀i s2,i≠g->X.W1 i=some s2->s2.ch≠R.yb) /\
  ∀w' a nn me0,Rg R.fp w.heap.size w w' Bs {R with ea:=a,ec:=nn,evs:=R.evs ++ [(i,c.sp)],used:=R.used+1,cl:=R.cl.set i {c with X1:=c.X1+1,wt:=false}}->(∀X' R' u v,J2 (n+1) X' R' u->Fin prog Post X' 0 (Go.Conc.served me0 v) u)->Fin prog Post (X.pass 0 g (some ⟨R.yb,.i 0,me0⟩)) g (Go.Conc.served me1 (.bool true)) w'
 toE:∀n X R w w' b,J2 n X R w->(n=sn\/rdl R.cl (rr n) m=[])->b=(R.cl.any (·.wt)&&(rdl R.cl (rr n) m).isEmpty)->Rg R.fp w.heap.size w w' Bs {R with stuck:=b}->JE 0 X {R with stuck:=b} w'
 en:∀ca cc cs,(∀X R w,JE m X R w->R.ca=ca->R.cc=cc->∀fr,fr.fn=80->Leaves prog fr w (.returned (.tuple #[]))->Fin prog Post {X with pend:=0,cap:=0,dn:=0} 0 (G fr cs) w)->bh1 rb0 m ca cc Bs Post cs (fun i X R w=>JE i X R w/\R.ca=ca/\R.cc=cc)
 za1:∀X R w,JE m X R w->B5 w Bs R/\R.rb=rb0/\P1 w tb #[.slice none 0 0,.slice none 0 0,.slice none 0 0,.slice none 0 0,.bool false,.i 0] 45 (0,0)
abbrev Uw0(R:Rn):Value:=.agg #[.slice R.ea R.evs.length R.ec,.slice R.na R.nts.length R.nc,.slice (pt R.eb) R.m R.m,.slice (pt R.wb) R.m R.m,.bool R.stuck,.i (R.used:Int)]
structure bj1(m tb:Nat)(Post:Value->World->Prop)(cs:List Frame)(JE:Nat->Gh->Rn->World->Prop):Prop where
 ret:∀X R w w' fr,JE m X R w->w.grownBy w' (some tb)->fr.fn=41->Leaves prog fr w' (.returned (.tuple #[Uw0 R,.i 0]))->Fin prog Post {X with pend:=0,cap:=0,dn:=0} 0 (G fr cs) w'
theorem tk0{Z:Goroutine->World->Prop}{n:Nat}{cs:List Frame}{e:Env}{w:World}{t u b:Nat}{T E:TypeId}{fn:Func}{f:FuncId}{cells:Array Value}{d:TypeDesc}{v:Value}(hf:prog.funcs[f]? =some fn)(hr:fn.results=#[.cell t T,.tmp u])(he:e t= .p b)(hu0:e u=v)(hT:prog.underlying T=some d)(hu:bm0 d=false)(hB:I0 w b cells E)(hs:(prog.info? T).map (·.size)=some cells.size)
  (h:∀fr,fr.fn=f->Leaves prog fr w (.returned (.tuple #[.agg cells,v]))->Z (G fr cs) w):ZR Z n (base f) cs e w:=by
 intro todo a ha;letI:Ctx prog:=D2 prog true;have h1:ends prog fn (fun v' w'=>v'= .tuple #[.agg cells,v]/\w'=w) .ret e w:=ends.aq1 (.inr rfl) hr he hT hu hs hB ⟨by rw[hu0],rfl⟩;obtain⟨_,v',h2,h3,h4⟩:=h1;subst h3;refine h _ rfl ⟨rfl,ha.defers,rfl,fn,hf,?_⟩;exact h2 _ ha.get
noncomputable def bk1:Code:=match Dn0 with| .seq _ (.seq _ c)=>c|_=>.skip
section
variable{cl:List CB}{r:Nat->Bool}{m j i rb0 sn tb Bs:Nat}{ba sa:Option Addr}{fv:Nat->Value}{sc:Nat->Int}{Post:Value->World->Prop}{cs:List Frame}{rr:Nat->Nat->Bool}{X:Gh}{R:Rn}{w:World}{e:Env}
theorem Ux0{l:List Nat}(n:Nat)(h:l.length=n:=by rfl):decide (((n:Nat):Int)=0)=l.isEmpty:=by
 subst h;cases l <;> simp
 omega
theorem kc1(h:(rdl cl r m)[j]? =some i):∃c,cl[i]? =some c:=by
 have:=List.mem_of_getElem? h;simp only[rdl,List.mem_filter,Bool.and_eq_true]at this;cases hc:cl[i]? with
 |none=>rw[hc]at this;simp at this
 |some c=>exact⟨c,rfl⟩
theorem Uy0{c:CB}(h:(rdl cl r m)[j]? =some i)(hc:cl[i]? =some c):((rdl cl r m).map (Ug0 cl))[j]? =some (.p c.cb):=by
 rw[List.getElem?_map,h];simp[Ug0,hc]
set_option maxRecDepth 20000 in
theorem bl1{JB J2 JE:Nat->Gh->Rn->World->Prop}(hE:Uv0 rb0 m sn tb ba sa fv sc Bs Post JB J2 JE rr)(hT:bj1 m tb Post cs JE)(hJ:JE m X R w){ops:Array Oper}(s6:e 6= .p rb0)(s4:e 4= .p tb):ZA (Fin prog Post {X with pend:=0,cap:=0,dn:=0} 0) 83 (base 41) cs e [.inRegion ops [],.code bk1] w:=by
 obtain⟨hM,hrb,hT0⟩:=hE.za1 _ _ _ hJ;letI:Ctx prog:=D2 prog true;have hZ:Ctx.Zs prog (Fin prog Post {X with pend:=0,cap:=0,dn:=0} 0):=J6;have hb:=J1 41;rw[<- hrb]at s6;rw[L0 s6,L0 s4];clear s6 s4;refine ZA.Y4 hZ<|U4 ?_;refine U308 ?_;refine L.va (A2 (cs:=[.slice R.ea R.evs.length R.ec,.slice R.na R.nts.length R.nc,.slice (pt R.eb) R.m R.m,.slice (pt R.wb) R.m R.m,.bool R.stuck,.i (R.used:Int)]) rfl underlying45 rfl nn0 rfl (hM.run.R7 rfl))<|L.put (b:=tb) (o:=0) (s:=6) (vs:=[.slice R.ea R.evs.length R.ec,.slice R.na R.nts.length R.nc,.slice (pt R.eb) R.m R.m,.slice (pt R.wb) R.m R.m,.bool R.stuck,.i (R.used:Int)]) #[.slice R.ea R.evs.length R.ec,.slice R.na R.nts.length R.nc,.slice (pt R.eb) R.m R.m,.slice (pt R.wb) R.m R.m,.bool R.stuck,.i (R.used:Int)] rfl rfl rfl nn0 rfl rfl hT0 (Nat.le_of_ble_eq_true rfl) rfl (fun w2 hB j3 H2=>?_);refine U341 ?_;exact ZA.ret hZ<|tk0 (u:=5) (v:=.i 0) func41 rfl rfl rfl underlying45 rfl hB nn0 (fun fr h8 h9=>hT.ret X R w w2 fr hJ j3 h8 h9)
set_option maxRecDepth 20000 in
theorem Gb0{JB J2 JE:Nat->Gh->Rn->World->Prop}(hE:Uv0 rb0 m sn tb ba sa fv sc Bs Post JB J2 JE rr)(hT:bj1 m tb Post cs JE)(hm1:m <=16)(hs1:sn <=1000000){n:Nat}(hJ:J2 n X R w)(hn:n=sn\/rdl R.cl (rr n) m=[])(s6:e 6= .p rb0)(s4:e 4= .p tb):ZA (Fin prog Post X 0) 83 (base 41) cs e [.code Dn0] w:=by
 obtain⟨hM,hrb,hlen,hBs,hev,hus,hpk,jr0⟩:=hE.mem _ _ _ _ hJ;letI:Ctx prog:=D2 prog true;refine U220 ?_;intro hZ hb;rw[<- hrb]at s6;rw[L0 s6,L0 s4];clear s6 s4;have hg:=hM.rg;refine U14 ?_;refine L.va (D3 rfl)<|L.call (N2 rfl func79 rfl yo1 rfl) (Jl0 R Bs w hM Uo) ?_;rintro _ w1 ⟨rfl,hw⟩;refine U29 ?_;by_cases bm1:R.cl.any (·.wt)=true
 ·rw[bm1];refine U40 ?_;refine L.call (N2 rfl func77 rfl ri1 rfl) (Au0 R Bs w hM Uo (rr n) (hE.rdy n X R w hJ)) ?_;rintro _ w2 ⟨la,lc,rfl,hO,L2⟩;rw[hlen];have hg:=hg.j0 L2;refine L.on rfl<|L.va (A7 rfl underlying171 rfl)<|U322 ?_;refine L.va (k7 rfl)<|U535 ?_;refine L.stR (o:=5) (vs:=[.bool (decide ((((rdl R.cl (rr n) m).length:Nat):Int)=0))]) hg (decide ((((rdl R.cl (rr n) m).length:Nat):Int)=0)) R.used rfl rfl rfl sz4 rfl rfl Ud rfl (fun w hg j3=>?_);clear j3;refine U3 ?_;have hJE:=hE.toE n X R _ w _ hJ hn (by rw[bm1,Bool.true_and];exact Ux0 _) hg;refine ZA.seq hZ<|ZA.upto hZ hb 1 rfl rfl (R:=fun e' w'=>ZA _ _ _ _ e' _ w') ?_ (fun _ _ h=>h);refine U138 ?_;refine U494 ?_;intro a ha;rw[hrb];refine Ml0 (hE.en R.ca R.cc _ (fun X' R' u hJ' hca hcc fr h8 h9=>?_)) Uo ⟨hJE,rfl,rfl⟩;exact U496
 ·rw[show R.cl.any (·.wt)=false by simpa using bm1];refine U147 ?_;refine L.va (H7 rfl)<|U535 ?_;refine L.stR (o:=5) (vs:=[.bool false]) hg false R.used rfl rfl rfl sz4 rfl rfl Ud rfl (fun w hg j3=>?_);clear j3;refine U3 ?_;have hJE:=hE.toE n X R _ w _ hJ hn (by rw[show R.cl.any (·.wt)=false by simpa using bm1];rfl) hg;refine ZA.seq hZ<|ZA.upto hZ hb 1 rfl rfl (R:=fun e' w'=>ZA _ _ _ _ e' _ w') ?_ (fun _ _ h=>h);refine U138 ?_;refine U494 ?_;intro a ha;rw[hrb];refine Ml0 (hE.en R.ca R.cc _ (fun X' R' u hJ' hca hcc fr h8 h9=>?_)) Uo ⟨hJE,rfl,rfl⟩;exact U496
set_option maxRecDepth 20000 in
theorem Uz0{JB J2 JE:Nat->Gh->Rn->World->Prop}(hE:Uv0 rb0 m sn tb ba sa fv sc Bs Post JB J2 JE rr)(hT:bj1 m tb Post cs JE)(hm1:m <=16)(hs1:sn <=1000000){scp:Nat}:∀(k n:Nat),n+k=sn->∀X R w,J2 n X R w->∀e:Env,e 6= .p rb0->e 39= .slice sa sn scp->e 40= .i (sn:Int)->e 41= .i (n:Int)->e 4= .p tb->e 1= .slice sa sn scp->ZA (Fin prog Post X 0) 83 (base 41) cs e [.code Mn0,.inLoop Mn0,.inBlock 0,.code Dn0] w:=by
 intro k
 induction k with
 |zero=>
  intro n hk X R w hJ e s6 s39 s40 s41 s4 s1;obtain⟨hM,hrb,hlen,hBs,hev,hus,hpk,jr0⟩:=hE.mem _ _ _ _ hJ;letI:Ctx prog:=D2 prog true;refine U220 ?_;intro hZ hb;rw[<- hrb]at s6;refine U490 ?_;refine U153 ?_;refine U303 ?_;obtain rfl:n=sn:=by omega
  exact Gb0 hE hT hm1 hs1 hJ (.inl rfl) (by rw[<- hrb];rfl) rfl
 |succ k ih=>
  intro n hk X R w hJ e s6 s39 s40 s41 s4 s1;obtain⟨hM,hrb,hlen,hBs,hev,hus,hpk,jr0⟩:=hE.mem _ _ _ _ hJ;letI:Ctx prog:=D2 prog true;refine U220 ?_;intro hZ hb;rw[<- hrb]at s6;refine U490 ?_;have O1:n<sn:=by omega
  refine U153 ?_;refine U307 ?_;refine ZA.seq hZ<|U108 ?_;refine L.va (Q7 (i:=n) rfl rfl underlying37 sz3 hE.ssl O1)<|L.va (q0 (v:=.i (sc n)) rfl underlying3 rfl (jr0 n O1))<|U341 ?_;refine U14 ?_;refine L.call (N2 rfl func77 rfl ri1 rfl) (Au0 R Bs w hM Uo (rr n) (hE.rdy n X R w hJ)) ?_;rintro _ w2 ⟨la,lc,rfl,hO,L2⟩;rw[hlen]at hO⊢;have hJ:=hE.j0 n X R w w2 hJ L2;clear hM hBs jr0 L2;clear hev hus hpk;obtain⟨hM,_,_,hBs,hev,hus,hpk,jr0⟩:=hE.mem _ _ _ _ hJ;refine L.va (kg0 rfl)<|U13 ?_;refine U554 ?_;refine L.va (dy0 rfl rfl)<|U3 ?_;by_cases hnl:(rdl R.cl (rr n) m).length=0
  ·exact ZA.v8 hZ (rb (decide_eq_true Uo))<|ZA.exit hZ rfl<|Gb0 hE hT hm1 hs1 hJ (.inr (List.eq_nil_of_length_eq_zero hnl)) (by rw[<- hrb];rfl) rfl
  ·refine ZA.X6 hZ (rb (decide_eq_false Uo))<|ZA.skip hZ<|U554 ?_;refine U341 ?_;have hln:(rdl R.cl (rr n) m).length <=16:=Nat.le_trans (Jk0 m) hm1;have htb:=Mo0 (sc n) (n:=(rdl R.cl (rr n) m).length) Uo Uo;have hpl:=Pa0 (sc n) (n:=(rdl R.cl (rr n) m).length) Uo;obtain⟨i,hi⟩:∃i,(rdl R.cl (rr n) m)[ax0 (sc n) (rdl R.cl (rr n) m).length]? =some i:=⟨_,List.getElem?_eq_getElem hpl⟩
   obtain⟨c,hc⟩:=kc1 hi;refine ZA.upto hZ hb 11 rfl rfl (R:=fun e' w'=>ZA _ _ _ _ e' _ w') ?_ (fun _ _ h=>h);refine U138 ?_;refine U291 ?_;refine L.va (N3 rfl)<|L.va (na0 rfl rfl Uo)<|L.va (N3 rfl)<|U200 ?_;refine L.va (v:=.i ((ax0 (sc n) (rdl R.cl (rr n) m).length:Nat):Int)) (by rw[<- tq1 (sc n) (n:=(rdl R.cl (rr n) m).length) Uo];exact na0 rfl rfl Uo)<|L.va (Q7 (i:=ax0 (sc n) (rdl R.cl (rr n) m).length) rfl rfl underlying171 Fv0 hO.sl hpl)<|L.va (q0 (v:=.p c.cb) rfl underlying123 rfl (by rw[hO.off,Nat.zero_add,Nat.mul_one];exact hO.cell (Uy0 hi hc)))<|U3 ?_;obtain⟨g,z1,me1,hg0,hX0,hdn,O2,R9,y7⟩:=hE.pick n X R w2 i c hJ O1 hi hc;refine ZA.call (i:=11) (rest:=[]) hZ hb (f:=78) (args:=#[.p R.rb,.p c.cb]) rfl rfl (B2 rfl rfl func78 rfl yn1 rfl) (fun a ha=>?_);refine Ur0 hM.rg hBs hc hev (hpk i c hc) hus hg0 hX0 hdn O2 R9 (fun w' a' nn me0 hg hme=>y7 w' a' nn me0 hg (fun X' R' u v hJ'=>hme _ J6 u v fun fr h8 h9=>?_));refine ZA.back (im0 prog Post X' 0) (i:=11) rfl rfl ha h9 ?_;have hZ:Ctx.Zs prog (Fin prog Post X' 0):=J6;refine U321 ?_;refine U149 ?_;exact ih (n+1) Uo X' R' u hJ' _ (by rw[<- hrb];rfl) rfl rfl rfl rfl rfl
end
end
section
attribute [local irreducible] KK
theorem Va0(m:Nat):(Array.replicate (m*1) (Value.i 0))=((List.replicate m (0:Int)).map (Value.int .i64)).toArray:=by
 rw[Nat.mul_one];apply Array.toList_inj.1;simp
theorem Vb0(m:Nat):(Array.replicate (m*3) (Value.i 0))=((List.replicate m sp0).flatMap spC).toArray:=by
 apply Array.toList_inj.1;simp only[Array.toList_replicate]
 induction m with
 |zero=>rfl
 |succ m ih=>
  rw[List.replicate_succ,List.flatMap_cons,<- ih,Nat.succ_mul,Nat.add_comm (m*3) 3,<- List.replicate_append_replicate];rfl
structure gl1(w0 w:World)(rb yb eb wb tb m:Nat):Prop where
 mem:B5 w w0.heap.size (rn0 rb yb eb wb m)
 low:Below w0.heap.size w0 w
 le:w0.heap.size <=rb/\w0.heap.size <=yb/\w0.heap.size <=eb/\w0.heap.size <=wb/\w0.heap.size <=tb
 yb:w.heap[yb]? =some nothing
 tb:P1 w tb #[.slice none 0 0,.slice none 0 0,.slice none 0 0,.slice none 0 0,.bool false,.i 0] 45 (0,0)
theorem tr1(x0:Option Nat):prog.built 173 [(2,.chan x0)]=some #[.slice none 0 0,.slice none 0 0,.slice none 0 0,.slice none 0 0,.slice none 0 0,.bool false,.i 0,.chan x0,.int .u64 0,.int .u32 0]:=by kernel_rfl
set_option maxRecDepth 20000 in
theorem bn1{ba sa:Option Addr}{m bc sn scp:Nat}{fv:Nat->Value}{sc:Nat->Int}{Post:Value->World->Prop}{cs:List Frame}{X:Gh}{w0:World}(hm1:m <=16)(hs1:sn <=262144)(hU:X.gh0 w0.heap.size)(hpl:∀b,w0.heap.size <=b->X.D7 b= .all)(Cp0:X.cap=0)
  (ts1:∀w4 rb yb eb wb tb,gl1 w0 w4 rb yb eb wb tb m->∃JB J2 JE rr,Uv0 rb m sn tb ba sa fv sc w0.heap.size Post JB J2 JE rr/\bj1 m tb Post cs JE/\JB 0 (Dm0 X rb yb 8) (rn0 rb yb eb wb m) w4) :
  Fin prog Post X 0 (G (Frame.enter prog 41 #[.slice ba m bc,.slice sa sn scp] .normal) cs) w0:=by
 letI:Ctx prog:=D2 prog true;refine U220 ?_;intro hZ hb;rw[enter_at _ func41 rfl];refine(?_:ZA (Fin prog Post X 0) 83 (base 41) cs (Vc.cw0 #[.slice ba m bc,.slice sa sn scp]) [.code (Tryz.f41.body.getD .skip)] w0) _ (M8 _ _ rfl);have hb0:Below w0.heap.size w0 w0:=Below.refl _ _;refine U4 ?_;refine L.alloc (cs:=#[.slice none 0 0,.slice none 0 0,.slice none 0 0,.slice none 0 0,.bool false,.i 0]) Th0 rfl (fun w b4 F4=>?_);have lt4:=F4.lq hb0.size;have hb0:=B0 hb0 F4.below;have L1:=F4.blk;refine U221 ?_;refine U4 ?_;refine U192 ?_;refine L.va (lr0 rfl rfl)<|U3 ?_;refine U529 ?_;refine ZA.seq hZ<|U320 ?_;refine L.va (A7 rfl underlying37 rfl)<|L.va (lr0 rfl rfl)<|U3 ?_;refine U529 ?_;refine U4 ?_;refine L.makeChan rfl underlying170 ⟨_,sz3⟩ (fun w1 L2 hch kd1=>?_);obtain⟨yb,hyb⟩:∃yb,yb=w.heap.size:=⟨_,rfl⟩
 have ke1:w0.heap.size <=yb:=by rw[hyb];exact hb0.size
 rw[<- hyb]at hch⊢;have hb0:=B0 hb0 L2;have L1:=L1.j0 L2;clear L2 kd1 hyb
 rename World=>w
 refine L.va (P2 (parts:=[(2,.tmp 19)]) rfl (tr1 (some yb)))<|L.box (cs:=#[.slice none 0 0,.slice none 0 0,.slice none 0 0,.slice none 0 0,.slice none 0 0,.bool false,.i 0,.chan (some yb),.int .u64 0,.int .u32 0]) rfl rfl (fun w b21 F21=>?_);have Vc0:=F21.lq hb0.size;have hb0:=B0 hb0 F21.below;have L1:=L1.j0 F21.below;have hch:=hch.j0 F21.below;have fx0:=F21.blk;refine U135 ?_;refine U14 ?_;refine U192 ?_;refine L.make (m:=m) rfl rfl underlying37 in3 (z0:=.i 0) rfl Ud Uo Uo (fun w b25 F25=>?_);have zb1:=F25.lq hb0.size;have hb0:=B0 hb0 F25.below;have L1:=L1.j0 F25.below;have hch:=hch.j0 F25.below;have fx0:=fx0.j0 F25.below;have ou0:=F25.blk;have ou0:I0 w b25 (Array.replicate (m*1) (.i 0)) 3:=ou0;refine U95 ?_;refine L.va (A0 rfl underlying45 rfl Ji0 Ud)<|L.pu 3 [.slice (pt b25) m m] #[.slice none 0 0,.slice none 0 0,.slice none 0 0,.slice (pt b25) m m,.slice none 0 0,.bool false,.i 0,.chan (some yb),.int .u64 0,.int .u32 0] Ji0 fx0 (fun w G1 hg H2=>?_);refine U524 ?_;intro L1 hch;have ou0:=ou0.other hg (I0.ne ou0 fx0 Ud);have hb0:=W3 hb0 hb0.size hg Vc0;have o6:=True.intro;have fx0:=G1;clear o6;refine U3 ?_;refine U14 ?_;refine U192 ?_;refine L.make (m:=m) rfl rfl underlying43 xh1 (z0:=.i 0) rfl Ud Uo Uo (fun w b32 F32=>?_);have zc1:=F32.lq hb0.size;have hb0:=B0 hb0 F32.below;have L1:=L1.j0 F32.below;have hch:=hch.j0 F32.below;have fx0:=fx0.j0 F32.below;have ou0:=ou0.j0 F32.below;have Pb0:=F32.blk;have Pb0:I0 w b32 (Array.replicate (m*3) (.i 0)) 65:=Pb0;refine U95 ?_;refine L.va (A0 rfl underlying45 rfl jm1 Ud)<|L.pu 4 [.slice (pt b32) m m] #[.slice none 0 0,.slice none 0 0,.slice none 0 0,.slice (pt b25) m m,.slice (pt b32) m m,.bool false,.i 0,.chan (some yb),.int .u64 0,.int .u32 0] jm1 fx0 (fun w G1 hg H2=>?_);refine U524 ?_;intro L1 hch;have ou0:=ou0.other hg (I0.ne ou0 fx0 Ud);have Pb0:=Pb0.other hg (I0.ne Pb0 fx0 Ud);have hb0:=W3 hb0 hb0.size hg Vc0;have o6:=True.intro;have fx0:=G1;clear o6;refine U3 ?_;have fx0:I0 w b21 (#[.slice none 0 0,.slice none 0 0,.slice none 0 0,.slice (pt b25) m m,.slice (pt b32) m m,.bool false,.i 0,.chan (some yb)] ++ #[.int .u64 0,.int .u32 0]) 173:=fx0;have X2:yb≠b21:=fun e=>by subst e;unfold ChanAt at hch;unfold I0 at fx0;rw[hch]at fx0;cases fx0
 refine ZA.begin Cp0 (hU.mono Vc0) (hU.mono ke1) (hpl _ Vc0) (hpl _ ke1) hch fx0 (Nat.zero_lt_succ _) rfl ?_;show ZA (Fin prog Post (Dm0 X b21 yb 8) 0) _ _ _ _ _ (V1 (V2 w yb nothing) b21 _ _ (7,8));have hX:X.gh0 w0.heap.size:=hU;have hap:∀(b:Nat)(cs:Array Value)(T:TypeId),I0 w b cs T->T≠173->P1 (V1 (V2 w yb nothing) b21 #[.slice none 0 0,.slice none 0 0,.slice none 0 0,.slice (pt b25) m m,.slice (pt b32) m m,.bool false,.i 0,.chan (some yb)] 173 (7,8)) b cs T (0,0):=fun b cs T h hT=>by
  have h1:b≠b21:=I0.ne h fx0 hT;have h2:yb≠b:=fun e=>by subst e;unfold ChanAt at hch;unfold I0 at h;rw[hch]at h;cases h
  unfold P1;rw[B9 h1,G7 _ _ h2];exact h
 have zd1:gl1 w0 (V1 (V2 w yb nothing) b21 #[.slice none 0 0,.slice none 0 0,.slice none 0 0,.slice (pt b25) m m,.slice (pt b32) m m,.bool false,.i 0,.chan (some yb)] 173 (7,8)) b21 yb b25 b32 b4 m:=by
  have H2:b21<(V2 w yb nothing).heap.size:=by have:=fx0.lt;simpa [V2]using this
  refine⟨⟨?_,Own.nil _ _ _ _,Own.nil _ _ _ _,Own.nil _ _ _ _,?_,?_,by simp[rn0],by simp[rn0],Nat.zero_le _,fun i c hc=>by simp[rn0]at hc⟩,⟨hb0.os,hb0.tape,hb0.output,by rw[Y6];simpa [V2]using hb0.size,fun k hk=>?_⟩,⟨Vc0,ke1,zb1,zc1,lt4⟩,?_,hap _ _ _ L1 Ud⟩
  ·simp[P1,V1,H2,rn0,Rn.cells]
  ·have:=hap _ _ _ ou0 Ud;rw[Va0]at this;exact this
  ·have:=hap _ _ _ Pb0 Ud;rw[Vb0]at this;exact this
  ·rw[B9 Uo,G7 _ _ Uo];exact hb0.block k hk
  ·rw[B9 X2];exact Q8 w hch
 obtain⟨JB,J2,JE,rr,hE,hT,hJ0⟩:=ts1 _ _ _ _ _ _ zd1;generalize V1 (V2 w yb nothing) b21 #[.slice none 0 0,.slice none 0 0,.slice none 0 0,.slice (pt b25) m m,.slice (pt b32) m m,.bool false,.i 0,.chan (some yb)] 173 (7,8)=w4 at *;have hZ:Ctx.Zs prog (Fin prog Post (Dm0 X b21 yb 8) 0):=J6;refine ZA.seq hZ<|ZA.upto hZ hb 2 rfl rfl (R:=fun e' w'=>ZA _ _ _ _ e' _ w') ?_ (fun _ _ h=>h);refine U138 ?_;refine L.va (dx0 rfl)<|U3 ?_;refine ZA.call (i:=2) (rest:=[]) hZ hb (f:=76) (args:=#[.p b21,.slice ba m bc]) rfl rfl (B2 rfl rfl func76 rfl ym1 rfl) (fun a ha=>?_);refine bi1 (hE.beg _ (fun X' R' u hJ' fr h8 h9=>?_)) Uo hJ0;have hZ:Ctx.Zs prog (Fin prog Post X' 0):=J6;refine ZA.back (im0 prog Post X' 0) (i:=2) rfl rfl ha h9<|U55 ?_;refine U320 ?_;refine L.va (A7 rfl underlying37 rfl)<|U344 ?_;refine U336 ?_;exact Uz0 hE hT hm1 Uo sn 0 Uo X' R' u (hE.b2s _ _ _ hJ') _ rfl rfl rfl rfl rfl rfl
end
end Go.Vy.Sc
end
section
namespace Go.Vy.Sc
open Go Go.Conc Go.Yc Go.RowKit Go.Proofs Go.Proofs.YtinppmaojmdmhaaGreat Tryz
open Go.Vc Go.Wg
attribute [local irreducible] KK
structure Sys where
 S:Type
 L:Type
 m:Nat
 s0:S
 nil:Nat->Bool
 stp:Nat->L->Stp
 rdy:Nat->L->S->Bool
 beg:Nat->S->I6 S L
 go:Nat->L->S->I6 S L
 le:Nat->Gm->Gm->Prop
 Inv:S->Gm->World->(Nat->Prop)->Prop
 lb:Nat
 pl:Nat->O7
structure PR(Y:Sys) where
 s:Y.S
 ft:List (Y.L ⊕ Nat)
 evs:List (Nat×Stp)
 nts:List (Nat×Nat×Nte)
 outs:List (I6 Y.S Y.L)
 who:List (Option Nat)
 used:Nat
def tell(i n:Nat)(l:List Nte):List (Nat×Nat×Nte):=l.map fun k=>(n,i,k)
namespace Sys
section
variable(Y:Sys)
def p0:PR Y:=⟨Y.s0,[],[],[],[],[],0⟩
def bgn(p:PR Y):PR Y:=if Y.nil p.ft.length then{p with ft:=p.ft ++ [.inr 1]} else
 {p with s:=(Y.beg p.ft.length p.s).s,ft:=p.ft ++ [(Y.beg p.ft.length p.s).X4],nts:=p.nts++tell p.ft.length p.evs.length (Y.beg p.ft.length p.s).nts,outs:=p.outs ++ [Y.beg p.ft.length p.s],who:=p.who ++ [none]}
def I5:Nat->PR Y
 |0=>Y.p0
 |n+1=>Y.bgn (I5 n)
def n6(p:PR Y)(i:Nat):PR Y:=match p.ft[i]? with
 |some (.inl l)=>{p with s:=(Y.go i l p.s).s,ft:=p.ft.set i (Y.go i l p.s).X4,evs:=p.evs ++ [(i,Y.stp i l)],nts:=p.nts++tell i (p.evs.length+1) (Y.go i l p.s).nts,outs:=p.outs ++ [Y.go i l p.s],who:=p.who ++ [some i],used:=p.used+1}
 |_=>p
def kn0(p:PR Y)(i:Nat):Bool:=match p.ft[i]? with
 |some (.inl l)=>Y.rdy i l p.s
 |_=>false
def rds(p:PR Y):List Nat:=(List.range Y.m).filter (Y.kn0 p)
def step(p:PR Y)(e:Int):PR Y:=match(Y.rds p)[ax0 e (Y.rds p).length]? with
 |some i=>Y.n6 p i
 |none=>p
def pn(sc:Nat->Int):Nat->PR Y
 |0=>Y.I5 Y.m
 |n+1=>Y.step (pn sc n) (sc n)
def o0:I6 Y.S Y.L:=⟨Y.s0,[],.inr 0⟩
def k5(q:PR Y)(t:Nat):I6 Y.S Y.L:=(q.outs[t]?).getD Y.o0
def sAt(q:PR Y):Nat->Y.S
 |0=>Y.s0
 |t+1=>(Y.k5 q t).s
def X1(q:PR Y)(i t:Nat):Nat:=(q.who.take (t+1)).count (some i)
structure Le(p q:PR Y):Prop where
 outs:p.outs <+: q.outs
 who:p.who <+: q.who
theorem Le.refl(p:PR Y):Y.Le p p:=⟨List.prefix_refl _,List.prefix_refl _⟩
variable{Y}
theorem Le.trans{p q r:PR Y}(h:Y.Le p q)(h':Y.Le q r):Y.Le p r:=⟨h.outs.trans h'.outs,h.who.trans h'.who⟩
theorem kf1(p:PR Y):Y.Le p (Y.bgn p):=by
 unfold bgn;split
 ·exact⟨List.prefix_refl _,List.prefix_refl _⟩
 ·exact⟨List.prefix_append _ _,List.prefix_append _ _⟩
theorem bo1(p:PR Y)(i:Nat):Y.Le p (Y.n6 p i):=by
 unfold n6;split
 ·exact⟨List.prefix_append _ _,List.prefix_append _ _⟩
 ·exact Le.refl Y p
theorem le_step(p:PR Y)(e:Int):Y.Le p (Y.step p e):=by
 unfold step;split
 ·exact bo1 p _
 ·exact Le.refl Y p
theorem bp1{n k:Nat}:Y.Le (Y.I5 n) (Y.I5 (n+k)):=by
 induction k with
 |zero=>exact Le.refl Y _
 |succ k ih=>exact ih.trans (kf1 _)
theorem gm1{sc:Nat->Int}{n k:Nat}:Y.Le (Y.pn sc n) (Y.pn sc (n+k)):=by
 induction k with
 |zero=>exact Le.refl Y _
 |succ k ih=>exact ih.trans (le_step _ _)
structure Ok(p:PR Y):Prop where
 s:p.s=Y.sAt p p.outs.length
 who:p.who.length=p.outs.length
 used:p.evs.length=p.used
section
variable{p q:PR Y}
theorem kg1(h:Y.Le p q){t:Nat}(ht:t <=p.outs.length):Y.sAt q t=Y.sAt p t:=by
 cases t with
 |zero=>rfl
 |succ t=>
  obtain⟨l,hl⟩:=h.outs;show(Y.k5 q t).s=(Y.k5 p t).s;unfold k5;rw[<- hl,List.getElem?_append_left Uo]
theorem tt1:Ok (Y.p0):=⟨rfl,rfl,rfl⟩
theorem Mp0(p:PR Y)(o:I6 Y.S Y.L)(hq:q.outs=p.outs ++ [o]):Y.sAt q (p.outs.length+1)=o.s:=by
 show(Y.k5 q p.outs.length).s=o.s;unfold k5;rw[hq];simp
theorem Ok.bgn{p:PR Y}(h:Ok p):Ok (Y.bgn p):=by
 unfold Sys.bgn;split
 ·exact⟨h.s,h.who,h.used⟩
 ·refine⟨?_,by simp[h.who],h.used⟩;simp only[List.length_append,List.length_cons,List.length_nil,Nat.zero_add];exact(Mp0 p _ rfl).symm
theorem Ok.n6{p:PR Y}(h:Ok p)(i:Nat):Ok (Y.n6 p i):=by
 unfold Sys.n6;split
 ·refine⟨?_,by simp[h.who],by simp[h.used]⟩;simp only[List.length_append,List.length_cons,List.length_nil,Nat.zero_add];exact(Mp0 p _ rfl).symm
 ·exact h
theorem Ok.step{p:PR Y}(h:Ok p)(e:Int):Ok (Y.step p e):=by
 unfold Sys.step;split
 ·exact h.n6 _
 ·exact h
theorem Do0:∀n,Ok (Y.I5 n)
 |0=>tt1
 |n+1=>(Do0 n).bgn
theorem Gc0(sc:Nat->Int):∀n,Ok (Y.pn sc n)
 |0=>Do0 _
 |n+1=>(Gc0 sc n).step _
theorem bq1(h:Ok p)(hl:Y.Le p q):Y.sAt q p.outs.length=p.s:=by rw[kg1 hl (Nat.le_refl _),h.s]
theorem Vd0{o:I6 Y.S Y.L}{p':PR Y}(hp:p'.outs=p.outs ++ [o])(hl:Y.Le p' q):Y.k5 q p.outs.length=o:=by
 obtain⟨l,hl⟩:=hl.outs;unfold k5;rw[<- hl,hp,List.append_assoc,List.getElem?_append_right (Nat.le_refl _)];simp
theorem v7:∀n,(Y.I5 n).ft.length=n
 |0=>rfl
 |n+1=>by
  show(Y.bgn (Y.I5 n)).ft.length=n+1;unfold bgn;split <;> simp[v7 n]
theorem Gd0(p:PR Y)(i:Nat):(Y.n6 p i).ft.length=p.ft.length:=by
 unfold n6;split <;> simp
theorem Ve0(p:PR Y)(e:Int):(Y.step p e).ft.length=p.ft.length:=by
 unfold step;split
 ·exact Gd0 p _
 ·rfl
end
def Reach(Y:Sys)(p:PR Y):Prop:=(∃n,n <=Y.m/\p=Y.I5 n)\/∃sc n,p=Y.pn sc n
theorem ef0(sc:Nat->Int):∀n,(Y.pn sc n).ft.length=Y.m
 |0=>v7 _
 |n+1=>(Ve0 _ _).trans (ef0 sc n)
end
end Sys
structure LeOk(Y:Sys):Prop where
 refl:∀i a,Y.le i a a
 trans:∀i a b c,Y.le i a b->Y.le i b c->Y.le i a c
noncomputable def Sys.cfg(Y:Sys)(fb:Nat->FuncId)(q:PR Y)(w0:World)(i cb:Nat)(top:List Frame):Cfg prog where
 S:=Y.S
 L:=Y.L
 stp:=Y.stp i
 rdy:=Y.rdy i
 go:=Y.go i
 out:=Y.k5 q
 sOf:=Y.sAt q
 X1:=Y.X1 q i
 le:=Y.le i
 gu:=fun a b=>∀j,j≠i->Y.le j a b
 Inv:=Y.Inv
 At:=fun t l=>t <=300000/\∃p:PR Y,Y.Reach p/\p.outs.length=t/\p.s=Y.sAt q t/\p.ft[i]? =some (.inl l)
 BAt:=fun t=>t <=300000/\∃p:PR Y,Y.Reach p/\p.outs.length=t/\p.s=Y.sAt q t/\p.ft.length=i
 num:=i
 ptr:=cb
 base:=w0
 nl0:=126
 Su0:=some 74
 c5:=172
 Sv0:=none
 Sw0:=fb i
 top:=top
structure Geo where
 gm:Gm
 gi:Nat->Nat
 ab:Nat->Nat
 eb:Nat->Nat
 top:Nat->List Frame
 pv:Nat->Nat->Prop
section
variable(Y:Sys)(fb:Nat->FuncId)(q:PR Y)(w0:World)(Γ:Geo)(X:Gh)(R:Rn)(w:World)
structure Wt(j:Nat)(c:CB)(l:Y.L):Prop where
 wt:c.wt=true
 st:c.st=false
 sp:c.sp=Y.stp j l
 he:P1 w (Γ.eb j) #[.bool false] 4 (0,0)
 node:∃(me:Goroutine) (cs:List Frame) (wn:World) (mn:Gm) (Fn:Nat->Prop) (Rdo:World->World->Prop),X.W1 (Γ.gi j)=some ⟨c.rc,.bool false,me⟩/\ti0 cs c.cb c.df me/\(Y.cfg fb q w0 j c.cb (Γ.top j)).iy0 wn mn Fn c.rf l/\FnV prog c.df /\
  (∀b,Γ.pv j b↔b<wn.heap.size/\wn.heap[b]? ≠some nothing/\¬Fn b)/\(∀b,Γ.pv j b->w.heap[b]? =wn.heap[b]?)/\wn.os=w0.os/\wn.output=w0.output/\wn.heap.size <=w.heap.size/\Y.le j mn Γ.gm /\
  (∀u F',(Y.cfg fb q w0 j c.cb (Γ.top j)).Goes wn mn Fn l u F'->Op0 prog (Y.cfg fb q w0 j c.cb (Γ.top j)).S5 c.df u (Rdo u)) /\
  (∀u F' u2,(Y.cfg fb q w0 j c.cb (Γ.top j)).Goes wn mn Fn l u F'->Rdo u u2->u2.tape=u.tape->∀fr,fr.fn=126->Leaves prog fr u2 (.returned (.tuple #[]))->bc0 (Y.cfg fb q w0 j c.cb (Γ.top j)) (G fr cs) u2) /\
  (∀u F',(Y.cfg fb q w0 j c.cb (Γ.top j)).G6 wn mn Fn u F'->gh u 2=1->∀fr ch,fr.fn=126->A6 ch->Leaves prog fr u (.panicked ch)->bc0 (Y.cfg fb q w0 j c.cb (Γ.top j)) (G fr cs) u)
structure Ck(j:Nat)(c:CB):Prop where
 top:Uo0 (Γ.top j) (Γ.ab j) (Γ.eb j) R.rb c.cb
 ha:P1 w (Γ.ab j) #[.p c.cb] 123 (0,0)
 he:∃en,P1 w (Γ.eb j) #[.bool en] 4 (0,0)
 he0:0<Γ.gi j/\Γ.gi j<X.n
 stay:X.stay (Γ.gi j)=[(⟨c.cb,2,none⟩,.chan (some c.rc))]
 ch:X.chs c.rc
def Cl1(j:Nat)(c:CB)(f:Y.L ⊕ Nat):Prop:=
 (Y.nil j=true/\f= .inr 1/\c.wt=false/\R.ends[j]? =some 1)\/(Y.nil j=false/\match f with
  | .inl l=>Wt Y fb q w0 Γ X w j c l
  | .inr x=>c.wt=false/\R.ends[j]? =some (x:Int)/\X.W1 (Γ.gi j)=none)
variable(Mn:Nat->Option Obj)
structure kh1:Prop where
 le:Y.lb <=w0.heap.size
 low:∀b,X.low b->Y.lb <=b
 pl:X.D7=Y.pl
structure Fix(hold:Option Nat)(ft:Nat->Option (Y.L ⊕ Nat)):Prop where
 mem:B5 w w0.heap.size R
 m:R.m=Y.m
 cl:∀j c,R.cl[j]? =some c->some j≠hold->∃f,ft j=some f/\Cl1 Y fb q w0 Γ X R w j c f
 ck:∀j c,R.cl[j]? =some c->Y.nil j=false->Ck Γ X R w j c
 fpB:∀b,R.fp b->w0.heap.size <=b
 side:∀j,j<R.cl.length->Y.nil j=false->w0.heap.size <=Γ.ab j/\w0.heap.size <=Γ.eb j/\¬R.fp (Γ.ab j)/\¬R.fp (Γ.eb j)
 pv:∀j b,Γ.pv j b->b<w.heap.size/\¬R.fp b/\¬Mn b≠none/\(∀k,k<R.cl.length->Y.nil k=false->b≠Γ.ab k/\b≠Γ.eb k)/\∀k,k≠j->¬Γ.pv k b
 mn:∀b,Mn b≠none->w.heap[b]? =Mn b/\¬R.fp b/\∀k,k<R.cl.length->Y.nil k=false->b≠Γ.ab k/\b≠Γ.eb k
 tl0:0<X.n
 os:hold=none->w.os=w0.os
 output:hold=none->w.output=w0.output
 size:w0.heap.size <=w.heap.size
 T4:X.T4=some ⟨R.rb,8⟩
 qd0:X.stay 0=[(⟨R.rb,7,none⟩,.chan (some R.yb))]
 chy:X.chs R.yb
 W4:∀g s,g≠0->X.W1 g=some s->∃j c,R.cl[j]? =some c/\Y.nil j=false/\g=Γ.gi j/\s.ch=c.rc/\some j≠hold
 Jp0:∀j k,j<R.cl.length->k<R.cl.length->Y.nil j=false->Y.nil k=false->Γ.gi j=Γ.gi k->j=k
 Bg0:∀j k,j<R.cl.length->k<R.cl.length->Y.nil j=false->Y.nil k=false->Γ.eb j=Γ.eb k->j=k
 Pc0:∀j k c d,R.cl[j]? =some c->R.cl[k]? =some d->Y.nil j=false->Y.nil k=false->c.rc=d.rc->j=k
 ry:∀j c,R.cl[j]? =some c->Y.nil j=false->c.rc≠R.yb
 dn:X.dn=0
 pend:X.pend=0
 cap:X.cap <=R.cl.length
 under:X.gh0 w.heap.size
 D7:∀b,w.heap.size <=b->X.D7 b= .all
 tm0:hold=none->X.W1 0=none
 base:kh1 Y w0 X
end
section
variable{Y:Sys}{fb:Nat->FuncId}{q:PR Y}{Γ Γ':Geo}{X X':Gh}{R R':Rn}{w w':World}{Mn:Nat->Option Obj}{w0:World}{hold:Option Nat}{ft:Nat->Option (Y.L ⊕ Nat)}
def Kept(Y:Sys)(Γ:Geo)(R:Rn)(Mn:Nat->Option Obj)(b:Nat):Prop:=Mn b≠none\/(∃k,k<R.cl.length/\Y.nil k=false/\(b=Γ.ab k\/b=Γ.eb k))\/∃j,Γ.pv j b
theorem Wt.n6{j:Nat}(hle:∀a b c,Y.le j a b->Y.le j b c->Y.le j a c)(hgm:Y.le j Γ.gm Γ'.gm){c:CB}{l:Y.L}(h:Wt Y fb q w0 Γ X w j c l)(hb:∀b,Γ.pv j b->w'.heap[b]? =w.heap[b]?)(H2:w.heap.size <=w'.heap.size)(hs:X'.W1 (Γ.gi j)=X.W1 (Γ.gi j))(he:w'.heap[Γ.eb j]? =w.heap[Γ.eb j]?)(hge:Γ'.eb j=Γ.eb j)(hg:Γ'.gi j=Γ.gi j)(ht:Γ'.top j=Γ.top j)(hp:Γ'.pv j=Γ.pv j):Wt Y fb q w0 Γ' X' w' j c l:=by
 obtain⟨h1,h2,h3,h4,me,cs,wn,mn,Fn,Rdo,a1,a2,a3,a4,a5,a6,a7,a8,a9,ale,a10,a11,a12⟩:=h;refine⟨h1,h2,h3,by rw[hge];exact he.trans h4,me,cs,wn,mn,Fn,Rdo,?_⟩;rw[hg,ht,hp,hs];exact⟨a1,a2,a3,a4,a5,fun b Z8=>(hb b Z8).trans (a6 b Z8),a7,a8,Nat.le_trans a9 H2,hle _ _ _ ale hgm,a10,a11,a12⟩
theorem Cl1.n6{j:Nat}(hle:∀a b c,Y.le j a b->Y.le j b c->Y.le j a c)(hgm:Y.le j Γ.gm Γ'.gm){c:CB}{f:Y.L ⊕ Nat}(h:Cl1 Y fb q w0 Γ X R w j c f)(hb:∀b,Γ.pv j b->w'.heap[b]? =w.heap[b]?)(H2:w.heap.size <=w'.heap.size)(hs:Y.nil j=false->X'.W1 (Γ.gi j)=X.W1 (Γ.gi j))(heb:Y.nil j=false->w'.heap[Γ.eb j]? =w.heap[Γ.eb j]?)(hge:Γ'.eb j=Γ.eb j)(hg:Γ'.gi j=Γ.gi j)(ht:Γ'.top j=Γ.top j)(hp:Γ'.pv j=Γ.pv j)(he:R'.ends[j]? =R.ends[j]?):Cl1 Y fb q w0 Γ' X' R' w' j c f:=by
 rcases h with⟨h1,h2,h3,h4⟩|⟨h1,h2⟩
 ·exact .inl ⟨h1,h2,h3,by rw[he];exact h4⟩
 ·refine .inr ⟨h1,?_⟩;cases f with
  |inl l=>exact Wt.n6 hle hgm h2 hb H2 (hs h1) (heb h1) hge hg ht hp
  |inr x=>exact⟨h2.1,by rw[he];exact h2.2.1,by rw[hg,hs h1];exact h2.2.2⟩
theorem Fix.n6(hY:LeOk Y)(h:Fix Y fb q w0 Γ X R w Mn hold ft)(hM:B5 w' w0.heap.size R')(hrb:R'.rb=R.rb)(hyb:R'.yb=R.yb)(hm:R'.m=R.m)(hfp:∀b,R'.fp b->R.fp b\/w.heap.size <=b)(hlen:R'.cl.length=R.cl.length)
  (y7:∀j c',R'.cl[j]? =some c'->∃c,R.cl[j]? =some c/\c'.cb=c.cb/\c'.rc=c.rc/\(some j≠hold->c'=c/\R'.ends[j]? =R.ends[j]?)) (H2:w.heap.size <=w'.heap.size) (eg0:∀b,b<w.heap.size->¬R.fp b->Kept Y Γ R Mn b->w'.heap[b]? =w.heap[b]?\/∃i en,hold=some i/\i<R.cl.length/\Y.nil i=false/\b=Γ.eb i/\P1 w' b #[.bool en] 4 (0,0)) (hos:hold=none->w'.os=w.os/\w'.output=w.output) :
  Fix Y fb q w0 Γ X R' w' Mn hold ft:=by
 have lt:∀j c',R'.cl[j]? =some c'->j<R.cl.length:=fun j c' hc=>by rw[<- hlen];exact(List.getElem?_eq_some_iff.1 hc).1
 have hpv:∀j b,Γ.pv j b->w'.heap[b]? =w.heap[b]?:=fun j b hb=>by
  have hp:=h.pv j b hb;rcases eg0 b hp.1 hp.2.1 (.inr (.inr ⟨j,hb⟩))with z|⟨i,en,_,z1,z2,z3,_⟩
  ·exact z
  ·exact absurd z3 (hp.2.2.2.1 i z1 z2).2
 have heb:∀j,j<R.cl.length->Y.nil j=false->w'.heap[Γ.eb j]? =w.heap[Γ.eb j]?\/(hold=some j/\∃en,P1 w' (Γ.eb j) #[.bool en] 4 (0,0)):=fun j hj hn=>by
  obtain⟨en,he⟩:=(h.ck j _ (List.getElem?_eq_getElem hj) hn).he;rcases eg0 _ he.lt (h.side j hj hn).2.2.2 (.inr (.inl ⟨j,hj,hn,.inr rfl⟩))with z|⟨i,en,z0,z1,z2,z3,z4⟩
  ·exact .inl z
  ·obtain rfl:=h.Bg0 j i hj z1 hn z2 z3;exact .inr ⟨z0,en,z4⟩
 have ze1:∀j,j<R.cl.length->Y.nil j=false->some j≠hold->w'.heap[Γ.eb j]? =w.heap[Γ.eb j]?:=fun j hj hn hh=>by
  rcases heb j hj hn with z|⟨z,_⟩
  ·exact z
  ·exact absurd z.symm hh
 refine⟨hM,hm.trans h.m,fun j c' hc hj=>?_,fun j c' hc hn=>?_,fun b hb=>?_,fun j hj hn=>?_,fun j b hb=>?_,fun b hb=>?_,h.tl0,fun z=>(hos z).1.trans (h.os z),fun z=>(hos z).2.trans (h.output z),Nat.le_trans h.size H2,by rw[hrb];exact h.T4,by rw[hrb,hyb];exact h.qd0,by rw[hyb];exact h.chy,fun g s hg hs=>?_,by rw[hlen];exact h.Jp0,by rw[hlen];exact h.Bg0,fun j k c d hc hd hn hk e=>?_,fun j c' hc hn=>?_,h.dn,h.pend,by rw[hlen];exact h.cap,h.under.mono H2,fun b hb=>h.D7 b (Nat.le_trans H2 hb),h.tm0,h.base⟩
 ·obtain⟨c,hc0,_,_,h4⟩:=y7 j c' hc;obtain⟨rfl,h5⟩:=h4 hj;obtain⟨f,hf,h6⟩:=h.cl j c' hc0 hj;exact⟨f,hf,h6.n6 (hY.trans _) (hY.refl _ Γ.gm) (fun b hb=>hpv j b hb) H2 (fun _=>rfl) (fun hn=>ze1 j (lt j c' hc) hn hj) rfl rfl rfl rfl h5⟩
 ·obtain⟨c,hc0,hcb,hrc,_⟩:=y7 j c' hc;have hk:=h.ck j c hc0 hn;have hs:=h.side j (lt j c' hc) hn;refine⟨by rw[hrb,hcb];exact hk.top,?_,?_,hk.he0,by rw[hcb,hrc];exact hk.stay,by rw[hrc];exact hk.ch⟩
  ·rw[hcb];rcases eg0 _ hk.ha.lt hs.2.2.1 (.inr (.inl ⟨j,lt j c' hc,hn,.inl rfl⟩))with z|⟨i,en,_,z1,z2,z3,_⟩
   ·exact z.trans hk.ha
   ·obtain⟨en',j8⟩:=(h.ck i _ (List.getElem?_eq_getElem z1) z2).he;exact absurd z3 (P1.ne hk.ha j8 Ud)
  ·rcases heb j (lt j c' hc) hn with z|⟨_,z⟩
   ·obtain⟨en',j8⟩:=hk.he;exact⟨en',z.trans j8⟩
   ·exact z
 ·rcases hfp b hb with z|z
  ·exact h.fpB b z
  ·exact Nat.le_trans h.size z
 ·rw[hlen]at hj;have hs:=h.side j hj hn;obtain⟨c,hc⟩:∃c,R.cl[j]? =some c:=⟨_,List.getElem?_eq_getElem hj⟩
  have hk:=h.ck j c hc hn;exact⟨hs.1,hs.2.1,fun z=>by rcases hfp _ z with y|y;exact hs.2.2.1 y;have:=hk.ha.lt;omega,fun z=>by rcases hfp _ z with y|y;exact hs.2.2.2 y;have:=hk.he.choose_spec.lt;omega⟩
 ·have hp:=h.pv j b hb;exact⟨Nat.lt_of_lt_of_le hp.1 H2,fun z=>by rcases hfp _ z with y|y;exact hp.2.1 y;have:=hp.1;omega,hp.2.2.1,by rw[hlen];exact hp.2.2.2.1,hp.2.2.2.2⟩
 ·have hm':=h.mn b hb;have O1:b<w.heap.size:=by
   rcases Nat.lt_or_ge b w.heap.size with z|z
   ·exact z
   ·exact absurd (hm'.1.symm.trans (Array.getElem?_eq_none z)) hb
  refine⟨?_,fun z=>by rcases hfp b z with y|y;exact hm'.2.1 y;omega,by rw[hlen];exact hm'.2.2⟩;rcases eg0 b O1 hm'.2.1 (.inl hb)with z|⟨i,en,_,z1,z2,z3,_⟩
  ·exact z.trans hm'.1
  ·exact absurd z3 (hm'.2.2 i z1 z2).2
 ·obtain⟨j,c,h1,h2,h3,h4,h5⟩:=h.W4 g s hg hs;have hj:j<R'.cl.length:=by rw[hlen];exact(List.getElem?_eq_some_iff.1 h1).1
  obtain⟨c',hc'⟩:∃c',R'.cl[j]? =some c':=⟨_,List.getElem?_eq_getElem hj⟩
  obtain⟨c2,e1,_,e3,_⟩:=y7 j c' hc';rw[h1]at e1;obtain rfl:=Option.some.inj e1;exact⟨j,c',hc',h2,h3,by rw[e3];exact h4,h5⟩
 ·obtain⟨c2,e1,_,e3,_⟩:=y7 j c hc;obtain⟨d2,f1,_,f3,_⟩:=y7 k d hd;exact h.Pc0 j k c2 d2 e1 f1 hn hk (by rw[<- e3,<- f3];exact e)
 ·obtain⟨c2,e1,_,e3,_⟩:=y7 j c' hc;rw[e3,hyb];exact h.ry j c2 e1 hn
end
end Go.Vy.Sc
end
section
namespace Go.Vy.Sc
open Go Go.Conc Go.Yc Go.RowKit Go.Proofs Go.Proofs.YtinppmaojmdmhaaGreat Tryz
open Go.Vc Go.Wg
section
attribute [local irreducible] KK
structure tn0(Y:Sys):Prop extends LeOk Y where
 loc:∀s m (w w':World) F,Y.Inv s m w F->(∀b,F b->w'.heap[b]? =w.heap[b]?)->Y.Inv s m w' F
 vis:∀s m (w:World) F,Y.Inv s m w F->∀b,F b->b<w.heap.size/\w.heap[b]? ≠some nothing
section
variable{Y:Sys}{fb:Nat->FuncId}{q:PR Y}{Γ:Geo}{X:Gh}{R:Rn}{w:World}{Mn:Nat->Option Obj}{w0:World}{ft:Nat->Option (Y.L ⊕ Nat)}{i:Nat}
section
variable{h j:Nat}{sh:Option e7}
theorem le0{g:Nat}(h1:g≠h)(h2:g≠j):(X.pass h j sh).W1 g=X.W1 g:=by
 show Go.ConcN.upd (Go.ConcN.upd X.W1 j none) h sh g=_;rw[Go.ConcN.upd_ne _ _ h1,Go.ConcN.upd_ne _ _ h2]
theorem cp0:(X.pass h j sh).W1 h=sh:=Go.ConcN.upd_same _ _ _
theorem qe0(hj:j≠h):(X.pass h j sh).W1 j=none:=by
 show Go.ConcN.upd (Go.ConcN.upd X.W1 j none) h sh j=_;rw[Go.ConcN.upd_ne _ _ hj,Go.ConcN.upd_same]
end
def Geo.put(Γ:Geo)(i:Nat)(N:Nat->Prop):Geo:={Γ with pv:=fun j b=>if j=i then N b else Γ.pv j b}
def Geo.qs0(Γ:Geo)(i:Nat)(N:Nat->Prop)(m:Gm):Geo:={Γ.put i N with gm:=m}
section
variable{N:Nat->Prop}{m:Gm}{j:Nat}{c:CB}
theorem nr0(h:j≠i):(Γ.qs0 i N m).pv j=Γ.pv j:=by funext b;simp[Geo.qs0,Geo.put,h]
theorem Dp0(h:j≠i):(Γ.put i N).pv j=Γ.pv j:=by funext b;simp[Geo.put,h]
theorem Fix.back(hY:LeOk Y)(hm:∀j,j≠i->Y.le j Γ.gm m)(h:Fix Y fb q w0 Γ X R w Mn (some i) ft)(hn:Y.nil i=false)(hc:R.cl[i]? =some c)(hN:∀b,N b->b<w.heap.size/\¬R.fp b/\¬Kept Y Γ R Mn b){sh:Option e7}(R9:∀s,sh=some s->s.ch=c.rc){f:Y.L ⊕ Nat}
  (hf:Cl1 Y fb q w0 (Γ.qs0 i N m) (X.pass (Γ.gi i) 0 sh) R w i c f) (hos:w.os=w0.os/\w.output=w0.output):Fix Y fb q w0 (Γ.qs0 i N m) (X.pass (Γ.gi i) 0 sh) R w Mn none (fun j=>if j=i then some f else ft j):=by
 have hi:=(List.getElem?_eq_some_iff.1 hc).1;have hg:=(h.ck i c hc hn).he0;have hg0:Γ.gi i≠0:=by omega
 refine⟨h.mem,h.m,fun j c' hc' _=>?_,fun j c' hc' hn'=>?_,h.fpB,h.side,fun j b hb=>?_,h.mn,h.tl0,fun _=>hos.1,fun _=>hos.2,h.size,h.T4,h.qd0,h.chy,fun g s hg' hs=>?_,h.Jp0,h.Bg0,h.Pc0,h.ry,h.dn,h.pend,h.cap,⟨h.under.stay,h.under.D5,h.under.chs,h.under.T4,h.under.low⟩,h.D7,fun _=>qe0 hg0.symm,⟨h.base.le,h.base.low,h.base.pl⟩⟩
 ·by_cases hj:j=i
  ·subst hj;rw[hc]at hc';obtain rfl:=Option.some.inj hc';exact⟨f,by simp,hf⟩
  ·obtain⟨f',h1,h2⟩:=h.cl j c' hc' (by simpa using hj);have hjl:=(List.getElem?_eq_some_iff.1 hc').1;refine⟨f',by simp[hj,h1],h2.n6 (Γ':=Γ.qs0 i N m) (hY.trans _) (hm j hj) (fun _ _=>rfl) (Nat.le_refl _) (fun P9=>le0 (fun e=>hj (h.Jp0 j i hjl hi P9 hn e)) ?_) (fun _=>rfl) rfl rfl rfl (nr0 hj) rfl⟩;have:=(h.ck j c' hc' P9).he0;omega
 ·have:=h.ck j c' hc' hn';exact⟨this.top,this.ha,this.he,this.he0,this.stay,this.ch⟩
 ·by_cases hj:j=i
  ·subst hj;have Z8:N b:=by simpa [Geo.qs0,Geo.put]using hb
   obtain⟨h1,h2,h3⟩:=hN b Z8;refine⟨h1,h2,fun z=>h3 (.inl z),fun k hk hnk=>⟨fun e=>h3 (.inr (.inl ⟨k,hk,hnk,.inl e⟩)),fun e=>h3 (.inr (.inl ⟨k,hk,hnk,.inr e⟩))⟩,fun k hk hp=>?_⟩;rw[nr0 hk]at hp;exact h3 (.inr (.inr ⟨k,hp⟩))
  ·rw[nr0 hj]at hb;obtain⟨h1,h2,h3,h4,h5⟩:=h.pv j b hb;refine⟨h1,h2,h3,h4,fun k hk hp=>?_⟩;by_cases hki:k=i
   ·subst hki;have Z8:N b:=by simpa [Geo.qs0,Geo.put]using hp
    exact(hN b Z8).2.2 (.inr (.inr ⟨j,hb⟩))
   ·rw[nr0 hki]at hp;exact h5 k hk hp
 ·by_cases hgi:g=Γ.gi i
  ·subst hgi;rw[cp0]at hs;exact⟨i,c,hc,hn,rfl,R9 s hs,by simp⟩
  ·rw[le0 hgi hg']at hs;obtain⟨j,c',h1,h2,h3,h4,_⟩:=h.W4 g s hg' hs;exact⟨j,c',h1,h2,h3,h4,by simp⟩
theorem Fix.tu1(hY:LeOk Y)(h:Fix Y fb q w0 Γ X R w Mn none ft)(hn:Y.nil i=false)(hc:R.cl[i]? =some c){s0:e7}:Fix Y fb q w0 (Γ.put i fun _=>False) (X.pass 0 (Γ.gi i) (some s0)) R w Mn (some i) ft:=by
 have hi:=(List.getElem?_eq_some_iff.1 hc).1;have hg:=(h.ck i c hc hn).he0;have hg0:Γ.gi i≠0:=by omega
 refine⟨h.mem,h.m,fun j c' hc' hj'=>?_,fun j c' hc' hn'=>?_,h.fpB,h.side,fun j b hb=>?_,h.mn,h.tl0,fun z=>by simp at z,fun z=>by simp at z,h.size,h.T4,h.qd0,h.chy,fun g s hg' hs=>?_,h.Jp0,h.Bg0,h.Pc0,h.ry,h.dn,h.pend,h.cap,⟨h.under.stay,h.under.D5,h.under.chs,h.under.T4,h.under.low⟩,h.D7,(fun z=>by simp at z),⟨h.base.le,h.base.low,h.base.pl⟩⟩
 ·have hj:j≠i:=by simpa using hj'
  obtain⟨f',h1,h2⟩:=h.cl j c' hc' (by simp);have hjl:=(List.getElem?_eq_some_iff.1 hc').1;refine⟨f',h1,h2.n6 (Γ':=Γ.put i fun _=>False) (hY.trans _) (hY.refl _ Γ.gm) (fun _ _=>rfl) (Nat.le_refl _) (fun P9=>le0 ?_ (fun e=>hj (h.Jp0 j i hjl hi P9 hn e))) (fun _=>rfl) rfl rfl rfl (Dp0 hj) rfl⟩;have:=(h.ck j c' hc' P9).he0;omega
 ·have:=h.ck j c' hc' hn';exact⟨this.top,this.ha,this.he,this.he0,this.stay,this.ch⟩
 ·by_cases hj:j=i
  ·subst hj;simp[Geo.put]at hb
  ·rw[Dp0 hj]at hb;obtain⟨h1,h2,h3,h4,h5⟩:=h.pv j b hb;refine⟨h1,h2,h3,h4,fun k hk hp=>?_⟩;by_cases hki:k=i
   ·subst hki;simp[Geo.put]at hp
   ·rw[Dp0 hki]at hp;exact h5 k hk hp
 ·by_cases hgi:g=Γ.gi i
  ·subst hgi;rw[qe0 hg0]at hs;cases hs
  ·rw[le0 hg' hgi]at hs;obtain⟨j,c',h1,h2,h3,h4,_⟩:=h.W4 g s hg' hs;refine⟨j,c',h1,h2,h3,h4,?_⟩;intro e;obtain rfl:j=i:=by simpa using e
   exact hgi h3
end
structure Main(Y:Sys)(fb:Nat->FuncId)(q:PR Y)(w0:World)(Γ:Geo)(X:Gh)(R:Rn)(w:World)(Mn:Nat->Option Obj)(ft:Nat->Option (Y.L ⊕ Nat))(s:Y.S):Prop where
 fix:Fix Y fb q w0 Γ X R w Mn none ft
 inv:∃F,Y.Inv s Γ.gm w F/\∀b,F b->¬R.fp b/\¬Kept Y Γ R Mn b
def ov0{L:Type}(e:List Int)(i:Nat):L ⊕ Nat->List Int
 | .inl _=>e
 | .inr x=>e.set i (x:Int)
def Rel(R0 R':Rn)(i:Nat)(nts:List (Nat×Nat×Nte))(ends:List Int):Prop:=∃na nc c c',R0.cl[i]? =some c/\c'.X1=c.X1/\R'={R0 with na:=na,nc:=nc,nts:=nts,cl:=R0.cl.set i c',ends:=ends}
structure cy0(Y:Sys)(fb:Nat->FuncId)(q:PR Y)(w0:World)(Γ:Geo)(X:Gh)(Mn:Nat->Option Obj)(ft:Nat->Option (Y.L ⊕ Nat))(i t at_ cb:Nat)(n0:List (Nat×Nat×Nte))(R0 R:Rn)(H:Hid)(v:World):Prop where
 fix:Fix Y fb q w0 Γ X R (over H v) Mn (some i) ft
 D5:K8 H v
 no:∀b o,H b=some o->v.heap[b]? =some nothing
 all:∀b,(R.fp b\/Kept Y Γ R Mn b)->H b≠none
 tq:gh v 0=t
 gmq:gm v=Γ.gm
 atq:R.evs.length=at_
 cl:∃c,R.cl[i]? =some c/\c.cb=cb/\((gh v 2=0/\c.st=false/\R.nts=n0++tell i at_ ((Y.k5 q t).nts.take (gh v 1))/\c.X1=Y.X1 q i t)\/(gh v 2=1/\c.st=true/\R.nts=n0))
 rel:∃na nc nts,R={R0 with na:=na,nc:=nc,nts:=nts}
 nil:Y.nil i=false
 he:P1 (over H v) (Γ.eb i) #[.bool false] 4 (0,0)
section
variable{H:Hid}{v:World}{b:Nat}
theorem cy0.il{Y:Sys}{fb:Nat->FuncId}{q:PR Y}{w0:World}{Γ:Geo}{X:Gh}{Mn:Nat->Option Obj}{ft:Nat->Option (Y.L ⊕ Nat)}{i t at_ cb:Nat}{n0:List (Nat×Nat×Nte)}{R0 R:Rn}(h:cy0 Y fb q w0 Γ X Mn ft i t at_ cb n0 R0 R H v):i<R.cl.length:=by
 obtain⟨c,hc,_⟩:=h.cl;exact(List.getElem?_eq_some_iff.1 hc).1
theorem Mq0{o:Obj}(D5:K8 H v)(h:H b=some o):(over H v).heap[b]? =some o:=cm0 h (D5.gone b o h).lt
theorem Ge0{v':World}(he:Evo v v')(h:v.heap[b]? =some nothing):v'.heap[b]? =some nothing:=by
 obtain⟨y,hy,hk⟩:=he.obj _ _ h;obtain⟨c,rfl,h1,_⟩:=S9 hk;have:c=#[]:=by simpa using h1
 subst this;exact hy
theorem cy0.evo{Y:Sys}(hY:LeOk Y){fb:Nat->FuncId}{q:PR Y}{w0:World}{Γ:Geo}{X:Gh}{Mn:Nat->Option Obj}{ft:Nat->Option (Y.L ⊕ Nat)}{i t at_ cb:Nat}{n0:List (Nat×Nat×Nte)}{R0 R:Rn}{H:Hid}{v v':World}(h:cy0 Y fb q w0 Γ X Mn ft i t at_ cb n0 R0 R H v)(he:Evo v v')(ht:v'.tape=v.tape):cy0 Y fb q w0 Γ X Mn ft i t at_ cb n0 R0 R H v':=by
 have tv1:=h.D5.evo he;have hk:∀b,(R.fp b\/Kept Y Γ R Mn b)->(over H v').heap[b]? =(over H v).heap[b]?:=fun b hb=>by
  cases hh:H b with
  |none=>exact absurd hh (h.all b hb)
  |some o=>rw[Mq0 tv1 hh,Mq0 h.D5 hh]
 refine⟨h.fix.n6 hY (h.fix.mem.congr fun b hb=>hk b (.inl hb)) rfl rfl rfl (fun b hb=>.inl hb) rfl (fun j c hc=>⟨c,hc,rfl,rfl,fun _=>⟨rfl,rfl⟩⟩) (by rw[w5,w5];exact he.size) (fun b _ _ hb=>.inl (hk b (.inr hb))) Uz,tv1,fun b o hb=>Ge0 he (h.no b o hb),h.all,by rw[J3 ht];exact h.tq,by rw[df0 ht];exact h.gmq,h.atq,?_,h.rel,h.nil,(hk _ (.inr (.inr (.inl ⟨i,h.il,h.nil,.inr rfl⟩)))).trans h.he⟩;rw[J3 ht,J3 ht];exact h.cl
end
end
end
section
attribute [local irreducible] KK
theorem Fix.G2{Y:Sys}(hY:LeOk Y){fb:Nat->FuncId}{q:PR Y}{Γ:Geo}{X:Gh}{R:Rn}{w:World}{Mn:Nat->Option Obj}{w0:World}{ft:Nat->Option (Y.L ⊕ Nat)}{hold:Option Nat}(h:Fix Y fb q w0 Γ X R w Mn hold ft)(τ:Tape)(d:Nat):Fix Y fb q w0 Γ X R (Yc.G2 w τ d) Mn hold ft:=
 h.n6 hY (h.mem.congr fun _ _=>rfl) rfl rfl rfl (fun _b hb=>.inl hb) rfl (fun _j c hc=>⟨c,hc,rfl,rfl,fun _=>⟨rfl,rfl⟩⟩) (Nat.le_refl _) (fun _ _ _ _=>.inl rfl) (fun _=>⟨rfl,rfl⟩)
theorem Bh0{v:Value}(h:FnV prog v):v.cells=#[v]/\v.oneCell'=true:=by
 rcases h with rfl|⟨f,caps,rfl,_⟩ <;> exact⟨rfl,rfl⟩
theorem Cfg.iy0.fnV{K:Cfg prog}{w:World}{m:Gm}{F:Nat->Prop}{rf:Value}{l:K.L}(h:K.iy0 w m F rf l):FnV prog rf:=by
 rcases h with⟨h,_⟩|⟨f,caps,h,_⟩
 ·exact .inl h
 ·exact .inr ⟨f,caps,h⟩
theorem Gf0{fr:Frame}{w w':World}{v:Value}{fn:Func}(hf:prog.funcs[fr.fn]? =some fn)(hr:fn.results=#[]\/∃t,fn.results=#[.tmp t])(hv:fn.results=#[]->v= .tuple #[])(h:Leaves prog fr w (.returned v))(hnv:k8 w):Leaves prog fr w' (.returned v):=by
 obtain⟨h1,h2,h3,fn',h4,h5⟩:=h;rw[hf]at h4;obtain rfl:=Option.some.inj h4;refine⟨h1,h2,h3,fn,hf,?_⟩;rcases hr with hr|⟨t,hr⟩
 ·rw[hv hr];exact T8 (fun w=>results_none hr _ _ w) (fun w=>events_results_none hr _ _)
 ·obtain⟨x',es,h6,_⟩:=h5 w.tape w.drawn _ w hnv.sim;have h7:=results_tmp hr fr.tmps prog w;rw[Sem.runT_eq]at h6;have h8:=(Prod.mk.inj h6).1;rw[h7]at h8;injection h8 with h9 h10
  rw[<- h9];exact T8 (fun w=>results_tmp hr _ _ w) (fun w=>events_results_tmp hr _ _)
section
variable{Y:Sys}{fb:Nat->FuncId}{q:PR Y}{Γ:Geo}{X:Gh}{R R0:Rn}{w:World}{Mn:Nat->Option Obj}{w0:World}{ft:Nat->Option (Y.L ⊕ Nat)}{i t at_ cb:Nat}{n0:List (Nat×Nat×Nte)}
theorem Fix.br1(h:Fix Y fb q w0 Γ X R w Mn (some i) ft){b:Nat}(hb:R.fp b\/Kept Y Γ R Mn b):b<w.heap.size:=by
 rcases hb with hb|hb|⟨k,hk,hn,hb⟩|⟨j,hb⟩
 ·exact h.mem.lt hb
 ·rcases Nat.lt_or_ge b w.heap.size with z|z
  ·exact z
  ·exact absurd ((h.mn b hb).1.symm.trans (Array.getElem?_eq_none z)) hb
 ·have:=h.ck k _ (List.getElem?_eq_getElem hk) hn;rcases hb with rfl|rfl
  ·exact this.ha.lt
  ·exact this.he.choose_spec.lt
 ·exact(h.pv j b hb).1
theorem cy0.enter(hY:LeOk Y)(V:Nat->Prop)[DecidablePred V]{τ:Tape}{d:Nat}(fix:Fix Y fb q w0 Γ X R w Mn (some i) ft)(hV:∀b,(R.fp b\/Kept Y Γ R Mn b)->¬V b)(nv:k8 w)(h1:gh (Yc.G2 (X3 V w) τ d) 0=t)(hgm:gm (Yc.G2 (X3 V w) τ d)=Γ.gm)(h2:R.evs.length=at_)
  (h3:∃c,R.cl[i]? =some c/\c.cb=cb/\((gh (Yc.G2 (X3 V w) τ d) 2=0/\c.st=false/\R.nts=n0++tell i at_ ((Y.k5 q t).nts.take (gh (Yc.G2 (X3 V w) τ d) 1))/\c.X1=Y.X1 q i t)\/(gh (Yc.G2 (X3 V w) τ d) 2=1/\c.st=true/\R.nts=n0)))
  (h4:∃na nc nts,R={R0 with na:=na,nc:=nc,nts:=nts}) (hn:Y.nil i=false) (he:P1 w (Γ.eb i) #[.bool false] 4 (0,0)):cy0 Y fb q w0 Γ X Mn ft i t at_ cb n0 R0 R (av0 V w) (Yc.G2 (X3 V w) τ d):=by
 refine⟨?_,(sy0 nv).G2 τ d,fun b o hb=>?_,fun b hb=>?_,h1,hgm,h2,h3,h4,hn,?_⟩
 ·rw[au0,ni0];exact fix.G2 hY τ d
 ·by_cases hv:V b
  ·simp[av0,hv]at hb
  ·simp only[av0,hv,if_false]at hb;exact mc0 hv (Array.getElem?_eq_some_iff.1 hb).1
 ·have hv:=hV b hb;have O1:=fix.br1 hb;simp only[av0,hv,if_false];rw[Array.getElem?_eq_getElem O1];simp
 ·rw[au0,ni0];exact he
def After(Y:Sys)(fb:Nat->FuncId)(q:PR Y)(w0:World)(Mn:Nat->Option Obj)(ft:Nat->Option (Y.L ⊕ Nat))(i t:Nat)(n0:List (Nat×Nat×Nte))(R0:Rn)(st:Bool)(Γ':Geo)(X':Gh)(R':Rn)(w':World):Prop:=
 (st=false/\Main Y fb q w0 Γ' X' R' w' Mn (fun j=>if j=i then some (Y.k5 q t).X4 else ft j) (Y.k5 q t).s/\Rel R0 R' i (n0++tell i R0.evs.length (Y.k5 q t).nts) (ov0 R0.ends i (Y.k5 q t).X4)) \/
 (st=true/\Main Y fb q w0 Γ' X' R' w' Mn (fun j=>if j=i then some (.inr 0) else ft j) (Y.sAt q t)/\Rel R0 R' i n0 (R0.ends.set i 0))
section
variable{H:Hid}{v:World}{c:CB}
theorem cy0.ki1(h:cy0 Y fb q w0 Γ X Mn ft i t at_ cb n0 R0 R H v){b:Nat}(hb:v.heap[b]? ≠some nothing):H b=none/\¬R.fp b/\¬Kept Y Γ R Mn b:=by
 have hn:H b=none:=by
  cases hh:H b with
  |none=>rfl
  |some o=>exact absurd (h.no b o hh) hb
 exact⟨hn,fun z=>h.all b (.inl z) hn,fun z=>h.all b (.inr z) hn⟩
theorem cy0.chs(h:cy0 Y fb q w0 Γ X Mn ft i t at_ cb n0 R0 R H v)(hn:Y.nil i=false)(hc:R.cl[i]? =some c):∀g s2,g≠0->X.W1 g=some s2->s2.ch≠c.rc:=by
 intro g s2 hg hs e;obtain⟨j,d,h1,h2,h3,h4,h5⟩:=h.fix.W4 g s2 hg hs;have:=h.fix.Pc0 j i d c h1 hc h2 hn (h4.symm.trans e);subst this;exact h5 rfl
theorem cy0.home(hY:tn0 Y){w':World}(h:cy0 Y fb q w0 Γ X Mn ft i t at_ cb n0 R0 R H v)(hn:Y.nil i=false){c':CB}{ends:List Int}{S:Nat->Prop}{B:Nat}(hc:R.cl[i]? =some c)(tw1:c'.cb=c.cb)(zf1:c'.rc=c.rc)(_hc'p:c'.X1=c.X1)(hg:Rg S B (over H v) w' w0.heap.size {R with cl:=R.cl.set i c',ends:=ends})(hB:B=(over H v).heap.size)(hS:∀k,S k->R.fp k\/(k=Γ.eb i))(zg1:∃en,P1 w' (Γ.eb i) #[.bool en] 4 (0,0))(Vf0:∀j,j≠i->ends[j]? =R.ends[j]?)
  (F:Nat->Prop) {s:Y.S} {m:Gm} (hm:∀j,j≠i->Y.le j (gm v) m) (hinv:Y.Inv s m v F) (hos:v.os=w0.os/\v.output=w0.output) {sh:Option e7} (R9:∀s,sh=some s->s.ch=c'.rc) {f:Y.L ⊕ Nat} {N:Nat->Prop} (hN:∀b,N b->v.heap[b]? ≠some nothing/\b<v.heap.size/\¬F b) (hf:(∀b,v.heap[b]? ≠some nothing->b<v.heap.size->w'.heap[b]? =v.heap[b]?)->Cl1 Y fb q w0 (Γ.qs0 i N m) (X.pass (Γ.gi i) 0 sh) {R with cl:=R.cl.set i c',ends:=ends} w' i c' f) :
  Main Y fb q w0 (Γ.qs0 i N m) (X.pass (Γ.gi i) 0 sh) {R with cl:=R.cl.set i c',ends:=ends} w' Mn (fun j=>if j=i then some f else ft j) s/\(∃na nc,{R with cl:=R.cl.set i c',ends:=ends}={R0 with na:=na,nc:=nc,nts:=R.nts,cl:=R0.cl.set i c',ends:=ends}):=by
 subst hB;have z8:=(List.getElem?_eq_some_iff.1 hc).1;have gn1:∀b,b<(over H v).heap.size->¬R.fp b->b≠Γ.eb i->w'.heap[b]? =(over H v).heap[b]?:=fun b hb hf he=>hg.md.block b hb fun hs=>(hS b hs).elim hf he;have cq0:∀b,v.heap[b]? ≠some nothing->b<v.heap.size->w'.heap[b]? =v.heap[b]?:=fun b hb O1=>by
  obtain⟨h1,h2,h3⟩:=h.ki1 hb;rw[gn1 b (by rw[w5];exact O1) h2 (fun e=>h3 (.inr (.inl ⟨i,z8,hn,.inr e⟩))),L6 v h1]
 have hfp:∀b,Rn.fp {R with cl:=R.cl.set i c',ends:=ends} b->R.fp b:=fun b hb=>Rn.Mh0 (R:=R) hc tw1 hb;have hK:∀b,Kept Y Γ {R with cl:=R.cl.set i c',ends:=ends} Mn b↔Kept Y Γ R Mn b:=fun b=>by simp[Kept]
 have tx1:=h.fix.n6 hY.toLeOk (R':={R with cl:=R.cl.set i c',ends:=ends}) (w':=w') hg.m rfl rfl rfl (fun b hb=>.inl (hfp b hb)) (by simp) (fun j d hd=>by
  have R6:(R.cl.set i c')[j]? =some d:=hd;rw[List.getElem?_set]at R6;by_cases hj:i=j
  ·subst hj;rw[if_pos rfl,if_pos z8]at R6;obtain rfl:=Option.some.inj R6;exact⟨c,hc,tw1,zf1,fun z=>absurd rfl z⟩
  ·rw[if_neg hj]at R6;exact⟨d,R6,rfl,rfl,fun _=>⟨rfl,Vf0 j (Ne.symm hj)⟩⟩) hg.md.size (fun b hb hf _=>by
   by_cases he:b=Γ.eb i
   ·subst he;obtain⟨en,he⟩:=zg1;exact .inr ⟨i,en,rfl,z8,hn,rfl,he⟩
   ·exact .inl (gn1 b hb hf he)) Uz
 have hc':Rn.cl {R with cl:=R.cl.set i c',ends:=ends}=R.cl.set i c':=rfl;have hci:(Rn.cl {R with cl:=R.cl.set i c',ends:=ends})[i]? =some c':=by rw[hc'];simp[z8]
 have ty1:=tx1.back hY.toLeOk (m:=m) (by rw[<- h.gmq];exact hm) hn hci (N:=N) (fun b hb=>by
  obtain⟨h1,h2,h3⟩:=hN b hb;obtain⟨h4,h5,h6⟩:=h.ki1 h1;refine⟨Nat.lt_of_lt_of_le h2 (by have:=hg.md.size;rw[w5]at this;exact this),fun z=>h5 (hfp b z),fun z=>h6 ((hK b).1 z)⟩) R9 (hf cq0) ⟨hg.md.os.trans hos.1,hg.md.output.trans hos.2⟩
 refine⟨⟨ty1,F,hY.loc _ _ v w' F hinv fun b hb=>?_,fun b hb=>?_⟩,?_⟩
 ·have:=hY.vis _ _ v F hinv b hb;exact cq0 b this.2 this.1
 ·have hv:=hY.vis _ _ v F hinv b hb;obtain⟨h4,h5,h6⟩:=h.ki1 hv.2;refine⟨fun z=>h5 (hfp b z),fun z=>?_⟩;rcases z with z|z|⟨j,z⟩
  ·exact h6 (.inl z)
  ·exact h6 ((hK b).1 (.inr (.inl z)))
  ·by_cases hj:j=i
   ·subst hj;have:N b:=by simpa [Geo.qs0,Geo.put]using z
    exact(hN b this).2.2 hb
   ·rw[nr0 hj]at z;exact h6 (.inr (.inr ⟨j,z⟩))
 ·obtain⟨na,nc,nts,rfl⟩:=h.rel;exact⟨na,nc,rfl⟩
end
end
end
end Go.Vy.Sc
end
