/- What the claim leans on, part 3. Steps that look at no memory: families of conditions on a goroutine's record that are closed under them; a walk over frames that are functions. Nothing here speaks of a program. -/
import Derived.Test.YtfmoeemolgjodaaK2
import Derived.Conc.AtomicLaws2
import Derived.Conc.MarkLaws
import Derived.Conc.SmallLaws
import Derived.Laws.Bits64
import Derived.Laws.BitsLemmas
import Derived.Test.YtfmoeemolgjodaaRows
import Derived.KernelRfl
set_option linter.unusedVariables false
section
namespace Go.Wg
open Go Go.Conc Go.Yc
open Go.Vc (Env upd updO ev dstB yieldE)
structure HF (P:Program) (main:Bool) (ok:Event->Prop) (Y:Nat->Nat->Goroutine->Prop):Prop where
 st:∀ m d g g' es,g.status = .running->g'.status = .running->(∀ e ∈ es,ok e)->(∀ w,stepG P main g w = .go g' w es)->Y m (deafBehind d es) g'->Y (m + 1) d g
theorem HF.c {P:Program} {main:Bool} {ok:Event->Prop} {Y:Nat->Nat->Goroutine->Prop} (hY:HF P main ok Y) {d:Nat} {g g':Goroutine} (h1:g.status = .running) (h2:g'.status = .running) (hs:∀ w,stepG P main g w = .go g' w #[]) {m:Nat} (h:Y m d g'):Y (m + 1) d g :=
 hY.st m d g g' #[] h1 h2 (fun e he=>by simp at he) hs h
structure RepD (n:Nat) (a:Act) (e:Env) (ds:List Deferred):Prop where
 size:a.tmps.size = n
 defers:a.defers = ds
 get:∀ t,a.tmps.getD t undef = e t
theorem RepD.eval {n:Nat} {a:Act} {e:Env} {ds:List Deferred} (h:RepD n a e ds):a.eval = ev e:=by
 funext x
 cases x <;> simp [Act.eval,ev,h.get]
theorem RepD.put {n:Nat} {a:Act} {e:Env} {ds:List Deferred} (h:RepD n a e ds) {d:Option Nat} (hd:dstB n d = true) (v:Value):RepD n (a.put d v) (updO e d v) ds:=by
 cases d with
 | none=>exact h
 | some d =>
  have hd':d < n:=by simpa [dstB,Nat.blt_eq] using hd
  refine ⟨by simp [Act.put,h.size],by simp [Act.put,h.defers],fun t=>?_⟩
  have hg:=h.get t
  simp only [Act.put,updO,upd,Array.getD_eq_getD_getElem?,Array.getElem?_setIfInBounds] at hg ⊢
  by_cases htd:t = d
  ·subst htd; simp [h.size,hd']
  ·simp only [htd,if_false,Ne.symm htd]
   exact hg
theorem RepD.yielded {n:Nat} {a:Act} {e:Env} {ds:List Deferred} (h:RepD n a e ds) {ops:Array Oper} (o:Oper):Region.wanted o (Go.yielded ops a.tmps) = Region.wanted o (yieldE ops e):=by
 have h2:Go.Vc.Rep n { a with defers:=[] } e:=⟨h.size,rfl,h.get⟩
 exact Go.Vc.wanted_rep (a:={ a with defers:=[] }) h2 o
def argE (args:Array Value):Env:=fun t=>args.getD t undef
theorem repD_args {n:Nat} (args:Array Value) (m:Nat) (hn:args.size + (m - args.size) = n):RepD n { tmps:=args ++ Array.replicate (m - args.size) undef,defers:=[] } (argE args) []:=by
 refine ⟨by simp [hn],rfl,fun t=>?_⟩
 simp only [argE,Array.getD_eq_getD_getElem?,Array.getElem?_append]
 by_cases h:t < args.size
 ·rw [if_pos h]
 ·rw [if_neg h]
  rw [Array.getElem?_eq_none (xs:=args) (by omega)]
  rw [Array.getElem?_replicate]
  split <;> rfl
def At (Y:Nat->Nat->Goroutine->Prop) (ft n:Nat) (b:Frame) (cs:List Frame) (ds:List Deferred) (d:Nat) (e:Env) (todo:List Item):Prop:=∀ a,RepD n a e ds->Y ft d (G (b.at a todo) cs)
def AtR (Y:Nat->Nat->Goroutine->Prop) (ft n:Nat) (b:Frame) (cs:List Frame) (ds:List Deferred) (d:Nat) (e:Env) (todo:List Item):Prop:=∀ a,RepD n a e ds->Y ft d (G { b.at a todo with mode:=.returning } cs)
section
variable {P:Program} {main:Bool} {ok:Event->Prop} {Y:Nat->Nat->Goroutine->Prop} {ft n:Nat} {b:Frame} {cs:List Frame} {ds:List Deferred} {d:Nat} {e:Env} {k todo:List Item}
theorem At.c (hY:HF P main ok Y) {todo':List Item} (hs:∀ a w,stepG P main (G (b.at a todo) cs) w = .go (G (b.at a todo') cs) w #[]) (h:At Y ft n b cs ds d e todo'):At Y (ft + 1) n b cs ds d e todo :=
 fun a ha=>hY.c rfl rfl (hs a) (h a ha)
theorem At.seq (hY:HF P main ok Y) {x y:Code} (h:At Y ft n b cs ds d e (.code x :: .code y :: k)):At Y (ft + 1) n b cs ds d e (.code (.seq x y) :: k):=At.c hY (fun _ _=>stepG_seq) h
theorem At.skip (hY:HF P main ok Y) (h:At Y ft n b cs ds d e k):At Y (ft + 1) n b cs ds d e (.code .skip :: k):=At.c hY (fun _ _=>stepG_skip) h
theorem At.block (hY:HF P main ok Y) {id:Nat} {c:Code} (h:At Y ft n b cs ds d e (.code c :: .inBlock id :: k)):At Y (ft + 1) n b cs ds d e (.code (.block id c) :: k):=At.c hY (fun _ _=>stepG_block) h
theorem At.loop (hY:HF P main ok Y) {c:Code} (h:At Y ft n b cs ds d e (.code c :: .inLoop c :: k)):At Y (ft + 1) n b cs ds d e (.code (.loop c) :: k):=At.c hY (fun _ _=>stepG_loop) h
theorem At.inBlock (hY:HF P main ok Y) {id:Nat} (h:At Y ft n b cs ds d e k):At Y (ft + 1) n b cs ds d e (.inBlock id :: k):=At.c hY (fun _ _=>stepG_inBlock) h
theorem At.inLoop (hY:HF P main ok Y) {c:Code} (h:At Y ft n b cs ds d e (.code c :: .inLoop c :: k)):At Y (ft + 1) n b cs ds d e (.inLoop c :: k):=At.c hY (fun _ _=>stepG_inLoop) h
theorem At.exit (hY:HF P main ok Y) {id:Nat} {k':List Item} (hk:exitTo id k = some k') (h:At Y ft n b cs ds d e k'):At Y (ft + 1) n b cs ds d e (.code (.exit id) :: k):=At.c hY (fun _ _=>stepG_exit hk) h
theorem At.cond (hY:HF P main ok Y) {c:Operand} {x y:Code} {t:Bool} (hc:ev e c = .bool t) (h:At Y ft n b cs ds d e (.code (if t then x else y) :: k)):At Y (ft + 1) n b cs ds d e (.code (.cond c x y) :: k) :=
 fun a ha=>hY.c rfl rfl (fun _=>stepG_cond (by rw [ha.eval]; exact hc)) (h a ha)
theorem At.condT (hY:HF P main ok Y) {c:Operand} {x y:Code} (hc:ev e c = .bool true) (h:At Y ft n b cs ds d e (.code x :: k)):At Y (ft + 1) n b cs ds d e (.code (.cond c x y) :: k):=At.cond hY hc h
theorem At.condF (hY:HF P main ok Y) {c:Operand} {x y:Code} (hc:ev e c = .bool false) (h:At Y ft n b cs ds d e (.code y :: k)):At Y (ft + 1) n b cs ds d e (.code (.cond c x y) :: k):=At.cond hY hc h
theorem At.ret (hY:HF P main ok Y) (h:∀ todo,AtR Y ft n b cs ds d e todo):At Y (ft + 1) n b cs ds d e (.code .ret :: k):=fun a ha=>hY.c rfl rfl (fun _=>stepG_ret') (h _ a ha)
theorem At.done (hY:HF P main ok Y) (h:∀ todo,AtR Y ft n b cs ds d e todo):At Y (ft + 1) n b cs ds d e []:=fun a ha=>hY.c rfl rfl (fun _=>stepG_end) (h _ a ha)
variable {ops:Array Oper} {i:Nat} {rest:List Nat} {o:Oper}
structure Pu (P:Program) (S:Sem Next) (v:Value):Prop where
 run:∀ w,S.run P w = .ok (.value v) w
 evs:∀ w,S.events P w #[] = #[]
def AtL (Y:Nat->Nat->Goroutine->Prop) (ft n:Nat) (b:Frame) (cs:List Frame) (ds:List Deferred) (d:Nat) (e:Env) (ops:Array Oper) (i:Nat) (l:List Oper) (k:List Item):Prop :=
 (∀ j,l[j]? = ops[i + j]?)->At Y ft n b cs ds d e (.inRegion ops (List.range' i l.length) :: k)
structure Back (n:Nat) (b:Frame) (cs:List Frame) (ds:List Deferred) (e:Env) (ops:Array Oper) (i:Nat) (dst:Option Nat) (l:List Oper) (k:List Item) (cs':List Frame):Prop where
 rep:∃ a,RepD n a e ds/\cs' = b.at a (.inRegion ops (i :: List.range' (i + 1) l.length) :: k) :: cs
 slot:(ops[i]?).bind (·.dst) = dst
 ok:dstB n dst = true
 tail:∀ j,l[j]? = ops[i + 1 + j]?
variable {l:List Oper} {dst:Option Nat} {t:Nat} {op:Op} {ty:TypeId} {ps:String} {af:Array Edge}
theorem At.region (hY:HF P main ok Y) {id:Nat} {l:List Oper} (h:AtL Y ft n b cs ds d e l.toArray 0 l k):At Y (ft + 1) n b cs ds d e (.code (.region id l.toArray false) :: k) :=
 At.c hY (fun _ _=>by rw [stepG_region]) (by
  have:=h (fun j=>by simp)
  rw [show List.range l.toArray.size = List.range' 0 l.length by simp [List.range_eq_range']]
  exact this)
theorem AtL.nil (hY:HF P main ok Y) (h:At Y ft n b cs ds d e k):AtL Y (ft + 1) n b cs ds d e ops i [] k:=fun _=>At.c hY (fun _ _=>stepG_region_end) h
theorem tail_of {ops:Array Oper} {i:Nat} {o:Oper} {l:List Oper} (h:∀ j,(o :: l)[j]? = ops[i + j]?):ops[i]? = some o/\∀ j,l[j]? = ops[i + 1 + j]? :=
 ⟨by simpa using (h 0).symm,fun j=>by have:=h (j + 1); simpa [Nat.add_assoc,Nat.add_comm 1 j] using this⟩
theorem AtL.val (hY:HF P main ok Y) (hk:b.kind ≠ .early) (hd:dstB n dst = true) {v:Value} (hp:Pu P (execOp (ev e) ⟨dst,op,ty,ps,af,none⟩) v) (h:AtL Y ft n b cs ds d (updO e dst v) ops (i + 1) l k):AtL Y (ft + 1) n b cs ds d e ops i (⟨dst,op,ty,ps,af,none⟩ :: l) k:=by
 intro hl a ha
 obtain ⟨ho,hl'⟩:=tail_of hl
 refine hY.c rfl rfl (fun w=>?_) (h hl' _ (ha.put hd v))
 show stepG P main (G (b.at a (.inRegion ops (i :: List.range' (i + 1) l.length) :: k)) cs) w = _
 rw [stepG_value ho (by rw [ha.yielded]; rfl) hk (by rw [ha.eval]; exact hp.run w)]
 unfold listed
 rw [ha.eval,hp.evs w,seen_none]
theorem AtL.valG {gu:Nat × Bool} (hY:HF P main ok Y) (hk:b.kind ≠ .early) (hw:yieldE ops e gu.1 = some gu.2) (hd:dstB n dst = true) {v:Value} (hp:Pu P (execOp (ev e) ⟨dst,op,ty,ps,af,some gu⟩) v) (h:AtL Y ft n b cs ds d (updO e dst v) ops (i + 1) l k):AtL Y (ft + 1) n b cs ds d e ops i (⟨dst,op,ty,ps,af,some gu⟩ :: l) k:=by
 intro hl a ha
 obtain ⟨ho,hl'⟩:=tail_of hl
 refine hY.c rfl rfl (fun w=>?_) (h hl' _ (ha.put hd v))
 show stepG P main (G (b.at a (.inRegion ops (i :: List.range' (i + 1) l.length) :: k)) cs) w = _
 rw [stepG_value ho (by rw [ha.yielded]; simp [Region.wanted,hw]) hk (by rw [ha.eval]; exact hp.run w)]
 unfold listed
 rw [ha.eval,hp.evs w,seen_none]
theorem AtL.off {gu:Nat × Bool} (hY:HF P main ok Y) (hw:yieldE ops e gu.1 = some (!gu.2)) (hd:dstB n dst = true) (h:AtL Y ft n b cs ds d (updO e dst undef) ops (i + 1) l k):AtL Y (ft + 1) n b cs ds d e ops i (⟨dst,op,ty,ps,af,some gu⟩ :: l) k:=by
 intro hl a ha
 obtain ⟨ho,hl'⟩:=tail_of hl
 refine hY.c rfl rfl (fun w=>?_) (h hl' _ (ha.put hd undef))
 exact stepG_unwanted ho (by
  rw [ha.yielded]
  obtain ⟨j,want⟩:=gu
  cases want <;> simp [Region.wanted] at hw ⊢ <;> simp [hw])
theorem map_list {args:Array Operand} {f:Operand->Value} {vl:List Value} (h:args.toList.map f = vl):args.map f = vl.toArray:=by rw [<- h,<- Array.toList_map,Array.toArray_toList]
theorem AtL.call (hY:HF P main ok Y) (hk:b.kind ≠ .early) {f:FuncId} {fn:Func} {c:Code} {args:Array Operand} {ats:Array TypeId} (vs:List Value) (m:Nat) (hd:dstB n dst = true) (hf:P.funcs[f]? = some fn) (hname:(fn.name == "runtime.NumGoroutine") = false) (hb:fn.body = some c)
  (hv:args.toList.map (ev e) = vs) (hm:vs.toArray.size + (fn.ntmps - vs.toArray.size) = m) (h:∀ cs',Back n b cs ds e ops i dst l k cs'->At Y ft m (base f) cs' [] d (argE vs.toArray) [.code c]):AtL Y (ft + 1) n b cs ds d e ops i (⟨dst,.call { callee:=.value (.func f),args,argTypes:=ats },ty,ps,af,none⟩ :: l) k:=by
 intro hl a ha
 obtain ⟨ho,hl'⟩:=tail_of hl
 have hb':fn.body.isNone = false:=by rw [hb]; rfl
 refine hY.c rfl rfl (fun w=>?_) (h _ ⟨⟨a,ha,rfl⟩,by rw [ho]; rfl,hd,hl'⟩ { tmps:=vs.toArray ++ Array.replicate (fn.ntmps - vs.toArray.size) undef,defers:=[] } (repD_args vs.toArray _ hm))
 show stepG P main (G (b.at a (.inRegion ops (i :: List.range' (i + 1) l.length) :: k)) cs) w = _
 rw [stepG_enter ho (by rw [ha.yielded]; rfl) hk (run_call_body rfl hf hname hb'),enter_at _ hf hb]
 have h1:listed P b.fn a ⟨dst,.call { callee:=.value (.func f),args,argTypes:=ats },ty,ps,af,none⟩ w = #[]:=by unfold listed; rw [events_call_body rfl hf hname hb']; exact seen_none P _
 have h2:args.map a.eval = vs.toArray:=by rw [ha.eval]; exact map_list hv
 rw [h1,h2]
theorem AtL.mark0 (hY:HF P main ok Y) (hk:b.kind ≠ .early) (mk:Mark) (hm:∀ g,mk ≠ .extern g) (hok:ok ⟨.mark mk,false,true⟩) {f:FuncId} {fn:Func} {asx:Array Operand} {ats:Array TypeId} (hd:dstB n dst = true)
  (hf:P.funcs[f]? = some fn) (hname:(fn.name == "runtime.NumGoroutine") = false) (hb:fn.body.isNone = true) (hn:Extern.findNext fn = none) (he:Extern.find fn = some (fun _=>do mark mk; pure Extern.Race.none_))
  (h:AtL Y ft n b cs ds (deafBehind d #[⟨.mark mk,false,true⟩]) (updO e dst (.tuple #[])) ops (i + 1) l k):AtL Y (ft + 1) n b cs ds d e ops i (⟨dst,.call { callee:=.value (.func f),args:=asx,argTypes:=ats },ty,ps,af,none⟩ :: l) k:=by
 intro hl a ha
 obtain ⟨ho,hl'⟩:=tail_of hl
 exact hY.st _ _ _ _ #[⟨.mark mk,false,true⟩] rfl rfl (fun x hx=>by simp at hx; subst hx; exact hok) (fun w=>stepG_mark0 mk hm ho (by rw [ha.yielded]; rfl) hk rfl hf hname hb hn he) (h hl' _ (ha.put hd _))
theorem AtL.markAt (hY:HF P main ok Y) (hk:b.kind ≠ .early) (mk:Addr->Mark) (hm:∀ ad g,mk ad ≠ .extern g) {ad:Addr} (hok:ok ⟨.mark (mk ad),false,true⟩) {f:FuncId} {fn:Func} {asx:Array Operand} {ats:Array TypeId} (hd:dstB n dst = true)
  (hf:P.funcs[f]? = some fn) (hname:(fn.name == "runtime.NumGoroutine") = false) (hb:fn.body.isNone = true) (hn:Extern.findNext fn = none) (he:Extern.find fn = some (Extern.Race.marked mk)) (hx:(asx.toList.map (ev e))[0]? = some (.pointer (some ad)))
  (h:AtL Y ft n b cs ds (deafBehind d #[⟨.mark (mk ad),false,true⟩]) (updO e dst (.tuple #[])) ops (i + 1) l k):AtL Y (ft + 1) n b cs ds d e ops i (⟨dst,.call { callee:=.value (.func f),args:=asx,argTypes:=ats },ty,ps,af,none⟩ :: l) k:=by
 intro hl a ha
 obtain ⟨ho,hl'⟩:=tail_of hl
 exact hY.st _ _ _ _ #[⟨.mark (mk ad),false,true⟩] rfl rfl (fun x hx=>by simp at hx; subst hx; exact hok) (fun w=>stepG_markAt mk hm ho (by rw [ha.yielded]; rfl) hk rfl hf hname hb hn he (by rw [ha.eval,map_list rfl]; simpa using hx)) (h hl' _ (ha.put hd _))
theorem AtL.pureEntry (hY:HF P main ok Y) (hk:b.kind ≠ .early) (v:Value) {f:FuncId} {fn:Func} {asx:Array Operand} {ats:Array TypeId} (hd:dstB n dst = true)
  (hf:P.funcs[f]? = some fn) (hname:(fn.name == "runtime.NumGoroutine") = false) (hb:fn.body.isNone = true) (hn:Extern.findNext fn = none) (he:Extern.find fn = some (fun _=>pure v))
  (h:AtL Y ft n b cs ds d (updO e dst v) ops (i + 1) l k):AtL Y (ft + 1) n b cs ds d e ops i (⟨dst,.call { callee:=.value (.func f),args:=asx,argTypes:=ats },ty,ps,af,none⟩ :: l) k:=by
 intro hl a ha
 obtain ⟨ho,hl'⟩:=tail_of hl
 exact hY.c rfl rfl (fun w=>stepG_entry_pure v ho (by rw [ha.yielded]; rfl) hk rfl hf hname hb hn he) (h hl' _ (ha.put hd _))
theorem AtL.defer (hY:HF P main ok Y) (hk:b.kind ≠ .early) {f:FuncId} {asx:Array Operand} {ats:Array TypeId} (vs:List Value) (hv:asx.toList.map (ev e) = vs)
  (h:AtL Y ft n b cs (dcall f vs.toArray :: ds) d e ops (i + 1) l k):AtL Y (ft + 1) n b cs ds d e ops i (⟨none,.defer { callee:=.value (.func f),args:=asx,argTypes:=ats },ty,ps,af,none⟩ :: l) k:=by
 intro hl a ha
 obtain ⟨ho,hl'⟩:=tail_of hl
 refine hY.c rfl rfl (fun w=>stepG_defer ho (by rw [ha.yielded]; rfl) hk rfl) ?_
 rw [ha.eval,map_list hv,ha.defers]
 exact h hl' _ ⟨ha.size,rfl,ha.get⟩
theorem AtR.leave1 (hY:HF P main ok Y) {fn:Func} {t:Tmp} {n0:Nat} {b0:Frame} {ds0:List Deferred} {e0:Env} {k0:List Item} {cs':List Frame} (hB:Back n0 b0 cs ds0 e0 ops i dst l k0 cs') (hn:b.kind = .normal) (hf:P.funcs[b.fn]? = some fn) (hr:fn.results = #[.tmp t]) (v:Value) (hv:e t = v)
  (h:AtL Y ft n0 b0 cs ds0 d (updO e0 dst v) ops (i + 1) l k0):AtR Y (ft + 1) n b cs' [] d e todo:=by
 intro a ha
 obtain ⟨a0,ha0,rfl⟩:=hB.rep
 subst hv
 refine hY.c rfl rfl (fun w=>?_) (h hB.tail _ (ha0.put hB.ok (e t)))
 rw [stepG_leave hn ha.defers hf (results_tmp hr _ P w) (events_results_tmp hr _ _),Frame.finish_at,ha.get,hB.slot]
theorem AtR.leave0 (hY:HF P main ok Y) {fn:Func} {n0:Nat} {b0:Frame} {ds0:List Deferred} {e0:Env} {k0:List Item} {cs':List Frame} (hB:Back n0 b0 cs ds0 e0 ops i dst l k0 cs') (hn:b.kind = .normal) (hf:P.funcs[b.fn]? = some fn) (hr:fn.results = #[])
  (h:AtL Y ft n0 b0 cs ds0 d (updO e0 dst (.tuple #[])) ops (i + 1) l k0):AtR Y (ft + 1) n b cs' [] d e todo:=by
 intro a ha
 obtain ⟨a0,ha0,rfl⟩:=hB.rep
 refine hY.c rfl rfl (fun w=>?_) (h hB.tail _ (ha0.put hB.ok (.tuple #[])))
 rw [stepG_leave hn ha.defers hf (results_none hr _ P w) (events_results_none hr _ _),Frame.finish_at,hB.slot]
theorem AtR.mark (hY:HF P main ok Y) (mk:Mark) (hm:∀ g,mk ≠ .extern g) (hok:ok ⟨.mark mk,false,true⟩) {f:FuncId} {fn:Func} (hf:P.funcs[f]? = some fn) (hname:(fn.name == "runtime.NumGoroutine") = false) (hb:fn.body.isNone = true) (hn:Extern.findNext fn = none) (he:Extern.find fn = some (fun _=>do mark mk; pure Extern.Race.none_))
  (h:AtR Y ft n b cs ds (deafBehind d #[⟨.mark mk,false,true⟩]) e todo):AtR Y (ft + 1) n b cs (dcall f #[] :: ds) d e todo:=by
 intro a ha
 refine hY.st _ _ _ _ #[⟨.mark mk,false,true⟩] rfl rfl (fun x hx=>by simp at hx; subst hx; exact hok) (fun w=>stepG_unwind_entry (v:=.tuple #[]) (evs:=#[⟨.mark mk,false,true⟩]) ha.defers hf hname hb hn he (by simp [Extern.Race.none_]) (by simp) (by
  intro x hx'
  simp at hx'
  subst hx'
  exact ⟨rfl,fun g h=>hm g (Loc.mark.inj h)⟩)) ?_
 exact h ⟨a.tmps,ds⟩ ⟨ha.size,rfl,ha.get⟩
theorem AtR.leaveD (hY:HF P main ok Y) {fn:Func} {c:Frame} (hn:b.kind = .deferred) (hf:P.funcs[b.fn]? = some fn) (hr:fn.results = #[]) (hc:c.mode = .returning) (h:Y ft d (G c cs)):AtR Y (ft + 1) n b (c :: cs) [] d e todo :=
 fun _a ha=>hY.c rfl rfl (fun w=>stepG_leave_deferred hn ha.defers hf (results_none hr _ P w) (events_results_none hr _ _) hc) h
def StG (P:Program) (main:Bool) (gr:Grp) (Y:Nat->Nat->Goroutine->Prop):Prop:=∀ m d g g',g.status = .running->g'.status = .running->(∀ w st sm,GAt gr st sm w->stepG P main g w = .go g' w #[])->Y m d g'->Y (m + 1) d g
theorem AtL.toUnsafe {gr:Grp} (hG:StG P main gr Y) (hk:b.kind ≠ .early) {S D t:TypeId} {x:Operand} {off:Nat} (hd:dstB n dst = true) (hx:ev e x = .pointer (some ⟨gr.blk,off,none⟩)) (hoff:off = gr.off\/off = gr.off + 1)
  (hS:P.underlying S = some (.pointer t)) (hD:P.underlying D = some .unsafePointer) (hsz:(P.info? t).map (fun i=>decide (i.size = 0)) = some false)
  (h:AtL Y ft n b cs ds d (updO e dst (.pointer (some ⟨gr.blk,off,none⟩))) ops (i + 1) l k):AtL Y (ft + 1) n b cs ds d e ops i (⟨dst,.convert S D x,ty,ps,af,none⟩ :: l) k:=by
 intro hl a ha
 obtain ⟨ho,hl'⟩:=tail_of hl
 refine hG _ _ _ _ rfl rfl (fun w st sm hw=>?_) (h hl' _ (ha.put hd _))
 obtain ⟨h1,h2,_,_⟩:=hw.cells
 obtain ⟨v,hc⟩:∃ v,w.cell? ⟨gr.blk,off,none⟩ = some v:=by
  rcases hoff with rfl | rfl
  ·exact ⟨_,h1⟩
  ·exact ⟨_,h2⟩
 have hr:(execOp a.eval ⟨dst,.convert S D x,ty,ps,af,none⟩).run P w = .ok (.value (.pointer (some ⟨gr.blk,off,none⟩))) w:=by
  rw [ha.eval]
  simp only [execOp,hx,Sem.run_bind,run_convert_to_unsafe hS hD hsz hc,Result.andThen_ok,Sem.run_pure]
 have he:(execOp a.eval ⟨dst,.convert S D x,ty,ps,af,none⟩).events P w #[] = #[]:=by
  rw [ha.eval]
  simp [execOp,hx,events_convert_to_unsafe hS hD hsz hc]
 show stepG P main (G (b.at a (.inRegion ops (i :: List.range' (i + 1) l.length) :: k)) cs) w = _
 rw [stepG_value ho (by rw [ha.yielded]; rfl) hk hr]
 unfold listed
 rw [he,seen_none]
end
section
variable {P:Program} {ρ:Operand->Value} {d:Option Nat} {ty:TypeId} {ps:String} {af:Array Edge} {g:Option (Nat × Bool)} {x y z:Operand} {T T':TypeId} {v:Value}
theorem pu_move (h:ρ x = v):Pu P (execOp ρ ⟨d,.move x,ty,ps,af,g⟩) v:=⟨fun w=>by subst h; rfl,fun w=>by subst h; rfl⟩
theorem pu_assign (h:ρ x = v):Pu P (execOp ρ ⟨d,.assign x,ty,ps,af,g⟩) v:=⟨fun w=>by subst h; rfl,fun w=>by subst h; rfl⟩
theorem pu_pickT (h:ρ z = .bool true) (hx:ρ x = v):Pu P (execOp ρ ⟨d,.pick z x y,ty,ps,af,g⟩) v:=⟨fun w=>by subst hx; exact Go.Vc.x_pickT h,fun w=>by simp [execOp,h,asBool]⟩
theorem pu_pickF (h:ρ z = .bool false) (hy:ρ y = v):Pu P (execOp ρ ⟨d,.pick z x y,ty,ps,af,g⟩) v:=⟨fun w=>by subst hy; exact Go.Vc.x_pickF h,fun w=>by simp [execOp,h,asBool]⟩
theorem pu_nilCheck {p:Addr} (h:ρ x = .pointer (some p)):Pu P (execOp ρ ⟨d,.nilCheck x,ty,ps,af,g⟩) (.pointer (some p)):=⟨fun w=>by simp [execOp,h],fun w=>by simp [execOp,h]⟩
theorem pu_field {S:TypeId} {b o f:Nat} {fs:Array Field} {fl:Field} {s:Nat} (hx:ρ x = .pointer (some ⟨b,o,none⟩)) (hT:P.underlying S = some (.struct fs)) (hf:fs[f]? = some fl) (hs:(P.info? fl.type).map (·.size) = some s) (h0:s ≠ 0):Pu P (execOp ρ ⟨d,.fieldAddr S x f,ty,ps,af,g⟩) (.pointer (some ⟨b,o + fl.offset,none⟩)):=by
 refine ⟨fun w=>Go.Vc.x_field hx hT hf hs h0,fun w=>?_⟩
 obtain ⟨i,hi,hs'⟩:=Option.map_eq_some_iff.1 hs
 simp [execOp,hx,Instr.fieldAt,run_underlying hT,hf,Instr.sureAddr,fieldPlace,sizeOf,typeInfo,hi,hs',h0,go_sem]
theorem pu_fieldR {S:TypeId} {b f:Nat} (o r:Nat) {fs:Array Field} {fl:Field} {s:Nat} (hx:ρ x = .pointer (some ⟨b,o,none⟩)) (hT:P.underlying S = some (.struct fs)) (hf:fs[f]? = some fl) (hs:(P.info? fl.type).map (·.size) = some s) (h0:s ≠ 0) (hr:o + fl.offset = r):Pu P (execOp ρ ⟨d,.fieldAddr S x f,ty,ps,af,g⟩) (.pointer (some ⟨b,r,none⟩)):=by subst hr; exact pu_field hx hT hf hs h0
variable {κ κ':IntKind} {m k r:Int}
theorem pu_lss (hx:ρ x = .int κ m) (hy:ρ y = .int κ k):Pu P (execOp ρ ⟨d,.binOp .lss T x y T',ty,ps,af,g⟩) (.bool (decide (m < k))):=⟨fun w=>Go.Vc.x_lss hx hy,fun w=>by simp [execOp,hx,hy,eqGuard,binOp,Op.intCmp]⟩
theorem pu_gtr (hx:ρ x = .int κ m) (hy:ρ y = .int κ k):Pu P (execOp ρ ⟨d,.binOp .gtr T x y T',ty,ps,af,g⟩) (.bool (decide (k < m))):=⟨fun w=>Go.Vc.x_gtr hx hy,fun w=>by simp [execOp,hx,hy,eqGuard,binOp,Op.intCmp]⟩
theorem pu_eql (hx:ρ x = .int κ m) (hy:ρ y = .int κ k):Pu P (execOp ρ ⟨d,.binOp .eql T x y T',ty,ps,af,g⟩) (.bool (decide (m = k))):=⟨fun w=>Go.Vc.x_eql hx hy,fun w=>by simp [execOp,hx,hy,go_sem,eqGuard,binOp,Op.intCmp]⟩
theorem pu_neq (hx:ρ x = .int κ m) (hy:ρ y = .int κ k):Pu P (execOp ρ ⟨d,.binOp .neq T x y T',ty,ps,af,g⟩) (.bool (decide (m ≠ k))):=⟨fun w=>Go.Vc.x_neq hx hy,fun w=>by simp [execOp,hx,hy,go_sem,eqGuard,binOp,Op.intCmp]⟩
theorem pu_lssB {r:Bool} (hx:ρ x = .int κ m) (hy:ρ y = .int κ k) (hr:decide (m < k) = r):Pu P (execOp ρ ⟨d,.binOp .lss T x y T',ty,ps,af,g⟩) (.bool r):=by subst hr; exact pu_lss hx hy
theorem pu_gtrB {r:Bool} (hx:ρ x = .int κ m) (hy:ρ y = .int κ k) (hr:decide (k < m) = r):Pu P (execOp ρ ⟨d,.binOp .gtr T x y T',ty,ps,af,g⟩) (.bool r):=by subst hr; exact pu_gtr hx hy
theorem pu_eqlB {r:Bool} (hx:ρ x = .int κ m) (hy:ρ y = .int κ k) (hr:decide (m = k) = r):Pu P (execOp ρ ⟨d,.binOp .eql T x y T',ty,ps,af,g⟩) (.bool r):=by subst hr; exact pu_eql hx hy
theorem pu_neqB {r:Bool} (hx:ρ x = .int κ m) (hy:ρ y = .int κ k) (hr:decide (m ≠ k) = r):Pu P (execOp ρ ⟨d,.binOp .neq T x y T',ty,ps,af,g⟩) (.bool r):=by subst hr; exact pu_neq hx hy
theorem pu_add (hx:ρ x = .int κ m) (hy:ρ y = .int κ k) (hr:κ.wrap (m + k) = r):Pu P (execOp ρ ⟨d,.binOp .add T x y T',ty,ps,af,g⟩) (.int κ r):=⟨fun w=>by rw [<- hr]; exact Go.Vc.x_add hx hy,fun w=>by simp [execOp,hx,hy,eqGuard,binOp,Op.intArith]⟩
theorem pu_sub (hx:ρ x = .int κ m) (hy:ρ y = .int κ k) (hr:κ.wrap (m - k) = r):Pu P (execOp ρ ⟨d,.binOp .sub T x y T',ty,ps,af,g⟩) (.int κ r):=⟨fun w=>by rw [<- hr]; exact Go.Vc.x_sub hx hy,fun w=>by simp [execOp,hx,hy,eqGuard,binOp,Op.intArith]⟩
theorem pu_and (hx:ρ x = .int κ m) (hy:ρ y = .int κ k) (hr:κ.wrap ((BitVec.ofInt κ.bits m &&& BitVec.ofInt κ.bits k).toNat:Int) = r):Pu P (execOp ρ ⟨d,.binOp .and T x y T',ty,ps,af,g⟩) (.int κ r):=⟨fun w=>by subst hr; simp [execOp,hx,hy,eqGuard,binOp,Op.intBits],fun w=>by simp [execOp,hx,hy,eqGuard,binOp,Op.intBits]⟩
theorem pu_shl (hx:ρ x = .int κ m) (hy:ρ y = .int κ' k) (h0:0 <= k) (hr:κ.wrap (m * 2 ^ (min k.toNat κ.bits)) = r):Pu P (execOp ρ ⟨d,.binOp .shl T x y T',ty,ps,af,g⟩) (.int κ r):=⟨fun w=>by subst hr; simp [execOp,hx,hy,eqGuard,binOp,Op.shift,show ¬ k < 0 by omega],fun w=>by simp [execOp,hx,hy,eqGuard,binOp,Op.shift,show ¬ k < 0 by omega]⟩
theorem pu_shr (hx:ρ x = .int κ m) (hy:ρ y = .int κ' k) (h0:0 <= k) (hr:m.fdiv (2 ^ (min k.toNat κ.bits)) = r):Pu P (execOp ρ ⟨d,.binOp .shr T x y T',ty,ps,af,g⟩) (.int κ r):=⟨fun w=>by subst hr; simp [execOp,hx,hy,eqGuard,binOp,Op.shift,show ¬ k < 0 by omega],fun w=>by simp [execOp,hx,hy,eqGuard,binOp,Op.shift,show ¬ k < 0 by omega]⟩
theorem pu_convert {S D:TypeId} (hx:ρ x = .int κ m) (hS:P.underlying S = some (.int κ)) (hD:P.underlying D = some (.int κ')) (hr:κ'.wrap m = r):Pu P (execOp ρ ⟨d,.convert S D x,ty,ps,af,g⟩) (.int κ' r):=by
 subst hr
 refine ⟨fun w=>?_,fun w=>?_⟩ <;> simp [execOp,hx,convert,run_underlying hS,run_underlying hD,go_sem]
end
theorem bkn (f:FuncId):(base f).kind ≠ .early:=by intro h; cases h
theorem bkd (f:FuncId):(baseD f).kind ≠ .early:=by intro h; cases h
theorem hf_lt (P:Program) (gr:Grp):HF P false (fun e=>says e = true) (fun m d g=>Lt P gr m d g) :=
 ⟨fun _m _d _g g' es h1 _ h3 h4 h5=>.inl ⟨g',es,⟨h1,h3,fun w _ _ _=>h4 w⟩,h5⟩⟩
theorem sg_lt (P:Program) (gr:Grp):StG P false gr (fun m d g=>Lt P gr m d g) :=
 fun m d g g' h1 _ h3 h4=>.inl ⟨g',#[],⟨h1,fun e he=>by simp at he,h3⟩,h4⟩
theorem hf_quits (P:Program):HF P false (fun e=>Event.mute e = true) (fun m d g=>QuitsD P m d g) :=
 ⟨fun _m _d _g g' es h1 _ h3 h4 h5=>.inr ⟨h1,g',es,h3,h4,h5⟩⟩
theorem QuitsD.mono {P:Program}:∀ {n m d:Nat} {g:Goroutine},QuitsD P n d g->n <= m->QuitsD P m d g
 | 0,0,_,_,h,_=>h
 | 0,_ + 1,_,_,h,_=>.inl h
 | n + 1,0,_,_,_,hm=>absurd hm (by omega)
 | n + 1,m + 1,_,_,h,hm=>h.elim .inl fun ⟨h1,g',es,h2,h3,h4⟩=>.inr ⟨h1,g',es,h2,h3,QuitsD.mono h4 (by omega)⟩
def quiet (e:Event):Bool:=match e.loc with
 | .mark .disable | .mark .enable | .mark (.read _) | .mark (.write _)=>false
 | .mark _=>true
 | _=>false
theorem quiet_says {e:Event} (h:quiet e = true):says e = true/\e.loc ≠ .mark .disable/\e.loc ≠ .mark .enable:=by
 obtain ⟨l,a,b⟩:=e
 cases l with
 | mark m=>cases m <;> first | (cases h; done) | exact ⟨rfl,by simp,by simp⟩
 | _=>cases h
theorem deaf_quiet {d:Nat} {es:Array Event} (h:∀ e ∈ es,quiet e = true):deafBehind d es = d:=deafBehind_still (fun e he=>(quiet_says (h e he)).2) d
theorem hf_lst (P:Program) (gr:Grp) (s:Nat):HF P false (fun e=>quiet e = true) (fun m d g=>0 < d->Lst P gr m s d g) :=
 ⟨fun m d g g' es h1 _ h3 h4 h5 hd=>⟨hd,.inl ⟨g',es,⟨h1,fun e he=>(quiet_says (h3 e he)).1,fun w _ _ _=>h4 w⟩,fun e he=>(quiet_says (h3 e he)).2,by rw [deaf_quiet h3] at h5; exact h5 hd⟩⟩⟩
theorem low31 (v wt:Nat) (hw:wt <= 1) (hv:v < 2147483648):IntKind.u64.wrap ((BitVec.ofInt IntKind.u64.bits ((v * 4294967296 + wt:Nat):Int) &&& BitVec.ofInt IntKind.u64.bits 2147483648).toNat:Int) = 0:=by
 have h1:(BitVec.ofInt 64 ((v * 4294967296 + wt:Nat):Int)).toNat = v * 4294967296 + wt:=by
  rw [BitVec.ofInt_natCast,BitVec.toNat_ofNat]; exact Nat.mod_eq_of_lt (by omega)
 have h2:(BitVec.ofInt 64 2147483648).toNat = 2147483648:=by decide
 show IntKind.u64.wrap ((BitVec.ofInt 64 ((v * 4294967296 + wt:Nat):Int) &&& BitVec.ofInt 64 2147483648).toNat:Int) = 0
 rw [BitVec.toNat_and,h1,h2]
 have h3:(v * 4294967296 + wt) &&& 2147483648 = 0:=by
  apply Nat.eq_of_testBit_eq
  intro i
  rw [Nat.testBit_and,Nat.zero_testBit]
  by_cases hi:i = 31
  ·subst hi
   have:(v * 4294967296 + wt).testBit 31 = false:=by
    rw [Nat.testBit_eq_decide_div_mod_eq]
    have:(v * 4294967296 + wt) / 2 ^ 31 = v * 2:=by omega
    rw [this]; simp
   rw [this]; rfl
  ·have:(2147483648:Nat).testBit i = false:=by
    rw [show (2147483648:Nat) = 2 ^ 31 by decide,Nat.testBit_two_pow]
    simp; omega
   rw [this]; simp
 rw [h3]; decide
theorem lowAll (v wt:Nat) (hw:wt <= 1) (hv:v < 2147483648):IntKind.u64.wrap ((BitVec.ofInt IntKind.u64.bits ((v * 4294967296 + wt:Nat):Int) &&& BitVec.ofInt IntKind.u64.bits 2147483647).toNat:Int) = (wt:Int):=by
 have h1:(BitVec.ofInt 64 ((v * 4294967296 + wt:Nat):Int)).toNat = v * 4294967296 + wt:=by
  rw [BitVec.ofInt_natCast,BitVec.toNat_ofNat]; exact Nat.mod_eq_of_lt (by omega)
 have h2:(BitVec.ofInt 64 2147483647).toNat = 2147483647:=by decide
 show IntKind.u64.wrap ((BitVec.ofInt 64 ((v * 4294967296 + wt:Nat):Int) &&& BitVec.ofInt 64 2147483647).toNat:Int) = _
 rw [BitVec.toNat_and,h1,h2,show (2147483647:Nat) = 2 ^ 31 - 1 by decide,Nat.and_two_pow_sub_one_eq_mod]
 rw [IntKind.wrap_u64]
 omega
theorem shr32 (v wt:Nat) (hw:wt <= 1):(((v * 4294967296 + wt:Nat):Int)).fdiv (2 ^ (min (32:Int).toNat IntKind.u64.bits)) = (v:Int):=by
 have:(2:Int) ^ (min (32:Int).toNat IntKind.u64.bits) = 4294967296:=by decide
 rw [this,Int.fdiv_eq_ediv_of_nonneg _ (by decide)]
 omega
theorem i32_wrap (v:Nat) (hv:v < 2147483648):IntKind.i32.wrap (v:Int) = (v:Int):=by
 simp only [IntKind.wrap,IntKind.bits,IntKind.signed]
 simp
 omega
attribute [local irreducible] KK
theorem kk_eq:KK = 4294967296:=by unfold KK; rfl
theorem add_neg1 (v wt:Nat) (h:v < 2147483647) (hw:wt <= 1):IntKind.u64.wrap ((((v + 1) * 4294967296 + wt:Nat):Int) + 18446744069414584320) = ((v * 4294967296 + wt:Nat):Int):=by rw [IntKind.wrap_u64]; omega
theorem add_pos1 (v:Nat) (h:v < 2147483647):IntKind.u64.wrap (((v * 4294967296:Nat):Int) + 4294967296) = (((v + 1) * 4294967296:Nat):Int):=by rw [IntKind.wrap_u64]; omega
section
variable {P:Program} {gr:Grp} {ft n:Nat} {b:Frame} {cs:List Frame} {ds:List Deferred} {d:Nat} {e:Env} {k:List Item} {ops:Array Oper} {i:Nat} {l:List Oper} {dst:Option Nat} {ty:TypeId} {ps:String} {af:Array Edge} {f:FuncId} {fn:Func} {x y z:Operand} {ats:Array TypeId}
abbrev YLt (P:Program) (gr:Grp):Nat->Nat->Goroutine->Prop:=fun m d g=>Lt P gr m d g
abbrev YQ (P:Program):Nat->Nat->Goroutine->Prop:=fun m d g=>QuitsD P m d g
abbrev YLst (P:Program) (gr:Grp) (s:Nat):Nat->Nat->Goroutine->Prop:=fun m d g=>0 < d->Lst P gr m s d g
theorem AtL.ltAdd (hk:b.kind ≠ .early) (hd:dstB n dst = true) (hf:P.funcs[f]? = some fn) (hname:(fn.name == "runtime.NumGoroutine") = false) (hb:fn.body.isNone = true) (hn:Extern.findNext fn = none) (he:Extern.find fn = some (Extern.Atomic.update (Op.intArith .add) .u64 true)) (hx:ev e x = .pointer (some ⟨gr.blk,gr.off,none⟩)) (hy:ev e y = .int .u64 18446744069414584320)
  (h1:∀ v wt:Nat,wt <= 1->v < 2147483647->¬ (v = 0/\wt = 1)->AtL (YQ P) ft n b cs ds (d + 1) (updO e dst (.int .u64 ((v * 4294967296 + wt:Nat):Int))) ops (i + 1) l k)
  (h2:AtL (YLst P gr 2) ft n b cs ds (d + 1) (updO e dst (.int .u64 ((0 * 4294967296 + 1:Nat):Int))) ops (i + 1) l k) :
  AtL (YLt P gr) (ft + 1) n b cs ds (d + 1) e ops i (⟨dst,.call { callee:=.value (.func f),args:=#[x,y],argTypes:=ats },ty,ps,af,none⟩ :: l) k:=by
 intro hl a ha
 obtain ⟨ho,hl'⟩:=tail_of hl
 refine .inr ⟨rfl,Nat.succ_pos d,fun v wt hwt hv=>⟨G (b.at (a.put dst (.int .u64 ((v * 4294967296 + wt:Nat):Int))) (.inRegion ops (List.range' (i + 1) l.length) :: k)) cs,fun w hw=>?_,fun hne=>h1 v wt hwt hv hne hl' _ (ha.put hd _),fun hl2=>?_⟩⟩
 ·rw [kk_eq] at hw ⊢
  obtain ⟨c1,_,c3,_⟩:=hw.cells
  show stepG P false (G (b.at a (.inRegion ops (i :: List.range' (i + 1) l.length) :: k)) cs) w = _
  rw [stepG_add_atomic ho (by rw [ha.yielded]; rfl) hk rfl hf hname hb hn .u64 he (ad:=stA gr) (by rw [ha.eval]; exact hx) (by rw [ha.eval]; exact hy) c1 c3,add_neg1 v wt hv hwt]
  rfl
 ·obtain ⟨rfl,rfl⟩:=hl2
  exact h2 hl' _ (ha.put hd _) (Nat.succ_pos d)
theorem AtL.lstLoad (hk:b.kind ≠ .early) (hd:dstB n dst = true) (hf:P.funcs[f]? = some fn) (hname:(fn.name == "runtime.NumGoroutine") = false) (hb:fn.body.isNone = true) (hn:Extern.findNext fn = none) (he:Extern.find fn = some (Extern.Atomic.loadT (.int .u64))) (hx:ev e x = .pointer (some ⟨gr.blk,gr.off,none⟩))
  (h:AtL (YLst P gr 1) ft n b cs ds d (updO e dst (.int .u64 1)) ops (i + 1) l k) :
  AtL (YLst P gr 2) (ft + 1) n b cs ds d e ops i (⟨dst,.call { callee:=.value (.func f),args:=#[x],argTypes:=ats },ty,ps,af,none⟩ :: l) k:=by
 intro hl a ha h0
 obtain ⟨ho,hl'⟩:=tail_of hl
 refine ⟨h0,.inr ⟨rfl,G (b.at (a.put dst (.int .u64 1)) (.inRegion ops (List.range' (i + 1) l.length) :: k)) cs,fun w hw=>?_,h hl' _ (ha.put hd _) h0⟩⟩
 exact stepG_load_atomic (v:=1) ho (by rw [ha.yielded]; rfl) hk rfl hf hname hb hn .u64 he (ad:=stA gr) (by rw [ha.eval]; exact hx) hw.cells.1
theorem AtL.lstStore (hk:b.kind ≠ .early) (hd:dstB n dst = true) (hf:P.funcs[f]? = some fn) (hname:(fn.name == "runtime.NumGoroutine") = false) (hb:fn.body.isNone = true) (hn:Extern.findNext fn = none) (he:Extern.find fn = some Extern.Atomic.storeT) (hx:ev e x = .pointer (some ⟨gr.blk,gr.off,none⟩)) (hy:ev e y = .int .u64 0)
  (h:AtL (YLst P gr 0) ft n b cs ds d (updO e dst (.tuple #[])) ops (i + 1) l k) :
  AtL (YLst P gr 1) (ft + 1) n b cs ds d e ops i (⟨dst,.call { callee:=.value (.func f),args:=#[x,y],argTypes:=ats },ty,ps,af,none⟩ :: l) k:=by
 intro hl a ha h0
 obtain ⟨ho,hl'⟩:=tail_of hl
 refine ⟨h0,.inr ⟨rfl,G (b.at (a.put dst (.tuple #[])) (.inRegion ops (List.range' (i + 1) l.length) :: k)) cs,fun w hw=>?_,h hl' _ (ha.put hd _) h0⟩⟩
 exact stepG_store_atomic ho (by rw [ha.yielded]; rfl) hk rfl hf hname hb hn he (ad:=stA gr) (k:=.u64) (v:=0) (by rw [ha.eval]; exact hx) (by rw [ha.eval]; exact hy) hw.cells.1 hw.cells.2.2.1
theorem mayWake_entry {a:Act} {rest:List Nat} {o:Oper} {xs:Array Operand}
  (ho:ops[i]? = some o) (hop:o.op = .call { callee:=.value (.func f),args:=xs,argTypes:=ats }) (hf:P.funcs[f]? = some fn) (hb:fn.body.isNone = true):mayWake P (G (b.at a (.inRegion ops (i :: rest) :: k)) cs) = true:=by
 have h2:fn.body = none:=by simpa using hb
 have ef:(b.at a (.inRegion ops (i :: rest) :: k)).eval (.func f) = .func (.func f) #[] #[]:=rfl
 simp [mayWake,G,Frame.at,ho,hop] at ef ⊢
 simp [ef,hf,h2]
theorem AtL.lstRel (hk:b.kind ≠ .early) (hd:dstB n dst = true) (hf:P.funcs[f]? = some fn) (hname:(fn.name == "runtime.NumGoroutine") = false) (hb:fn.body.isNone = true) (hn:Extern.findNext fn = none) (he:Extern.find fn = some Extern.Sync.semrelease) {asx:Array Operand} (hx:(asx.toList.map (ev e))[0]? = some (.pointer (some ⟨gr.blk,gr.off + 1,none⟩)))
  (h:AtL (YQ P) ft n b cs ds d (updO e dst (.tuple #[])) ops (i + 1) l k) :
  AtL (YLst P gr 0) (ft + 1) n b cs ds d e ops i (⟨dst,.call { callee:=.value (.func f),args:=asx,argTypes:=ats },ty,ps,af,none⟩ :: l) k:=by
 intro hl a ha h0
 obtain ⟨ho,hl'⟩:=tail_of hl
 refine ⟨h0,.inr ⟨rfl,mayWake_entry (rest:=List.range' (i + 1) l.length) ho rfl hf hb,G (b.at (a.put dst (.tuple #[])) (.inRegion ops (List.range' (i + 1) l.length) :: k)) cs,fun w hw=>?_,h hl' _ (ha.put hd _)⟩⟩
 have:=stepG_semrelease (P:=P) (main:=false) (b:=b) (kk:=k) (cs:=cs) (rest:=List.range' (i + 1) l.length) (n:=0) ho (by rw [ha.yielded]; rfl) hk rfl hf hname hb hn he (ad:=smA gr) (by rw [ha.eval,map_list rfl]; simpa [smA] using hx) hw.cells.2.1 hw.cells.2.2.2
 exact this
variable {K:Goroutine->Prop} {o:Option Nat} {V:Nat}
abbrev YAddA (P:Program) (gr:Grp) (K:Goroutine->Prop):Nat->Nat->Goroutine->Prop:=fun m d g=>AddA P gr K m d g
abbrev YAddB (P:Program) (gr:Grp) (K:Goroutine->Prop):Nat->Nat->Goroutine->Prop:=fun m d g=>AddB P gr K m d g
abbrev YWH (P:Program) (gr:Grp) (K:Goroutine->Prop) (o:Option Nat) (V:Nat):Nat->Nat->Goroutine->Prop:=fun m d g=>WH P gr K m o V d g
abbrev YWS (P:Program) (gr:Grp) (K:Goroutine->Prop):Nat->Nat->Goroutine->Prop:=fun m d g=>WS P gr K m d g
abbrev YWE (P:Program) (gr:Grp) (K:Goroutine->Prop):Nat->Nat->Goroutine->Prop:=fun m d g=>WE P gr K m d g
def okM (gr:Grp) (e:Event):Prop:=says e = true\/e.loc = .mark (.read ⟨gr.blk,gr.off + 1,none⟩)\/e.loc = .mark (.write ⟨gr.blk,gr.off + 1,none⟩)
theorem okM_gev {e:Event} (h:okM gr e):GEv gr 0 e:=by
 rcases h with h | h | h
 ·exact says_gev h
 ·obtain ⟨l,w,s⟩:=e
  cases h
  intro b hb
  simp [MemAct.ofEvent,MemAct.touch?] at hb
  subst hb
  exact ⟨⟨_,rfl,rfl,by simp⟩,by simp,fun h=>absurd rfl h⟩
 ·obtain ⟨l,w,s⟩:=e
  cases h
  intro b hb
  simp [MemAct.ofEvent,MemAct.touch?] at hb
  subst hb
  exact ⟨⟨_,rfl,rfl,by simp⟩,by simp,fun h=>absurd rfl h⟩
theorem hushM_of {g g':Goroutine} {es:Array Event} (h1:g.status = .running) (h2:g'.status = .running) (h3:∀ e ∈ es,okM gr e) (h4:∀ w st sm,GAt gr st sm w->stepG P true g w = .go g' w es):HushM P gr g g' es:=⟨h1,h2,fun e he=>okM_gev (h3 e he),h4⟩
theorem hf_addA:HF P true (okM gr) (YAddA P gr K):=⟨fun _m _d _g g' es h1 h2 h3 h4 h5=>.inl ⟨g',es,hushM_of h1 h2 h3 fun w _ _ _=>h4 w,h5⟩⟩
theorem hf_addB:HF P true (okM gr) (YAddB P gr K):=⟨fun _m _d _g g' es h1 h2 h3 h4 h5=>.inr ⟨g',es,hushM_of h1 h2 h3 fun w _ _ _=>h4 w,h5⟩⟩
theorem sg_addB:StG P true gr (YAddB P gr K):=fun m d g g' h1 h2 h3 h4=>.inr ⟨g',#[],hushM_of h1 h2 (fun e he=>by simp at he) h3,h4⟩
theorem hf_wh:HF P true (okM gr) (YWH P gr K o V):=⟨fun _m _d _g g' es h1 h2 h3 h4 h5=>.inl ⟨g',es,hushM_of h1 h2 h3 fun w _ _ _=>h4 w,h5⟩⟩
theorem hf_ws:HF P true (okM gr) (YWS P gr K):=⟨fun _m _d _g g' es h1 h2 h3 h4 h5=>.inl ⟨g',es,hushM_of h1 h2 h3 fun w _ _ _=>h4 w,h5⟩⟩
theorem sg_ws:StG P true gr (YWS P gr K):=fun m d g g' h1 h2 h3 h4=>.inl ⟨g',#[],hushM_of h1 h2 (fun e he=>by simp at he) h3,h4⟩
theorem hf_we:HF P true (okM gr) (YWE P gr K):=⟨fun _m _d _g g' es h1 _h2 h3 h4 h5=>.inr ⟨g',es,h1,fun e he=>okM_gev (h3 e he),fun w _=>h4 w,h5⟩⟩
theorem sg_we:StG P true gr (YWE P gr K):=fun m d g g' h1 h2 h3 h4=>.inr ⟨g',#[],h1,fun e he=>by simp at he,fun w hw=>h3 w _ _ hw,h4⟩
theorem WE.mono:∀ {n m d:Nat} {g:Goroutine},WE P gr K n d g->n <= m->WE P gr K m d g
 | 0,0,_,_,h,_=>h
 | 0,_ + 1,_,_,h,_=>.inl h
 | n + 1,0,_,_,_,hm=>absurd hm (by omega)
 | n + 1,m + 1,_,_,h,hm=>h.elim .inl fun ⟨g',es,h1,h2,h3,h4⟩=>.inr ⟨g',es,h1,h2,h3,WE.mono h4 (by omega)⟩
theorem WS.mono:∀ {n m d:Nat} {g:Goroutine},WS P gr K n d g->n <= m->WS P gr K m d g
 | 0,_,_,_,h,_=>h.elim
 | n + 1,0,_,_,_,hm=>absurd hm (by omega)
 | n + 1,m + 1,_,_,h,hm=>by
  rcases h with ⟨g',es,h1,h2⟩ | ⟨h0,h1,h2,h3,g',h4,h5⟩
  ·exact .inl ⟨g',es,h1,WS.mono h2 (by omega)⟩
  ·exact .inr ⟨h0,h1,h2,h3,g',h4,WE.mono h5 (by omega)⟩
theorem WH.mono:∀ {n m:Nat} {o:Option Nat} {V d:Nat} {g:Goroutine},WH P gr K n o V d g->n <= m->WH P gr K m o V d g
 | 0,_,_,_,_,_,h,_=>h.elim
 | n + 1,0,_,_,_,_,_,hm=>absurd hm (by omega)
 | n + 1,m + 1,o,V,d,g,h,hm=>by
  unfold WH at h ⊢
  rcases h with ⟨g',es,h1,h2⟩ | ⟨h1,h2⟩
  ·exact .inl ⟨g',es,h1,WH.mono h2 (by omega)⟩
  ·refine .inr ⟨h1,?_⟩
   cases o with
   | none =>
    intro v hv
    obtain ⟨g',h3,h4,h5⟩:=h2 v hv
    exact ⟨g',h3,fun hz=>WE.mono (h4 hz) (by omega),fun hz=>WH.mono (h5 hz) (by omega)⟩
   | some vs =>
    obtain ⟨⟨g',h3,h4⟩,h5⟩:=h2
    refine ⟨⟨g',h3,WS.mono h4 (by omega)⟩,fun v hv=>?_⟩
    obtain ⟨g2,h6,h7⟩:=h5 v hv
    exact ⟨g2,h6,WH.mono h7 (by omega)⟩
theorem At.reenter {Y:Nat->Nat->Goroutine->Prop} {t:Nat} {v:Value} {todo:List Item} (h:∀ e,At Y ft n b cs ds d (upd e t v) todo) (he:e t = v):At Y ft n b cs ds d e todo:=by rw [Go.Vc.upd_id he]; exact h e
theorem At.whMono {ft':Nat} {todo:List Item} (h:At (YWH P gr K o V) ft n b cs ds d e todo) (hm:ft <= ft'):At (YWH P gr K o V) ft' n b cs ds d e todo:=fun a ha=>WH.mono (h a ha) hm
theorem AtR.leaveK {main:Bool} {ok:Event->Prop} {Y:Nat->Nat->Goroutine->Prop} {todo:List Item} (hY:HF P main ok Y) {c:Frame} (hn:b.kind = .normal) (hf:P.funcs[b.fn]? = some fn) (hr:fn.results = #[]) (h:Y ft d (G (c.finish (.tuple #[])) cs)):AtR Y (ft + 1) n b (c :: cs) [] d e todo :=
 fun _a ha=>hY.c rfl rfl (fun w=>stepG_leave hn ha.defers hf (results_none hr _ P w) (events_results_none hr _ _)) h
theorem addB_end {g:Goroutine} (h:K g):YAddB P gr K n 0 g:=by cases n with
 | zero=>exact ⟨rfl,h⟩
 | succ n=>exact .inl ⟨rfl,h⟩
theorem we_end {g:Goroutine} (h:K g):YWE P gr K n 0 g:=by cases n with
 | zero=>exact ⟨rfl,h⟩
 | succ n=>exact .inl ⟨rfl,h⟩
theorem AtL.addA (hk:b.kind ≠ .early) (hd:dstB n dst = true) (hf:P.funcs[f]? = some fn) (hname:(fn.name == "runtime.NumGoroutine") = false) (hb:fn.body.isNone = true) (hn:Extern.findNext fn = none) (he:Extern.find fn = some (Extern.Atomic.update (Op.intArith .add) .u64 true)) (hx:ev e x = .pointer (some ⟨gr.blk,gr.off,none⟩)) (hy:ev e y = .int .u64 4294967296)
  (h:∀ v:Nat,v < 2147483647->AtL (YAddB P gr K) ft n b cs ds d (updO e dst (.int .u64 (((v + 1) * 4294967296 + 0:Nat):Int))) ops (i + 1) l k) :
  AtL (YAddA P gr K) (ft + 1) n b cs ds d e ops i (⟨dst,.call { callee:=.value (.func f),args:=#[x,y],argTypes:=ats },ty,ps,af,none⟩ :: l) k:=by
 intro hl a ha
 obtain ⟨ho,hl'⟩:=tail_of hl
 simp only [Nat.add_zero] at h
 refine .inr ⟨rfl,fun v hv=>⟨G (b.at (a.put dst (.int .u64 (((v + 1) * 4294967296:Nat):Int))) (.inRegion ops (List.range' (i + 1) l.length) :: k)) cs,rfl,fun w hw=>?_,h v hv hl' _ (ha.put hd _)⟩⟩
 rw [kk_eq] at hw ⊢
 obtain ⟨c1,_,c3,_⟩:=hw.cells
 show stepG P true (G (b.at a (.inRegion ops (i :: List.range' (i + 1) l.length) :: k)) cs) w = _
 rw [stepG_add_atomic ho (by rw [ha.yielded]; rfl) hk rfl hf hname hb hn .u64 he (ad:=stA gr) (by rw [ha.eval]; exact hx) (by rw [ha.eval]; exact hy) c1 c3,add_pos1 v hv]
 rfl
theorem AtL.whLoad (hk:b.kind ≠ .early) (hd:dstB n dst = true) (hf:P.funcs[f]? = some fn) (hname:(fn.name == "runtime.NumGoroutine") = false) (hb:fn.body.isNone = true) (hn:Extern.findNext fn = none) (he:Extern.find fn = some (Extern.Atomic.loadT (.int .u64))) (hx:ev e x = .pointer (some ⟨gr.blk,gr.off,none⟩))
  (h0:AtL (YWE P gr K) ft n b cs ds d (updO e dst (.int .u64 0)) ops (i + 1) l k)
  (h:∀ v:Nat,v <= V->0 < v->AtL (YWH P gr K (some v) V) ft n b cs ds d (updO e dst (.int .u64 ((v * 4294967296 + 0:Nat):Int))) ops (i + 1) l k) :
  AtL (YWH P gr K none V) (ft + 1) n b cs ds d e ops i (⟨dst,.call { callee:=.value (.func f),args:=#[x],argTypes:=ats },ty,ps,af,none⟩ :: l) k:=by
 intro hl a ha
 obtain ⟨ho,hl'⟩:=tail_of hl
 simp only [Nat.add_zero] at h
 refine .inr ⟨rfl,fun v hv=>⟨G (b.at (a.put dst (.int .u64 ((v * 4294967296:Nat):Int))) (.inRegion ops (List.range' (i + 1) l.length) :: k)) cs,fun w hw=>?_,fun hz=>?_,fun hz=>h v hv (by omega) hl' _ (ha.put hd _)⟩⟩
 ·rw [kk_eq] at hw
  exact stepG_load_atomic ho (by rw [ha.yielded]; rfl) hk rfl hf hname hb hn .u64 he (ad:=stA gr) (by rw [ha.eval]; exact hx) hw.cells.1
 ·subst hz
  rw [Nat.zero_mul]
  exact h0 hl' _ (ha.put hd _)
theorem AtL.whCas {vs:Nat} (hk:b.kind ≠ .early) (hd:dstB n dst = true) (hf:P.funcs[f]? = some fn) (hname:(fn.name == "runtime.NumGoroutine") = false) (hb:fn.body.isNone = true) (hn:Extern.findNext fn = none) (he:Extern.find fn = some (Extern.Atomic.casT (.int .u64))) (hx:ev e x = .pointer (some ⟨gr.blk,gr.off,none⟩)) (hy:ev e y = .int .u64 ((vs * 4294967296 + 0:Nat):Int)) (hz:ev e z = .int .u64 ((vs * 4294967296 + 1:Nat):Int))
  (h0:AtL (YWS P gr K) ft n b cs ds d (updO e dst (.bool true)) ops (i + 1) l k)
  (h:∀ v:Nat,v < vs->AtL (YWH P gr K none v) ft n b cs ds d (updO e dst (.bool false)) ops (i + 1) l k) :
  AtL (YWH P gr K (some vs) V) (ft + 1) n b cs ds d e ops i (⟨dst,.call { callee:=.value (.func f),args:=#[x,y,z],argTypes:=ats },ty,ps,af,none⟩ :: l) k:=by
 intro hl a ha
 obtain ⟨ho,hl'⟩:=tail_of hl
 rw [Nat.add_zero] at hy
 refine .inr ⟨rfl,⟨G (b.at (a.put dst (.bool true)) (.inRegion ops (List.range' (i + 1) l.length) :: k)) cs,fun w hw=>?_,h0 hl' _ (ha.put hd _)⟩,fun v hv=>⟨G (b.at (a.put dst (.bool false)) (.inRegion ops (List.range' (i + 1) l.length) :: k)) cs,fun w hw=>?_,h v hv hl' _ (ha.put hd _)⟩⟩
 ·rw [kk_eq] at hw ⊢
  exact stepG_cas_hit ho (by rw [ha.yielded]; rfl) hk rfl hf hname hb hn .u64 he (ad:=stA gr) (by rw [ha.eval]; exact hx) (by rw [ha.eval]; exact hy) (by rw [ha.eval]; exact hz) hw.cells.1 hw.cells.2.2.1
 ·rw [kk_eq] at hw
  exact stepG_cas_miss ho (by rw [ha.yielded]; rfl) hk rfl hf hname hb hn .u64 he (ad:=stA gr) (by rw [ha.eval]; exact hx) (by rw [ha.eval]; exact hy) (by rw [ha.eval]; exact hz) hw.cells.1 hw.cells.2.2.1 (by omega)
theorem AtL.wsSem (hk:b.kind ≠ .early) (hd:dstB n dst = true) (hf:P.funcs[f]? = some fn) (hname:(fn.name == "runtime.NumGoroutine") = false) (hb:fn.body.isNone = true) (hn:Extern.findNext fn = none) (he:Extern.find fn = some Extern.Sync.semacquire) {asx:Array Operand} (hx:(asx.toList.map (ev e))[0]? = some (.pointer (some ⟨gr.blk,gr.off + 1,none⟩)))
  (h:AtL (YWE P gr K) ft n b cs ds (d + 1) (updO e dst (.tuple #[])) ops (i + 1) l k) :
  AtL (YWS P gr K) (ft + 1) n b cs ds (d + 1) e ops i (⟨dst,.call { callee:=.value (.func f),args:=asx,argTypes:=ats },ty,ps,af,none⟩ :: l) k:=by
 intro hl a ha
 obtain ⟨ho,hl'⟩:=tail_of hl
 have hx':(asx.map a.eval)[0]? = some (.pointer (some (smA gr))):=by rw [ha.eval,map_list rfl]; simpa [smA] using hx
 refine .inr ⟨Nat.succ_pos d,rfl,rfl,fun w st hw=>?_,G (b.at (a.put dst (.tuple #[])) (.inRegion ops (List.range' (i + 1) l.length) :: k)) cs,fun w hw=>?_,h hl' _ (ha.put hd _)⟩
 ·exact stepG_semacquire_wait ho (by rw [ha.yielded]; rfl) rfl hf hname hb hn he hx' hw.cells.2.1
 ·exact stepG_semacquire (n:=1) ho (by rw [ha.yielded]; rfl) hk rfl hf hname hb hn he hx' hw.cells.2.1 (by decide) hw.cells.2.2.2
theorem AtL.weLoad (hk:b.kind ≠ .early) (hd:dstB n dst = true) (hf:P.funcs[f]? = some fn) (hname:(fn.name == "runtime.NumGoroutine") = false) (hb:fn.body.isNone = true) (hn:Extern.findNext fn = none) (he:Extern.find fn = some (Extern.Atomic.loadT (.int .u64))) (hx:ev e x = .pointer (some ⟨gr.blk,gr.off,none⟩))
  (h:AtL (YWE P gr K) ft n b cs ds d (updO e dst (.int .u64 0)) ops (i + 1) l k) :
  AtL (YWE P gr K) (ft + 1) n b cs ds d e ops i (⟨dst,.call { callee:=.value (.func f),args:=#[x],argTypes:=ats },ty,ps,af,none⟩ :: l) k:=by
 intro hl a ha
 obtain ⟨ho,hl'⟩:=tail_of hl
 refine .inr ⟨G (b.at (a.put dst (.int .u64 0)) (.inRegion ops (List.range' (i + 1) l.length) :: k)) cs,#[rdA (stA gr)],rfl,rd_gev,fun w hw=>?_,?_⟩
 ·exact stepG_load_atomic ho (by rw [ha.yielded]; rfl) hk rfl hf hname hb hn .u64 he (ad:=stA gr) (by rw [ha.eval]; exact hx) hw.cells.1
 ·rw [deafBehind_still nomark_r]
  exact h hl' _ (ha.put hd _)
end
end Go.Wg
end
/- Walks at the level of one condition: pieces of code, regions that end in an operation of their own kind; steps that only stay-places are read in. Nothing here speaks of a program. -/
section
namespace Go.Vy
open Go Go.Conc Go.Yc Go.RowKit
open Go.Vc
section
variable {P:Program} [Ctx P] {Z:Goroutine->World->Prop} {Q:Exit->Act->World->Prop} {ops:Array Oper} {b:Frame} {k:List Item} {cs:List Frame}
theorem z_oper (hZ:Ctx.Zs P Z) (hb:b.kind ≠ .early) (hk:∀ ch a' w',Q (.panic ch) a' w'->ArrZ Z b k cs (.panic ch) a' w') {i:Nat} {rest:List Nat} {o:Oper} {a:Act} {w:World} (ho:ops[i]? = some o)
  (h:if Region.wanted o (yielded ops a.tmps) then opwp P o a w (fun a w=>Z (G (b.at a (.inRegion ops rest :: k)) cs) w) Q else Z (G (b.at (a.put o.dst undef) (.inRegion ops rest :: k)) cs) w):Z (G (b.at a (.inRegion ops (i :: rest) :: k)) cs) w:=by
 cases hw:Region.wanted o (yielded ops a.tmps) with
 | false =>
  rw [hw] at h
  exact (Ctx.cl Z hZ).ctl rfl rfl (fun w=>stepG_unwanted ho hw) h
 | true =>
  rw [hw,if_pos rfl] at h
  have hfin:∀ v,(b.at a (.inRegion ops (i :: rest) :: k)).finish v = b.at (a.put o.dst v) (.inRegion ops rest :: k):=by
   intro v; rw [Frame.finish_at,ho]; rfl
  have hkind:(b.kind == CallKind.early) = false:=by simpa using hb
  refine (Ctx.cl Z hZ).own _ _ rfl fun τ d=>?_
  obtain ⟨r,w',hr,hK⟩:=h τ d
  have fol:∀ g',g'.status = .running->(∀ x x' es,(execOp a.eval o).runT P x #[] = (r.res x',es)->stepG P (Ctx.main P) (G (b.at a (.inRegion ops (i :: rest) :: k)) cs) x = .go g' x' (seen P b.fn es))->Follows P (Ctx.main P) (G (b.at a (.inRegion ops (i :: rest) :: k)) cs) (onT w τ d) g' w':=by
   intro g' hg' hs
   refine ⟨hg',fun ρ x hx=>?_⟩
   obtain ⟨h1,x',es,h2,h3,h4⟩:=hr ρ x hx
   exact ⟨h1,x',_,hs x x' es h2,h3,fun e he=>h4 e (mem_seen he)⟩
  have split:∀ x x' es,(execOp a.eval o).runT P x #[] = (r.res x',es)->(execOp a.eval o).run P x = r.res x'/\(execOp a.eval o).events P x #[] = es:=fun x x' es h=>by
   rw [Sem.runT_eq] at h
   exact Prod.mk.inj h
  cases r with
  | val v =>
   refine ⟨G (b.at (a.put o.dst v) (.inRegion ops rest :: k)) cs,w',w.drawn,fol _ rfl fun x x' es h=>?_,hK⟩
   obtain ⟨h1,h2⟩:=split x x' es h
   rw [stepG_value ho hw hb h1,listed,h2]
  | skip =>
   refine ⟨G (b.at (a.put o.dst undef) (.inRegion ops rest :: k)) cs,w',w.drawn,fol _ rfl fun x x' es h=>?_,hK⟩
   obtain ⟨h1,h2⟩:=split x x' es h
   rw [stepG_none ho hw hb h1,listed,h2]
  | enter f args =>
   refine ⟨G (Frame.enter P f args .normal) (b.at a (.inRegion ops (i :: rest) :: k) :: cs),w',w.drawn,fol _ rfl fun x x' es h=>?_,hK Z hZ _ fun e w'' fr he hf hl=>?_⟩
   ·obtain ⟨h1,h2⟩:=split x x' es h
    rw [stepG_enter ho hw hb h1,listed,h2]
   ·cases e with
    | returned v =>
     refine leave_returned (Ctx.cl Z hZ) hl ?_
     rw [hfin]
     exact he
    | panicked chain =>
     refine leave_panicked (Ctx.cl Z hZ) hl ?_
     rw [Frame.raise_at]
     exact hk _ _ _ he _
    | outgrown=>exact he.elim
  | panic v =>
   refine ⟨G { b.at a (.inRegion ops (i :: rest) :: k) with mode:=.panicking [{ v,recovered:=false }] } cs,w',w.drawn,fol _ rfl fun x x' es h=>?_,hk _ _ _ hK _⟩
   obtain ⟨h1,h2⟩:=split x x' es h
   have h1':(execOp a.eval o).run P x = .halt (.panic v) x':=h1
   rw [stepG_oper ho hw]
   simp [stepG.apply,h1',h2,G,Frame.at,hkind,GStep.after,Frame.raise]
theorem z_ops_pre (hZ:Ctx.Zs P Z) (hb:b.kind ≠ .early) {suf:List Nat} (hk:∀ ch a' w',Q (.panic ch) a' w'->ArrZ Z b k cs (.panic ch) a' w') (hn:∀ a' w',Q .normal a' w'->Z (G (b.at a' (.inRegion ops suf :: k)) cs) w') :
  ∀ (pre:List Nat) (a:Act) (w:World),wpOps P ops Q pre a w->Z (G (b.at a (.inRegion ops (pre ++ suf) :: k)) cs) w
 | [],a,w,h=>hn a w h
 | i :: pre,a,w,h=>by
  unfold wpOps at h
  cases ho:ops[i]? with
  | none=>rw [ho] at h; exact h.elim
  | some o =>
   rw [ho] at h
   simp only at h
   refine z_oper hZ hb hk ho ?_
   show if _ then opwp P o a w (fun a w=>Z (G (b.at a (.inRegion ops (pre ++ suf) :: k)) cs) w) Q else _
   by_cases hw:Region.wanted o (yielded ops a.tmps) = true
   ·rw [if_pos hw] at h ⊢
    exact opwp_mono (fun a w h=>z_ops_pre hZ hb hk hn pre a w h) (fun _ _ _ z=>z) h
   ·rw [if_neg hw] at h ⊢
    exact z_ops_pre hZ hb hk hn pre _ _ h
def ZA (Z:Goroutine->World->Prop) (n:Nat) (b:Frame) (cs:List Frame) (e:Env) (todo:List Item) (w:World):Prop:=∀ a,Rep n a e->Z (G (b.at a todo) cs) w
variable {n:Nat} {e:Env} {w:World}
theorem ZA.c (hZ:Ctx.Zs P Z) {todo todo':List Item} (hs:∀ a w,stepG P (Ctx.main P) (G (b.at a todo) cs) w = .go (G (b.at a todo') cs) w #[]) (h:ZA Z n b cs e todo' w):ZA Z n b cs e todo w :=
 fun a ha=>(Ctx.cl Z hZ).ctl rfl rfl (hs a) (h a ha)
theorem ZA.seq (hZ:Ctx.Zs P Z) {x y:Code} (h:ZA Z n b cs e (.code x :: .code y :: k) w):ZA Z n b cs e (.code (.seq x y) :: k) w:=ZA.c hZ (fun _ _=>stepG_seq) h
theorem ZA.skip (hZ:Ctx.Zs P Z) (h:ZA Z n b cs e k w):ZA Z n b cs e (.code .skip :: k) w:=ZA.c hZ (fun _ _=>stepG_skip) h
theorem ZA.block (hZ:Ctx.Zs P Z) {id:Nat} {c:Code} (h:ZA Z n b cs e (.code c :: .inBlock id :: k) w):ZA Z n b cs e (.code (.block id c) :: k) w:=ZA.c hZ (fun _ _=>stepG_block) h
theorem ZA.loop (hZ:Ctx.Zs P Z) {c:Code} (h:ZA Z n b cs e (.code c :: .inLoop c :: k) w):ZA Z n b cs e (.code (.loop c) :: k) w:=ZA.c hZ (fun _ _=>stepG_loop) h
theorem ZA.inBlock (hZ:Ctx.Zs P Z) {id:Nat} (h:ZA Z n b cs e k w):ZA Z n b cs e (.inBlock id :: k) w:=ZA.c hZ (fun _ _=>stepG_inBlock) h
theorem ZA.inLoop (hZ:Ctx.Zs P Z) {c:Code} (h:ZA Z n b cs e (.code c :: .inLoop c :: k) w):ZA Z n b cs e (.inLoop c :: k) w:=ZA.c hZ (fun _ _=>stepG_inLoop) h
theorem ZA.exit (hZ:Ctx.Zs P Z) {id:Nat} {k':List Item} (hk:exitTo id k = some k') (h:ZA Z n b cs e k' w):ZA Z n b cs e (.code (.exit id) :: k) w:=ZA.c hZ (fun _ _=>stepG_exit hk) h
theorem ZA.cond (hZ:Ctx.Zs P Z) {c:Operand} {x y:Code} {t:Bool} (hc:ev e c = .bool t) (h:ZA Z n b cs e (.code (if t then x else y) :: k) w):ZA Z n b cs e (.code (.cond c x y) :: k) w :=
 fun a ha=>(Ctx.cl Z hZ).ctl rfl rfl (fun _=>stepG_cond (by rw [ha.eval]; exact hc)) (h a ha)
theorem ZA.endRegion (hZ:Ctx.Zs P Z) (h:ZA Z n b cs e k w):ZA Z n b cs e (.inRegion ops [] :: k) w:=ZA.c hZ (fun _ _=>stepG_region_end) h
def ZR (Z:Goroutine->World->Prop) (n:Nat) (b:Frame) (cs:List Frame) (e:Env) (w:World):Prop:=∀ todo,∀ a,Rep n a e->Z (G { b.at a todo with mode:=.returning } cs) w
theorem ZA.ret (hZ:Ctx.Zs P Z) (h:ZR Z n b cs e w):ZA Z n b cs e (.code .ret :: k) w:=fun a ha=>(Ctx.cl Z hZ).ctl rfl rfl (fun _=>stepG_ret') (h _ a ha)
theorem ZA.done (hZ:Ctx.Zs P Z) (h:ZR Z n b cs e w):ZA Z n b cs e [] w:=fun a ha=>(Ctx.cl Z hZ).ctl rfl rfl (fun _=>stepG_end) (h _ a ha)
theorem ZA.piece (hZ:Ctx.Zs P Z) (hb:b.kind ≠ .early) {c:Code} {R:Env->World->Prop} (h:W P n c (thenE R fun _ _ _=>False) e w) (hk:∀ e' w',R e' w'->ZA Z n b cs e' k w'):ZA Z n b cs e (.code c :: k) w:=by
 intro a ha
 refine h a ha Z hZ b k cs hb fun x a' w' hx=>?_
 obtain ⟨e',r,hq⟩:=hx
 cases x with
 | normal=>exact hk e' w' hq a' r
 | exit _=>exact hq.elim
 | goto _=>exact hq.elim
 | ret=>exact hq.elim
 | panic _=>exact hq.elim
 | outgrown=>exact hq.elim
theorem wpOps_take:∀ (l:List Oper) (k:Nat) (a:Act) (w:World),(∀ j,j < l.length->l[j]? = ops[k + j]?)->wpList P ops Q l a w->wpOps P ops Q (List.range' k l.length) a w
 | [],_,_,_,_,h=>h
 | o :: l,k,a,w,hj,h=>by
  have h0:ops[k]? = some o:=by simpa using (hj 0 (by simp)).symm
  have ih:=fun a w=>wpOps_take l (k + 1) a w (fun j hl=>by have:=hj (j + 1) (by simpa using hl); simpa [Nat.add_assoc,Nat.add_comm 1 j] using this)
  rw [List.length_cons,List.range'_succ]
  unfold wpOps
  rw [h0]
  unfold wpList at h
  by_cases hw:Region.wanted o (yielded ops a.tmps) = true
  ·simp only [if_pos hw] at h ⊢
   exact opwp_mono ih (fun _ _ _ z=>z) h
  ·simp only [if_neg hw] at h ⊢
   exact ih _ _ h
theorem ZA.upto (hZ:Ctx.Zs P Z) (hb:b.kind ≠ .early) (kk:Nat) {id:Nat} {l:List Oper} {R:Env->World->Prop} (hB:regB n l = true) (hkl:Nat.ble kk l.length = true) (h:L P n l.toArray (thenE R fun _ _ _=>False) (l.take kk) e w)
  (hk:∀ e' w',R e' w'->ZA Z n b cs e' (.inRegion l.toArray (List.range' kk (l.length - kk)) :: k) w'):ZA Z n b cs e (.code (.region id l.toArray false) :: k) w:=by
 intro a ha
 have hle:kk <= l.length:=Nat.le_of_ble_eq_true hkl
 refine (Ctx.cl Z hZ).ctl rfl rfl (fun _=>stepG_region) ?_
 have h1:=h (fun o ho=>List.all_eq_true.1 hB o (List.mem_of_mem_take ho)) a ha
 have h2:=wpOps_take (l.take kk) 0 a w (fun j hj=>by
  rw [List.getElem?_take_of_lt (by simp at hj; omega)]; simp) h1
 have h3:(l.take kk).length = kk:=by simp; omega
 rw [h3] at h2
 have h4:List.range l.toArray.size = List.range' 0 kk ++ List.range' kk (l.length - kk):=by
  have:=List.range'_append_1 (s:=0) (m:=kk) (n:=l.length - kk)
  rw [Nat.zero_add] at this
  rw [List.range_eq_range',List.size_toArray,this]
  congr 1; omega
 rw [h4]
 exact z_ops_pre hZ hb (fun ch a' w' hx=>by obtain ⟨_,_,hx⟩:=hx; exact hx.elim) (fun a' w' hx=>by
  obtain ⟨e',r,hq⟩:=hx
  exact hk e' w' hq a' r) _ a w h2
theorem lin_JL {V:(Nat->Bool)->Prop} {J:(Nat->Bool)->World->Prop} (WP:List Nat->Act->World->Prop) (hcons:∀ i σ o a w,ops[i]? = some o->(if Region.wanted o (yielded ops a.tmps) then opwp P o a w (WP σ) Q else WP σ (a.put o.dst undef) w)->WP (i :: σ) a w) (h:Ord n ops) {e0:Env} {vals:Nat->Value} {k:Nat} (hk:k < ops.size) (hloc:∀ i o,i < k->ops[i]? = some o->Loc P ops V J i o (EE e0 ops.toList vals i) (vals i))
  (hall:∀ D,V D->∀ i,k <= i->i < ops.size->D i = true->∀ j,j < i->D j = true)
  (hQ:∀ a w D,Rep n a (EE e0 ops.toList vals k)->(∀ i,i < k->D i = true)->J D w->WP (List.range' k (ops.size - k)) a w) :
  ∀ {listed:Array Bool} {σ:List Nat},Lin ops listed σ->(∀ τ ρ,σ = τ ++ ρ->V (fun j=>listed.getD j false || τ.contains j)) ->
   ∀ (a:Act) (e:Env) (w:World),listed.size = ops.size->(∀ j,k <= j->listed.getD j false = false)->Rep n a e->Mid ops e0 vals listed e->J (fun j=>listed.getD j false) w->WP σ a w:=by
 intro listed σ hlin
 induction hlin with
 | @nil listed hr =>
  intro _ a e w hs hkf ha hm hJ
  have:=ready_all h hs hr k (by omega)
  rw [hkf k (Nat.le_refl _)] at this; cases this
 | @cons listed i σ hi hl ih =>
  intro hV a e w hs hkf ha hm hJ
  have hi0:=hi
  obtain ⟨h1,o,ho,hdep⟩:=mem_ready.1 hi
  have hio:i < ops.size:=(Array.getElem?_eq_some_iff.1 ho).1
  have hil:i < listed.size:=by omega
  have hDi:(fun j=>listed.getD j false) i = false:=by
   show listed.getD i false = false
   simp only [Array.getD_eq_getD_getElem?,hil,Array.getElem?_eq_getElem,Option.getD_some] at h1 ⊢; exact h1
  have hVD:V (fun j=>listed.getD j false):=by
   have:=hV [] (i :: σ) rfl
   have e1:(fun j=>listed.getD j false || ([]:List Nat).contains j) = fun j=>listed.getD j false:=funext fun j=>by simp
   rw [e1] at this; exact this
  have hVD:V (fun j=>listed.getD j false)/\V (setD (fun j=>listed.getD j false) i):=by
   refine ⟨hVD,?_⟩
   have:=hV [i] σ rfl
   have e1:(fun j=>listed.getD j false || ([i]:List Nat).contains j) = setD (fun j=>listed.getD j false) i:=funext fun j=>by
    unfold setD
    by_cases hj:j = i
    ·simp [hj]
    ·simp [hj]
   rw [e1] at this; exact this
  by_cases hik:k <= i
  ·have hothers:∀ j,j < i->listed.getD j false = true:=fun j hj=>by
    have:=hall _ hVD.2 i hik hio (by simp [setD]) j hj
    unfold setD at this
    rw [if_neg (by omega)] at this
    exact this
   have hki:i = k:=by
    rcases Nat.lt_or_ge k i with h3 | h3
    ·have:=hothers k h3; rw [hkf k (Nat.le_refl _)] at this; cases this
    ·omega
   subst hki
   have hσ:=lin_suffix (V:=V) h (.cons hi0 hl) i (by omega) hs hothers (fun j hj=>hkf j hj) hall hV
   rw [hσ]
   have he:e = EE e0 ops.toList vals i:=by
    funext t
    have hlz:∀ j:Nat,ops.toList[j]? = ops[j]?:=fun j=>by rw [Array.getElem?_toList]
    by_cases hex:∃ (j:Nat) (p:Oper),j < i/\ops[j]? = some p/\p.dst = some t
    ·obtain ⟨j,p,hj,hp,hd⟩:=hex
     rw [hm.hit j p t hp hd (hothers j hj)]
     exact (EE_hit e0 ops.toList vals t j p (by rw [hlz]; exact hp) hd (fun i' p' hp' hd'=>h.one i' j p' p t (by rw [<- hlz]; exact hp') hp hd' hd) _ hj).symm
    ·rw [hm.miss t (fun j p hp hd=>by
      rcases Nat.lt_or_ge j i with h3 | h3
      ·exact absurd ⟨j,p,h3,hp,hd⟩ hex
      ·exact hkf j h3)]
     exact (EE_miss e0 ops.toList vals t _ (fun j p hj hp hd=>hex ⟨j,p,hj,by rw [<- hlz]; exact hp,hd⟩)).symm
   subst he
   exact hQ a w _ ha hothers hJ
  ·have hlk:=looks_eq h hm ho hdep
   have hex:=execOp_looks (h.sel i o ho) hlk
   have hwa:=wanted_looks hlk
   have hV':∀ τ ρ,σ = τ ++ ρ->V (fun j=>(listed.setIfInBounds i true).getD j false || τ.contains j):=by
    intro τ ρ hσ
    have:=hV (i :: τ) ρ (by rw [hσ]; rfl)
    have e1:(fun j=>listed.getD j false || (i :: τ).contains j) = fun j=>(listed.setIfInBounds i true).getD j false || τ.contains j:=by
     funext j
     by_cases hj:i = j
     ·subst hj; simp [hil]
     ·rw [getD_set_ne false hj]
      simp [Ne.symm hj]
    rw [e1] at this; exact this
   have next:∀ w',J (setD (fun j=>listed.getD j false) i) w'->WP σ (a.put o.dst (vals i)) w':=by
    intro w' hJ'
    refine ih hV' _ _ w' (by simp [hs]) (fun j hj=>by rw [getD_set_ne false (by omega)]; exact hkf j hj) (ha.put (h.dst i o ho) (vals i)) (hm.step h ho hil) ?_
    rw [setD_eq hil]; exact hJ'
   refine hcons i σ o a w ho ?_
   rw [wanted_rep ha,hwa]
   rcases hloc i o (by omega) ho with ⟨hw,hl⟩ | ⟨hw,hv,hl⟩
   ·rw [if_pos hw]
    have hl':=hl (fun j=>listed.getD j false) w hDi hVD hdep hJ
    rw [<- hex,<- ha.eval] at hl'
    exact opwp_loc hl' next
   ·rw [if_neg (by rw [hw]; simp)]
    rw [<- hv]
    exact next w (hl (fun j=>listed.getD j false) w hDi hVD hdep hJ)
theorem ZA.draws (hZ:Ctx.Zs P Z) (hb:b.kind ≠ .early) {k':List Item} {id:Nat} {l:List Oper} (k:Nat) (hm:P.follows .mixedOrders = true) (hB:ordB n l.toArray = true) (hA:sufB l k = true) (hk:Nat.blt k l.length = true)
  (h:∀ V:(Nat->Bool)->Prop,(∀ D D',V D->V D'->(∀ k,D k = true->D' k = true)\/(∀ k,D' k = true->D k = true))->(∀ D,V D->∀ i o,l[i]? = some o->D i = true->depsOn o D) ->
   ∃ J:(Nat->Bool)->World->Prop,J (fun _=>false) w.drew/\JL P l.toArray V J (fun e'=>∀ D w',(∀ i,i < k->D i = true)->J D w'->ZA Z n b cs e' (.inRegion l.toArray (List.range' k (l.length - k)) :: k') w') 0 (l.take k) e):ZA Z n b cs e (.code (.region id l.toArray true) :: k') w:=by
 intro a ha
 have ho:=ord_of hB
 have hkl:k < l.length:=by rw [Nat.blt_eq] at hk; exact hk
 refine (Ctx.cl Z hZ).own _ _ rfl fun τ d=>?_
 refine ⟨G (b.at a (.inRegion l.toArray (Region.schedule (P.follows .mixedOrders) l.toArray (τ d (.order b.fn id))) :: k')) cs,{ onT w τ d with drawn:=d + 1 },w.drawn + 1,⟨rfl,fun ρ x hx=>⟨⟨Nat.le_refl _,fun _ o ho=>⟨o,ho,keepsObj.refl o⟩⟩,{ x with drawn:=x.drawn + 1 },#[],?_,?_,fun e he=>by simp at he⟩⟩,?_⟩
 ·rw [stepG_region_draw,hx.tape,hx.drawn]; rfl
 ·exact ⟨hx.os,hx.output,hx.tape,by show x.drawn + 1 = d + 1; rw [hx.drawn]; rfl,hx.size,hx.obj,hx.new,hx.noview⟩
 show Z (G (b.at a (.inRegion l.toArray (Region.schedule (P.follows .mixedOrders) l.toArray (τ d (.order b.fn id))) :: k')) cs) w.drew
 generalize τ d (.order b.fn id) = t
 simp only [Region.schedule,hm,Bool.true_or,if_true]
 have hlin:=lin_go l.toArray l.toArray.size t (Array.replicate l.toArray.size false) (by simp) (by simp)
 unfold Region.linearise
 generalize Region.linearise.go .any l.toArray l.toArray.size t (Array.replicate l.toArray.size false) [] = σ at hlin ⊢
 have hclosed:=lin_closed hlin (fun i o _ hi=>by rw [getD_replicate_false'] at hi; cases hi) (by simp)
 have hdeps:∀ D,Pre σ D->∀ i o,l[i]? = some o->D i = true->depsOn o D:=by
  rintro D ⟨τ,ρ,hσ,hD⟩ i o hi hDi x hx hb
  have:=hclosed τ ρ hσ i o (by simpa using hi) (.inr ((hD i).1 hDi)) x hx hb
  rcases this with h1 | h1
  ·rw [getD_replicate_false'] at h1; cases h1
  ·exact (hD _).2 h1
 obtain ⟨J,hJ,hjl⟩:=h (Pre σ) (fun D D' h1 h2=>h1.chain h2) hdeps
 obtain ⟨vals,h1,h2⟩:=JL.collect (l.take k) 0 e hjl
 have hEE:∀ j,j <= k->EE e (l.take k) vals j = EE e l vals j:=by
  intro j
  induction j with
  | zero=>intro _; rfl
  | succ j ih =>
   intro hj
   simp only [EE,ih (by omega)]
   rw [List.getElem?_take_of_lt (by omega)]
 have hlt:(l.take k).length = k:=by simp; omega
 refine lin_JL (Q:=fun _ _ _=>False) (fun σ a w=>Z (G (b.at a (.inRegion l.toArray σ :: k')) cs) w) (fun i σ o a w ho h=>z_oper hZ hb (fun _ _ _ hx=>hx.elim) ho h) (V:=Pre σ) (J:=J) ho (e0:=e) (vals:=vals) (k:=k) (by simpa using hkl) (fun i o' hi ho'=>?_) (fun D hD i hki hil=>sufB_all hA hdeps hD i hki (by simpa using hil)) (fun a' w' D ha' hD hJ'=>?_) hlin ?_ a e _ (by simp) (fun j _=>getD_replicate_false' _ _) ha ⟨fun j o t _ _ hl=>?_,fun t _=>rfl⟩ ?_
 ·have:=h1 i o' (by rw [List.getElem?_take_of_lt hi]; simpa using ho')
  rw [hEE i (by omega)] at this
  simpa using this
 ·rw [hlt,hEE k (Nat.le_refl _)] at h2
  have h6:l.toArray.size - k = l.length - k:=by simp
  rw [h6]
  exact h2 D w' hD hJ' a' (by simpa using ha')
 ·intro τ ρ hσ
  exact ⟨τ,ρ,hσ,fun k=>by show ((Array.replicate l.toArray.size false).getD k false || τ.contains k) = true ↔ _; rw [getD_replicate_false']; simp⟩
 ·rw [getD_replicate_false'] at hl; cases hl
 ·have:(fun k=>(Array.replicate l.toArray.size false).getD k false) = fun _=>false:=funext fun k=>getD_replicate_false' _ _
  rw [this]; exact hJ
theorem ZA.lastL (hZ:Ctx.Zs P Z) (hb:b.kind ≠ .early) {k':List Item} {id:Nat} {l:List Oper} (k:Nat) (Cl:World->Prop) (hm:P.follows .mixedOrders = true) (hB:ordB n l.toArray = true) (hA:sufB l k = true) (hk:Nat.blt k l.length = true)
  (hC:Cl w.drew) (h:QL P l.toArray Cl (fun e'=>∀ w',Cl w'->ZA Z n b cs e' (.inRegion l.toArray (List.range' k (l.length - k)) :: k') w') 0 (l.take k) e):ZA Z n b cs e (.code (.region id l.toArray true) :: k') w:=by
 refine ZA.draws hZ hb k hm hB hA hk fun V _ _=>⟨fun _=>Cl,hC,?_⟩
 have mono:∀ (l':List Oper) (i:Nat) (e:Env),JL P l.toArray V (fun _=>Cl) (fun e'=>∀ w',Cl w'->ZA Z n b cs e' (.inRegion l.toArray (List.range' k (l.length - k)) :: k') w') i l' e->JL P l.toArray V (fun _=>Cl) (fun e'=>∀ (D:Nat->Bool) w',(∀ i,i < k->D i = true)->Cl w'->ZA Z n b cs e' (.inRegion l.toArray (List.range' k (l.length - k)) :: k') w') i l' e:=by
  intro l'
  induction l' with
  | nil=>exact fun i e h _ w' _ hw=>h w' hw
  | cons o l' ih=>exact fun i e ⟨v,h1,h2⟩=>⟨v,h1,ih _ _ h2⟩
 exact mono _ 0 e (h V)
end
end Go.Vy
end
/- Blocks of which a part is frozen; what turns in a run: some blocks, and what is new. Nothing here speaks of a program. -/
section
namespace Go.Vy
open Go Go.Conc Go.Yc Go.RowKit
open Go.Vc
def BlkF (w:World) (b:Nat) (cs:Array Value) (T:TypeId) (f:Nat × Nat):Prop:=w.heap[b]? = some (.cells cs T f)
section
variable {w w':World} {b o:Nat} {cs:Array Value} {T:TypeId} {f:Nat × Nat} {v:Value}
theorem blkF_of (h:Blk w b cs T):BlkF w b cs T (0,0):=h
theorem BlkF.lt (h:BlkF w b cs T f):b < w.heap.size:=(Array.getElem?_eq_some_iff.1 h).1
theorem BlkF.cell (h:BlkF w b cs T f) (hv:cs[o]? = some v):w.cell? ⟨b,o,none⟩ = some v:=by
 unfold BlkF at h; simp [World.cell?,h,hv]
theorem BlkF.cellAt (h:BlkF w b cs T f) (o:Nat) {v:Value} (hv:cs[o]? = some v):w.cell? ⟨b,o,none⟩ = some v:=h.cell hv
theorem BlkF.aggAt (h:BlkF w b cs T f) {o:Nat} {l:List Value} (hl:(cs.toList.drop o).take l.length = l):∀ (j:Nat) (v:Value),l[j]? = some v->w.cell? ⟨b,o + j,none⟩ = some v:=by
 intro j v hj
 refine h.cell ?_
 have hlt:j < l.length:=(List.getElem?_eq_some_iff.1 hj).1
 rw [<- hl,List.getElem?_take_of_lt hlt,List.getElem?_drop] at hj
 simpa using hj
theorem BlkF.frozen (h:BlkF w b cs T f) (o:Nat):w.frozen? ⟨b,o,none⟩ = (decide (f.1 <= o) && decide (o < f.2)):=by
 unfold BlkF at h; obtain ⟨lo,hi⟩:=f; simp [World.frozen?,h]
theorem BlkF.keep (h:BlkF w b cs T f) (hb:Below w.heap.size w w'):BlkF w' b cs T f:=(hb.block b h.lt).trans h
theorem BlkF.other {b':Nat} (h:BlkF w b cs T f) (hg:w.grownBy w' (some b')) (hne:b ≠ b'):BlkF w' b cs T f:=(hg.block b h.lt (by simpa using hne)).trans h
theorem BlkF.grown {row:Option Nat} (h:BlkF w b cs T f) (hg:w.grownBy w' row) (hne:some b ≠ row):BlkF w' b cs T f:=(hg.block b h.lt hne).trans h
theorem BlkF.ne {b':Nat} {cs':Array Value} {T':TypeId} {f':Nat × Nat} (h:BlkF w b cs T f) (h':BlkF w b' cs' T' f') (hT:T ≠ T'):b ≠ b':=by
 intro hb; subst hb
 unfold BlkF at h h'
 rw [h] at h'
 exact hT (by cases h'; rfl)
end
def setBlkF (w:World) (b:Nat) (cs:Array Value) (T:TypeId) (f:Nat × Nat):World:={ w with heap:=w.heap.setIfInBounds b (.cells cs T f) }
section
variable {w w':World} {b:Nat} {cs cs':Array Value} {T T':TypeId} {f:Nat × Nat}
theorem setBlkF_size:(setBlkF w b cs T f).heap.size = w.heap.size:=by simp [setBlkF]
theorem setBlkF_self (h:BlkF w b cs T f) (cs':Array Value) (T':TypeId) (f':Nat × Nat):BlkF (setBlkF w b cs' T' f') b cs' T' f':=by
 have:=h.lt
 simp [BlkF,setBlkF,this]
theorem setBlkF_other {k:Nat} (h:k ≠ b):(setBlkF w b cs T f).heap[k]? = w.heap[k]?:=by
 simp only [setBlkF]
 rw [Array.getElem?_setIfInBounds_ne (Ne.symm h)]
theorem setBlkF_grown (w:World) (b:Nat) (cs:Array Value) (T:TypeId) (f:Nat × Nat):w.grownBy (setBlkF w b cs T f) (some b) :=
 ⟨rfl,rfl,rfl,Nat.le_of_eq setBlkF_size.symm,fun k _ hk=>setBlkF_other (fun e=>hk (by rw [e]))⟩
theorem setCell_setBlkF {o:Nat} (h:BlkF w b cs T f) (v:Value):w.setCell ⟨b,o,none⟩ v = setBlkF w b (cs.setIfInBounds o v) T f:=by
 have hl:=h.lt
 have hg:w.heap[b] = .cells cs T f:=by have:=h; unfold BlkF at this; rw [Array.getElem?_eq_getElem hl] at this; exact Option.some.inj this
 simp only [World.setCell,setBlkF]
 congr 1
 apply Array.ext_getElem?
 intro i
 by_cases hi:i = b
 ·subst hi
  rw [Array.getElem?_modify,if_pos rfl,Array.getElem?_eq_getElem hl,hg]
  simp [hl]
 ·rw [Array.getElem?_modify,Array.getElem?_setIfInBounds_ne (Ne.symm hi),if_neg (Ne.symm hi)]
theorem setBlkF_twice (w:World) (b:Nat) (cs cs':Array Value) (T:TypeId) (f:Nat × Nat):setBlkF (setBlkF w b cs T f) b cs' T f = setBlkF w b cs' T f:=by
 simp [setBlkF]
theorem setBlkF_same (h:BlkF w b cs T f):setBlkF w b cs T f = w:=by
 have hl:=h.lt
 have hg:w.heap[b] = .cells cs T f:=by have:=h; unfold BlkF at this; rw [Array.getElem?_eq_getElem hl] at this; exact Option.some.inj this
 have:w.heap.setIfInBounds b (.cells cs T f) = w.heap:=by
  apply Array.ext_getElem?
  intro i
  by_cases hi:i = b
  ·subst hi; simp [hl,hg]
  ·rw [Array.getElem?_setIfInBounds_ne (Ne.symm hi)]
 simp only [setBlkF,this]
end
theorem run_storeCells_blkF {P:Program} (b:Nat) (T:TypeId) (f:Nat × Nat):∀ (vs:List Value) (o i:Nat) (cs:Array Value) (w:World),BlkF w b cs T f->o + i + vs.length <= cs.size->(o + i + vs.length <= f.1\/f.2 <= o + i)->(∀ v ∈ vs,v.oneCell' = true) ->
  (storeCells ⟨b,o,none⟩ vs i).run P w = .ok () (setBlkF w b (setRow cs (o + i) vs) T f)
 | [],o,i,cs,w,h,_,_,_=>by simp [storeCells,setRow,setBlkF_same h]
 | v :: vs,o,i,cs,w,h,hl,hf,h1=>by
  have ha:Addr.add ⟨b,o,none⟩ i = ⟨b,o + i,none⟩:=by
   unfold Addr.add; split
   ·rename_i h0; simp []
   ·rfl
  have hlt:o + i < cs.size:=by simp only [List.length_cons] at hl; omega
  have hc:=h.cell (Array.getElem?_eq_getElem hlt)
  have hfr:w.frozen? ⟨b,o + i,none⟩ = false:=by
   rw [h.frozen]
   simp only [List.length_cons] at hf
   rw [Bool.and_eq_false_iff]
   rcases hf with hf | hf
   ·exact .inl (decide_eq_false (by omega))
   ·exact .inr (decide_eq_false (by omega))
  have ih:=run_storeCells_blkF (P:=P) b T f vs o (i + 1) (cs.setIfInBounds (o + i) v) (setBlkF w b (cs.setIfInBounds (o + i) v) T f) (setBlkF_self h _ _ _) (by simp only [List.length_cons] at hl; simp; omega) (by simp only [List.length_cons] at hf; omega) (fun u hu=>h1 u (List.mem_cons_of_mem _ hu))
  rw [setBlkF_twice] at ih
  simp only [storeCells,Sem.run_bind,ha,run_store P w _ v .plain (h1 v List.mem_cons_self),hc,hfr,Bool.false_eq_true,if_false,Result.andThen_ok,setCell_setBlkF h v]
  rw [ih]
  rfl
section
variable {P:Program} [Ctx P] {n:Nat} {ops:Array Oper} {Q:Exit->Env->World->Prop} {rest:List Oper} {e:Env} {w:World} {ty:TypeId} {ps:String} {af:Array Edge} {x y:Operand} {T:TypeId}
theorem L.putF {b o s:Nat} {cs:Array Value} {vs:List Value} {E:TypeId} {f:Nat × Nat} {v:Value} (cs':Array Value) (hx:ev e x = .pointer (some ⟨b,o,none⟩)) (hy:ev e y = v) (hvs:v.cells.toList = vs) (hs:(P.info? T).map (·.size) = some s) (hl:vs.length = s) (h1:vs.all Value.oneCell' = true) (hB:BlkF w b cs E f) (ho:o + s <= cs.size) (hf:o + s <= f.1\/f.2 <= o) (hcs:setRow cs o vs = cs')
  (k:L P n ops Q rest e (setBlkF w b cs' E f)):L P n ops Q (⟨none,.store T x y,ty,ps,af,none⟩ :: rest) e w:=by
 have hvs':v.cells = vs.toArray:=by rw [<- hvs]
 have h1':∀ u ∈ vs,u.oneCell' = true:=fun u hu=>List.all_eq_true.1 h1 u hu
 rw [<- hcs] at k
 refine L.st (w':=setBlkF w b (setRow cs o vs) E f) (.of_tame (tame_ok rfl _) rfl rfl fun τ d=>?_) k
 have:=run_storeCells_blkF (P:=P) b E f vs o 0 cs (onT w τ d) hB (by simp; omega) (by simp; omega) h1'
 show _ = Result.ok Next.skip (setBlkF (onT w τ d) b (setRow cs o vs) E f)
 simp [execOp,Instr.storeAt,hx,hy,Instr.sureAddr,storeVar,Go.Vc.run_sizeOf hs,hvs',hl,this]
end
section
variable {P:Program} [Ctx P] {n:Nat} {Q:Exit->Env->World->Prop} {e:Env} {w:World} {ops:Array Oper} {rest:List Oper}
variable {d:Nat} {ty:TypeId} {ps:String} {af:Array Edge} {T E:TypeId} {x y z:Operand}
theorem L.appendW {B s bytes m c':Nat} {a:Option Addr} {k c:Nat} {xs news:List Value} {zv:Value} {ad:Addr} (hx:ev e x = .slice a k c) (hy:ev e y = .slice (some ad) m c') (hT:P.underlying T = some (.slice E))
  (hi:(P.info? E).map (fun i=>(i.zero,i.size,i.bytes)) = some (some zv,s,bytes)) (hz:zv.cells.size = s) (hs:0 < s) (hown:Own w B E s a k c xs)
  (hl:news.length = m * s) (hnews:∀ (j:Nat) u,news[j]? = some u->w.cell? (ad.add j) = some u) (h1:∀ u ∈ news,u.oneCell' = true) (hmax:k + m <= 9223372036854775807) (hb:(k + m) * bytes <= 140737488355328) (hB:B <= w.heap.size)
  (h:∀ a' c2 w',Own w' B E s a' (k + m) c2 (xs ++ news)->w.grownBy w' (Value.ownBlock (.slice a k c))->(a' ≠ none->(a ≠ none/\ab a' = ab a)\/w.heap.size <= ab a')->L P n ops Q rest (upd e d (.slice a' (k + m) c2)) w') :
  L P n ops Q (⟨some d,.call ⟨.builtin .append,#[x,y],#[T,T]⟩,ty,ps,af,none⟩ :: rest) e w:=by
 cases a with
 | none =>
  have h0:k = 0/\c = 0/\xs = []:=by
   have hln:=hown.1
   rcases hown.2 with ⟨hv,h0⟩ | ⟨g,cap,cur,hv,_⟩
   ·cases hv
    exact ⟨rfl,rfl,by
     rw [Nat.zero_mul] at hln
     exact List.eq_nil_of_length_eq_zero hln⟩
   ·cases hv
  obtain ⟨rfl,rfl,rfl⟩:=h0
  refine L.appendAny hx hy hT hi hz hs (Own.nil w w.heap.size E s) (fun h=>by cases h) hl (fun ad' e=>by cases e; exact hnews) h1 hmax hb (Nat.le_refl _) fun a' c2 w' hO hg _ _=>?_
  refine h a' c2 w' (hO.down hB) hg fun ha=>.inr ?_
  exact (hO.row ha).choose_spec.2.1
 | some a0 =>
  have ha0:∃ b,a0 = ⟨b,0,none⟩:=by
   rcases hown.2 with ⟨hv,_⟩ | ⟨g,cap,cur,hv,_⟩
   ·cases hv
   ·cases hv; exact ⟨g,rfl⟩
  obtain ⟨b,rfl⟩:=ha0
  refine L.appendF hx hy hT hi hz hs hown hl hnews h1 hmax hb hB fun b' c2 w' hO hg hw=>?_
  refine h _ c2 w' hO hg fun _=>?_
  rcases hw with ⟨rfl,_⟩ | ⟨rfl,_⟩
  ·exact .inl ⟨by simp,rfl⟩
  ·exact .inr (Nat.le_refl _)
end
structure ModS (S:Nat->Prop) (B:Nat) (w w':World):Prop where
 os:w'.os = w.os
 tape:w'.tape = w.tape
 output:w'.output = w.output
 size:w.heap.size <= w'.heap.size
 block:∀ k,k < B->¬ S k->w'.heap[k]? = w.heap[k]?
section
variable {S S':Nat->Prop} {B:Nat} {w w1 w2:World}
theorem ModS.refl (S:Nat->Prop) (B:Nat) (w:World):ModS S B w w:=⟨rfl,rfl,rfl,Nat.le_refl _,fun _ _ _=>rfl⟩
theorem ModS.trans (h:ModS S B w w1) (h':ModS S B w1 w2):ModS S B w w2:=⟨h'.os.trans h.os,h'.tape.trans h.tape,h'.output.trans h.output,Nat.le_trans h.size h'.size,fun k hk hs=>(h'.block k hk hs).trans (h.block k hk hs)⟩
theorem ModS.below (h:ModS S B w w1) (hb:Below w1.heap.size w1 w2) (hB:B <= w1.heap.size):ModS S B w w2:=h.trans ⟨hb.os,hb.tape,hb.output,hb.size,fun k hk _=>hb.block k (by omega)⟩
theorem ModS.grown {row:Option Nat} (h:ModS S B w w1) (hg:w1.grownBy w2 row) (hB:B <= w1.heap.size) (hr:∀ r,row = some r->S r\/B <= r):ModS S B w w2 :=
 h.trans ⟨hg.os,hg.tape,hg.output,hg.size,fun k hk hs=>hg.block k (by omega) (fun e=>by rcases hr k e.symm with z | z; exact hs z; omega)⟩
theorem Own.congr {E:TypeId} {s n c:Nat} {a:Option Addr} {xs:List Value} (h:Own w B E s a n c xs) (he:a ≠ none->w1.heap[ab a]? = w.heap[ab a]?):Own w1 B E s a n c xs:=by
 refine ⟨h.1,?_⟩
 rcases h.2 with h1 | ⟨g,cap,cur,hv,hb,hg,h2⟩
 ·exact .inl h1
 ·refine .inr ⟨g,cap,cur,hv,hb,?_,h2⟩
  cases hv
  exact (he (by simp)).trans hg
end
end Go.Vy
end
/- What the program has of its types and functions. -/
section
namespace Go.Proofs.Ytfmoeemolgjodaa
theorem sz1:(Try.prog.info? 1).map (·.size) = some 1:=by kernel_rfl
theorem sz2:(Try.prog.info? 2).map (·.size) = some 1:=by kernel_rfl
theorem sz3:(Try.prog.info? 3).map (·.size) = some 1:=by kernel_rfl
theorem zr3:(Try.prog.info? 3).bind (·.zero) = some (.int .i64 0):=by kernel_rfl
theorem in3:(Try.prog.info? 3).map (fun i=>(i.zero,i.size,i.bytes)) = some (some (.int .i64 0),1,8):=by kernel_rfl
theorem sz4:(Try.prog.info? 4).map (·.size) = some 1:=by kernel_rfl
theorem zr4:(Try.prog.info? 4).bind (·.zero) = some (.bool false):=by kernel_rfl
theorem sz5:(Try.prog.info? 5).map (·.size) = some 1:=by kernel_rfl
theorem zr5:(Try.prog.info? 5).bind (·.zero) = some (.int .u8 0):=by kernel_rfl
theorem sz9:(Try.prog.info? 9).map (·.size) = some 1:=by kernel_rfl
theorem sz24:(Try.prog.info? 24).map (·.size) = some 1:=by kernel_rfl
theorem sz26:(Try.prog.info? 26).map (·.size) = some 1:=by kernel_rfl
theorem sz27:(Try.prog.info? 27).map (·.size) = some 1:=by kernel_rfl
theorem sz28:(Try.prog.info? 28).map (·.size) = some 1:=by kernel_rfl
theorem sz29:(Try.prog.info? 29).map (·.size) = some 1:=by kernel_rfl
theorem sz31:(Try.prog.info? 31).map (·.size) = some 6:=by kernel_rfl
theorem zr31:(Try.prog.info? 31).bind (·.zero) = some (.agg #[.slice none 0 0,.slice none 0 0,.slice none 0 0,.slice none 0 0,.bool false,.int .i64 0]):=by kernel_rfl
theorem sz35:(Try.prog.info? 35).map (·.size) = some 4:=by kernel_rfl
theorem sz43:(Try.prog.info? 43).map (·.size) = some 3:=by kernel_rfl
theorem in43:(Try.prog.info? 43).map (fun i=>(i.zero,i.size,i.bytes)) = some (some (.agg #[.int .i64 0,.int .i64 0,.int .i64 0]),3,24):=by kernel_rfl
theorem sz45:(Try.prog.info? 45).map (·.size) = some 4:=by kernel_rfl
theorem zr45:(Try.prog.info? 45).bind (·.zero) = some (.agg #[.int .i64 0,.int .i64 0,.int .i64 0,.int .i64 0]):=by kernel_rfl
theorem in45:(Try.prog.info? 45).map (fun i=>(i.zero,i.size,i.bytes)) = some (some (.agg #[.int .i64 0,.int .i64 0,.int .i64 0,.int .i64 0]),4,32):=by kernel_rfl
theorem sz47:(Try.prog.info? 47).map (·.size) = some 4:=by kernel_rfl
theorem zr47:(Try.prog.info? 47).bind (·.zero) = some (.agg #[.int .i64 0,.int .i64 0,.int .i64 0,.string ByteArray.empty]):=by kernel_rfl
theorem in47:(Try.prog.info? 47).map (fun i=>(i.zero,i.size,i.bytes)) = some (some (.agg #[.int .i64 0,.int .i64 0,.int .i64 0,.string ByteArray.empty]),4,40):=by kernel_rfl
theorem sz50:(Try.prog.info? 50).map (·.size) = some 1:=by kernel_rfl
theorem zr50:(Try.prog.info? 50).bind (·.zero) = some (.pointer none):=by kernel_rfl
theorem in50:(Try.prog.info? 50).map (fun i=>(i.zero,i.size,i.bytes)) = some (some (.pointer none),1,8):=by kernel_rfl
theorem sz52:(Try.prog.info? 52).map (·.size) = some 1:=by kernel_rfl
theorem zr52:(Try.prog.info? 52).bind (·.zero) = some (.nilFunc):=by kernel_rfl
theorem in52:(Try.prog.info? 52).map (fun i=>(i.zero,i.size,i.bytes)) = some (some (.nilFunc),1,8):=by kernel_rfl
theorem sz63:(Try.prog.info? 63).map (·.size) = some 10:=by kernel_rfl
theorem zr63:(Try.prog.info? 63).bind (·.zero) = some (.agg #[.int .i64 0,.int .i64 0,.int .i64 0,.int .i64 0,.bool false,.int .i64 0,.int .i64 0,.int .i64 0,.int .i64 0,.string ByteArray.empty]):=by kernel_rfl
theorem sz64:(Try.prog.info? 64).map (·.size) = some 1:=by kernel_rfl
theorem zr64:(Try.prog.info? 64).bind (·.zero) = some (.slice none 0 0):=by kernel_rfl
theorem sz73:(Try.prog.info? 73).map (·.size) = some 1:=by kernel_rfl
theorem sz74:(Try.prog.info? 74).map (·.size) = some 1:=by kernel_rfl
theorem sz79:(Try.prog.info? 79).map (·.size) = some 1:=by kernel_rfl
theorem sz80:(Try.prog.info? 80).map (·.size) = some 1:=by kernel_rfl
theorem sz84:(Try.prog.info? 84).map (·.size) = some 1:=by kernel_rfl
theorem sz86:(Try.prog.info? 86).map (·.size) = some 1:=by kernel_rfl
theorem sz87:(Try.prog.info? 87).map (·.size) = some 1:=by kernel_rfl
theorem sz89:(Try.prog.info? 89).map (·.size) = some 2:=by kernel_rfl
theorem nm12:(Try.f12.name == "runtime.NumGoroutine") = false:=by kernel_rfl
theorem nm13:(Try.f13.name == "runtime.NumGoroutine") = false:=by kernel_rfl
theorem nm14:(Try.f14.name == "runtime.NumGoroutine") = false:=by kernel_rfl
theorem nm18:(Try.f18.name == "runtime.NumGoroutine") = false:=by kernel_rfl
theorem nm19:(Try.f19.name == "runtime.NumGoroutine") = false:=by kernel_rfl
theorem nm23:(Try.f23.name == "runtime.NumGoroutine") = false:=by kernel_rfl
theorem nm24:(Try.f24.name == "runtime.NumGoroutine") = false:=by kernel_rfl
theorem nm25:(Try.f25.name == "runtime.NumGoroutine") = false:=by kernel_rfl
theorem nm26:(Try.f26.name == "runtime.NumGoroutine") = false:=by kernel_rfl
theorem nm29:(Try.f29.name == "runtime.NumGoroutine") = false:=by kernel_rfl
theorem nm30:(Try.f30.name == "runtime.NumGoroutine") = false:=by kernel_rfl
theorem nm34:(Try.f34.name == "runtime.NumGoroutine") = false:=by kernel_rfl
theorem nm35:(Try.f35.name == "runtime.NumGoroutine") = false:=by kernel_rfl
theorem nm36:(Try.f36.name == "runtime.NumGoroutine") = false:=by kernel_rfl
theorem nm37:(Try.f37.name == "runtime.NumGoroutine") = false:=by kernel_rfl
theorem nm38:(Try.f38.name == "runtime.NumGoroutine") = false:=by kernel_rfl
theorem nm39:(Try.f39.name == "runtime.NumGoroutine") = false:=by kernel_rfl
theorem nm40:(Try.f40.name == "runtime.NumGoroutine") = false:=by kernel_rfl
theorem nm41:(Try.f41.name == "runtime.NumGoroutine") = false:=by kernel_rfl
theorem nm42:(Try.f42.name == "runtime.NumGoroutine") = false:=by kernel_rfl
theorem nm44:(Try.f44.name == "runtime.NumGoroutine") = false:=by kernel_rfl
theorem nm45:(Try.f45.name == "runtime.NumGoroutine") = false:=by kernel_rfl
theorem nm46:(Try.f46.name == "runtime.NumGoroutine") = false:=by kernel_rfl
theorem nm47:(Try.f47.name == "runtime.NumGoroutine") = false:=by kernel_rfl
theorem nm48:(Try.f48.name == "runtime.NumGoroutine") = false:=by kernel_rfl
theorem nm49:(Try.f49.name == "runtime.NumGoroutine") = false:=by kernel_rfl
theorem nm50:(Try.f50.name == "runtime.NumGoroutine") = false:=by kernel_rfl
theorem nm51:(Try.f51.name == "runtime.NumGoroutine") = false:=by kernel_rfl
theorem nm52:(Try.f52.name == "runtime.NumGoroutine") = false:=by kernel_rfl
theorem nm53:(Try.f53.name == "runtime.NumGoroutine") = false:=by kernel_rfl
theorem nm57:(Try.f57.name == "runtime.NumGoroutine") = false:=by kernel_rfl
theorem nm58:(Try.f58.name == "runtime.NumGoroutine") = false:=by kernel_rfl
theorem nm59:(Try.f59.name == "runtime.NumGoroutine") = false:=by kernel_rfl
theorem nm60:(Try.f60.name == "runtime.NumGoroutine") = false:=by kernel_rfl
theorem nm62:(Try.f62.name == "runtime.NumGoroutine") = false:=by kernel_rfl
theorem nm63:(Try.f63.name == "runtime.NumGoroutine") = false:=by kernel_rfl
theorem nm64:(Try.f64.name == "runtime.NumGoroutine") = false:=by kernel_rfl
theorem nm65:(Try.f65.name == "runtime.NumGoroutine") = false:=by kernel_rfl
theorem nm67:(Try.f67.name == "runtime.NumGoroutine") = false:=by kernel_rfl
theorem nm68:(Try.f68.name == "runtime.NumGoroutine") = false:=by kernel_rfl
theorem nm69:(Try.f69.name == "runtime.NumGoroutine") = false:=by kernel_rfl
theorem nm71:(Try.f71.name == "runtime.NumGoroutine") = false:=by kernel_rfl
theorem nm72:(Try.f72.name == "runtime.NumGoroutine") = false:=by kernel_rfl
theorem nm73:(Try.f73.name == "runtime.NumGoroutine") = false:=by kernel_rfl
theorem nm74:(Try.f74.name == "runtime.NumGoroutine") = false:=by kernel_rfl
end Go.Proofs.Ytfmoeemolgjodaa
end
/- sync.WaitGroup's Done, Add(1), Wait: what a goroutine does on its way through them, as long as its group stands. -/
section
namespace Go.Proofs.Ytfmoeemolgjodaa
open Go.Conc Go.Yc Go.Wg
open Go.Vc (Env upd updO ev dstB yieldE)
attribute [local irreducible] KK
theorem deaf_dis (d:Nat):deafBehind d #[(⟨.mark .disable,false,true⟩:Event)] = d + 1:=rfl
theorem deaf_en (d:Nat):deafBehind (d + 1) #[(⟨.mark .enable,false,true⟩:Event)] = d:=rfl
theorem deaf_other (d:Nat) {m:Mark} (h:(match m with | .disable | .enable=>false | _=>true) = true):deafBehind d #[(⟨.mark m,false,true⟩:Event)] = d:=by cases m <;> first | rfl | cases h
theorem add1 (v:Nat) (h:v < 2147483648):IntKind.u64.wrap (((v * 4294967296 + 0:Nat):Int) + 1) = ((v * 4294967296 + 1:Nat):Int):=by rw [IntKind.wrap_u64]; omega
theorem ex50:Extern.find Try.f50 = some (Extern.Race.marked .releaseMerge):=by kernel_rfl
theorem ex58:Extern.find Try.f58 = some (Extern.Race.marked .read):=by kernel_rfl
theorem ex68:Extern.find Try.f68 = some (Extern.Race.marked .write):=by kernel_rfl
theorem ex65:Extern.find Try.f65 = some (Extern.Race.marked .acquire):=by kernel_rfl
theorem ex51:Extern.find Try.f51 = some (fun _=>do mark .disable; pure Extern.Race.none_):=by kernel_rfl
theorem ex52:Extern.find Try.f52 = some (fun _=>do mark .enable; pure Extern.Race.none_):=by kernel_rfl
theorem ex53:Extern.find Try.f53 = some (fun _=>pure (.bool false)):=by kernel_rfl
theorem ex71:Extern.find Try.f71 = some (Extern.Atomic.update (Op.intArith .add) .u64 true):=by kernel_rfl
theorem ex72:Extern.find Try.f72 = some (Extern.Atomic.loadT (.int .u64)):=by kernel_rfl
theorem ex73:Extern.find Try.f73 = some Extern.Atomic.storeT:=by kernel_rfl
theorem ex74:Extern.find Try.f74 = some (Extern.Atomic.casT (.int .u64)):=by kernel_rfl
theorem ex62:Extern.find Try.f62 = some Extern.Sync.semrelease:=by kernel_rfl
theorem ex69:Extern.find Try.f69 = some Extern.Sync.semacquire:=by kernel_rfl
theorem nz87:(Try.prog.info? 87).map (fun i=>decide (i.size = 0)) = some false:=by kernel_rfl
theorem nz89:(Try.prog.info? 89).map (fun i=>decide (i.size = 0)) = some false:=by kernel_rfl
set_option maxRecDepth 20000 in
theorem done_lt (gr:Grp) {c:Frame} {cs:List Frame} (hcm:c.mode = .returning) {N:Nat} (hT:QuitsD Try.prog N 0 (Conc.G c cs)):∃ n,Lt Try.prog gr n 0 (Conc.G ((baseD 63).at { tmps:=#[.pointer (some ⟨gr.blk,gr.off,none⟩)] ++ Array.replicate (Try.f63.ntmps - 1) undef,defers:=[] } [.code (Try.f63.body.getD .skip)]) (c :: cs)):=by
 refine ⟨N + 500,(?_:At (fun m d g=>Lt Try.prog gr m d g) (N + 500) 4 (baseD 63) (c :: cs) [] 0 (Wg.argE #[.pointer (some ⟨gr.blk,gr.off,none⟩)]) [.code (Try.f63.body.getD .skip)]) _ (repD_args _ _ rfl)⟩
 refine At.region (hf_lt _ gr) ?_
 refine AtL.val (hf_lt _ gr) (bkd _) rfl (v:=.pointer (some ⟨gr.blk,gr.off,none⟩)) (pu_move rfl) ?_
 refine AtL.call (hf_lt _ gr) (bkd _) [.pointer (some ⟨gr.blk,gr.off,none⟩),.int .i64 (-1)] 117 rfl Try.func44 nm44 rfl rfl rfl (fun cs1 hb1=>?_)
 refine At.seq (hf_lt _ gr) ?_
 refine At.condT (hf_lt _ gr) rfl ?_
 refine At.seq (hf_lt _ gr) ?_
 refine At.seq (hf_lt _ gr) ?_
 refine At.region (hf_lt _ gr) ?_
 refine AtL.val (hf_lt _ gr) (bkn _) rfl (v:=.int .i64 (-1)) (pu_move rfl) ?_
 refine AtL.val (hf_lt _ gr) (bkn _) rfl (v:=.bool true) (pu_lssB (r:=true) rfl rfl (by decide)) ?_
 refine AtL.nil (hf_lt _ gr) ?_
 refine At.condT (hf_lt _ gr) rfl ?_
 refine At.region (hf_lt _ gr) ?_
 refine AtL.val (hf_lt _ gr) (bkn _) rfl (v:=.pointer (some ⟨gr.blk,gr.off,none⟩)) (pu_move rfl) ?_
 refine AtL.toUnsafe (sg_lt _ gr) (bkn _) rfl rfl (.inl rfl) Try.underlying100 Try.underlying102 nz89 ?_
 refine AtL.markAt (hf_lt _ gr) (bkn _) .releaseMerge (by simp) rfl rfl Try.func50 nm50 rfl rfl ex50 rfl ?_
 rw [deaf_other _ rfl]
 refine AtL.nil (hf_lt _ gr) ?_
 refine At.seq (hf_lt _ gr) ?_
 refine At.region (hf_lt _ gr) ?_
 refine AtL.mark0 (hf_lt _ gr) (bkn _) .disable (by simp) rfl rfl Try.func51 nm51 rfl rfl ex51 ?_
 simp only [deaf_dis]
 refine AtL.nil (hf_lt _ gr) ?_
 refine At.region (hf_lt _ gr) ?_
 refine AtL.defer (hf_lt _ gr) (bkn _) [] rfl ?_
 refine AtL.nil (hf_lt _ gr) ?_
 refine At.seq (hf_lt _ gr) ?_
 refine At.region (hf_lt _ gr) ?_
 refine AtL.val (hf_lt _ gr) (bkn _) rfl (v:=.bool false) (pu_assign rfl) ?_
 refine AtL.nil (hf_lt _ gr) ?_
 refine At.seq (hf_lt _ gr) ?_
 refine At.seq (hf_lt _ gr) ?_
 refine At.region (hf_lt _ gr) ?_
 refine AtL.pureEntry (hf_lt _ gr) (bkn _) (.bool false) rfl Try.func53 nm53 rfl rfl ex53 ?_
 refine AtL.nil (hf_lt _ gr) ?_
 refine At.condF (hf_lt _ gr) rfl ?_
 refine At.skip (hf_lt _ gr) ?_
 refine At.seq (hf_lt _ gr) ?_
 refine At.region (hf_lt _ gr) ?_
 refine AtL.val (hf_lt _ gr) (bkn _) rfl (v:=.pointer (some ⟨gr.blk,gr.off,none⟩)) (pu_move rfl) ?_
 refine AtL.val (hf_lt _ gr) (bkn _) rfl (v:=.pointer (some ⟨gr.blk,gr.off,none⟩)) (pu_nilCheck rfl) ?_
 refine AtL.val (hf_lt _ gr) (bkn _) rfl (v:=.pointer (some ⟨gr.blk,gr.off,none⟩)) (pu_fieldR (s:=1) (gr.off) (gr.off) rfl Try.underlying89 rfl sz86 (by decide) rfl) ?_
 refine AtL.val (hf_lt _ gr) (bkn _) rfl (v:=.int .i64 (-1)) (pu_move rfl) ?_
 refine AtL.val (hf_lt _ gr) (bkn _) rfl (v:=.int .u64 18446744073709551615) (pu_convert (r:=18446744073709551615) rfl Try.underlying3 Try.underlying84 (by decide)) ?_
 refine AtL.val (hf_lt _ gr) (bkn _) rfl (v:=.int .u64 18446744069414584320) (pu_shl (r:=18446744069414584320) rfl rfl (by decide) (by decide)) ?_
 refine AtL.call (hf_lt _ gr) (bkn _) [.pointer (some ⟨gr.blk,gr.off,none⟩),.int .u64 18446744069414584320] 10 rfl Try.func57 nm57 rfl rfl rfl (fun cs2 hb2=>?_)
 refine At.seq (hf_lt _ gr) ?_
 refine At.region (hf_lt _ gr) ?_
 refine AtL.val (hf_lt _ gr) (bkn _) rfl (v:=.int .u64 0) (pu_assign rfl) ?_
 refine AtL.nil (hf_lt _ gr) ?_
 refine At.seq (hf_lt _ gr) ?_
 refine At.region (hf_lt _ gr) ?_
 refine AtL.val (hf_lt _ gr) (bkn _) rfl (v:=.pointer (some ⟨gr.blk,gr.off,none⟩)) (pu_move rfl) ?_
 refine AtL.val (hf_lt _ gr) (bkn _) rfl (v:=.pointer (some ⟨gr.blk,gr.off,none⟩)) (pu_nilCheck rfl) ?_
 refine AtL.val (hf_lt _ gr) (bkn _) rfl (v:=.pointer (some ⟨gr.blk,gr.off,none⟩)) (pu_fieldR (s:=1) (gr.off) (gr.off) rfl Try.underlying86 rfl sz84 (by decide) rfl) ?_
 refine AtL.val (hf_lt _ gr) (bkn _) rfl (v:=.int .u64 18446744069414584320) (pu_move rfl) ?_
 refine AtL.ltAdd (bkn _) rfl Try.func71 nm71 rfl rfl ex71 rfl rfl (fun v wt hwt hv hne=>?_) ?_
 ·by_cases hv0:0 < v
  ·have hwc:wt = 0\/wt = 1:=by omega
   rcases hwc with rfl | rfl
   ·refine AtL.val (hf_quits _) (bkn _) rfl (v:=.int .u64 (((v * 4294967296 + 0:Nat):Int))) (pu_assign rfl) ?_
    refine AtL.nil (hf_quits _) ?_
    refine At.ret (hf_quits _) (fun _=>?_)
    refine AtR.leave1 (hf_quits _) hb2 rfl Try.func57 rfl (.int .u64 (((v * 4294967296 + 0:Nat):Int))) rfl ?_
    refine AtL.val (hf_quits _) (bkn _) rfl (v:=.int .u64 (((v * 4294967296 + 0:Nat):Int))) (pu_assign rfl) ?_
    refine AtL.nil (hf_quits _) ?_
    refine At.seq (hf_quits _) ?_
    refine At.seq (hf_quits _) ?_
    refine At.region (hf_quits _) ?_
    refine AtL.val (hf_quits _) (bkn _) rfl (v:=.int .u64 (((v * 4294967296 + 0:Nat):Int))) (pu_move rfl) ?_
    refine AtL.val (hf_quits _) (bkn _) rfl (v:=.int .u64 0) (pu_and (r:=0) rfl rfl (low31 v 0 (by omega) (by omega))) ?_
    refine AtL.val (hf_quits _) (bkn _) rfl (v:=.bool false) (pu_neqB (r:=false) rfl rfl (by decide)) ?_
    refine AtL.val (hf_quits _) (bkn _) rfl (v:=.bool false) (pu_move rfl) ?_
    refine AtL.off (hf_quits _) rfl rfl ?_
    refine AtL.off (hf_quits _) rfl rfl ?_
    refine AtL.val (hf_quits _) (bkn _) rfl (v:=.bool false) (pu_pickF rfl rfl) ?_
    refine AtL.nil (hf_quits _) ?_
    refine At.condF (hf_quits _) rfl ?_
    refine At.skip (hf_quits _) ?_
    refine At.seq (hf_quits _) ?_
    refine At.region (hf_quits _) ?_
    refine AtL.val (hf_quits _) (bkn _) rfl (v:=.int .u64 (((v * 4294967296 + 0:Nat):Int))) (pu_move rfl) ?_
    refine AtL.val (hf_quits _) (bkn _) rfl (v:=.int .u64 (((v:Nat):Int))) (pu_shr (r:=((v:Nat):Int)) rfl rfl (by decide) (shr32 v 0 (by omega))) ?_
    refine AtL.val (hf_quits _) (bkn _) rfl (v:=.int .i32 (((v:Nat):Int))) (pu_convert (r:=((v:Nat):Int)) rfl Try.underlying84 Try.underlying21 (i32_wrap v (by omega))) ?_
    refine AtL.val (hf_quits _) (bkn _) rfl (v:=.int .i32 (((v:Nat):Int))) (pu_assign rfl) ?_
    refine AtL.nil (hf_quits _) ?_
    refine At.seq (hf_quits _) ?_
    refine At.region (hf_quits _) ?_
    refine AtL.val (hf_quits _) (bkn _) rfl (v:=.int .u64 (((v * 4294967296 + 0:Nat):Int))) (pu_move rfl) ?_
    refine AtL.val (hf_quits _) (bkn _) rfl (v:=.int .u64 0) (pu_and (r:=0) rfl rfl (lowAll v 0 (by omega) (by omega))) ?_
    refine AtL.val (hf_quits _) (bkn _) rfl (v:=.int .u32 0) (pu_convert (r:=0) rfl Try.underlying84 Try.underlying87 (by decide)) ?_
    refine AtL.val (hf_quits _) (bkn _) rfl (v:=.int .u32 0) (pu_assign rfl) ?_
    refine AtL.nil (hf_quits _) ?_
    refine At.seq (hf_quits _) ?_
    refine At.seq (hf_quits _) ?_
    refine At.region (hf_quits _) ?_
    refine AtL.val (hf_quits _) (bkn _) rfl (v:=.bool true) (pu_move rfl) ?_
    refine AtL.valG (hf_quits _) (bkn _) rfl rfl (v:=.int .i64 (-1)) (pu_move rfl) ?_
    refine AtL.valG (hf_quits _) (bkn _) rfl rfl (v:=.bool false) (pu_gtrB (r:=false) rfl rfl (by decide)) ?_
    refine AtL.val (hf_quits _) (bkn _) rfl (v:=.bool false) (pu_pickT rfl rfl) ?_
    refine AtL.val (hf_quits _) (bkn _) rfl (v:=.bool false) (pu_move rfl) ?_
    refine AtL.off (hf_quits _) rfl rfl ?_
    refine AtL.off (hf_quits _) rfl rfl ?_
    refine AtL.off (hf_quits _) rfl rfl ?_
    refine AtL.off (hf_quits _) rfl rfl ?_
    refine AtL.val (hf_quits _) (bkn _) rfl (v:=.bool false) (pu_pickF rfl rfl) ?_
    refine AtL.nil (hf_quits _) ?_
    refine At.condF (hf_quits _) rfl ?_
    refine At.skip (hf_quits _) ?_
    refine At.seq (hf_quits _) ?_
    refine At.seq (hf_quits _) ?_
    refine At.region (hf_quits _) ?_
    refine AtL.val (hf_quits _) (bkn _) rfl (v:=.int .i32 (((v:Nat):Int))) (pu_move rfl) ?_
    refine AtL.val (hf_quits _) (bkn _) rfl (v:=.bool false) (pu_lssB (r:=false) rfl rfl (decide_eq_false (by omega))) ?_
    refine AtL.nil (hf_quits _) ?_
    refine At.condF (hf_quits _) rfl ?_
    refine At.skip (hf_quits _) ?_
    refine At.seq (hf_quits _) ?_
    refine At.seq (hf_quits _) ?_
    refine At.region (hf_quits _) ?_
    refine AtL.val (hf_quits _) (bkn _) rfl (v:=.int .u32 0) (pu_move rfl) ?_
    refine AtL.val (hf_quits _) (bkn _) rfl (v:=.bool false) (pu_neqB (r:=false) rfl rfl (by decide)) ?_
    refine AtL.val (hf_quits _) (bkn _) rfl (v:=.bool false) (pu_move rfl) ?_
    refine AtL.off (hf_quits _) rfl rfl ?_
    refine AtL.off (hf_quits _) rfl rfl ?_
    refine AtL.val (hf_quits _) (bkn _) rfl (v:=.bool false) (pu_pickF rfl rfl) ?_
    refine AtL.val (hf_quits _) (bkn _) rfl (v:=.bool false) (pu_move rfl) ?_
    refine AtL.off (hf_quits _) rfl rfl ?_
    refine AtL.off (hf_quits _) rfl rfl ?_
    refine AtL.off (hf_quits _) rfl rfl ?_
    refine AtL.off (hf_quits _) rfl rfl ?_
    refine AtL.val (hf_quits _) (bkn _) rfl (v:=.bool false) (pu_pickF rfl rfl) ?_
    refine AtL.nil (hf_quits _) ?_
    refine At.condF (hf_quits _) rfl ?_
    refine At.skip (hf_quits _) ?_
    refine At.seq (hf_quits _) ?_
    refine At.seq (hf_quits _) ?_
    refine At.region (hf_quits _) ?_
    refine AtL.val (hf_quits _) (bkn _) rfl (v:=.int .i32 (((v:Nat):Int))) (pu_move rfl) ?_
    refine AtL.val (hf_quits _) (bkn _) rfl (v:=.bool true) (pu_gtrB (r:=true) rfl rfl (decide_eq_true (by omega))) ?_
    refine AtL.val (hf_quits _) (bkn _) rfl (v:=.bool true) (pu_move rfl) ?_
    refine AtL.off (hf_quits _) rfl rfl ?_
    refine AtL.off (hf_quits _) rfl rfl ?_
    refine AtL.val (hf_quits _) (bkn _) rfl (v:=.bool true) (pu_pickT rfl rfl) ?_
    refine AtL.nil (hf_quits _) ?_
    refine At.condT (hf_quits _) rfl ?_
    refine At.ret (hf_quits _) (fun _=>?_)
    refine AtR.mark (hf_quits _) .enable (by simp) rfl Try.func52 nm52 rfl rfl ex52 ?_
    simp only [deaf_en]
    refine AtR.leave0 (hf_quits _) hb1 rfl Try.func44 rfl ?_
    refine AtL.nil (hf_quits _) ?_
    refine At.done (hf_quits _) (fun _=>?_)
    refine AtR.leaveD (hf_quits _) rfl Try.func63 rfl hcm ?_
    exact QuitsD.mono hT (by omega)
   ·refine AtL.val (hf_quits _) (bkn _) rfl (v:=.int .u64 (((v * 4294967296 + 1:Nat):Int))) (pu_assign rfl) ?_
    refine AtL.nil (hf_quits _) ?_
    refine At.ret (hf_quits _) (fun _=>?_)
    refine AtR.leave1 (hf_quits _) hb2 rfl Try.func57 rfl (.int .u64 (((v * 4294967296 + 1:Nat):Int))) rfl ?_
    refine AtL.val (hf_quits _) (bkn _) rfl (v:=.int .u64 (((v * 4294967296 + 1:Nat):Int))) (pu_assign rfl) ?_
    refine AtL.nil (hf_quits _) ?_
    refine At.seq (hf_quits _) ?_
    refine At.seq (hf_quits _) ?_
    refine At.region (hf_quits _) ?_
    refine AtL.val (hf_quits _) (bkn _) rfl (v:=.int .u64 (((v * 4294967296 + 1:Nat):Int))) (pu_move rfl) ?_
    refine AtL.val (hf_quits _) (bkn _) rfl (v:=.int .u64 0) (pu_and (r:=0) rfl rfl (low31 v 1 (by omega) (by omega))) ?_
    refine AtL.val (hf_quits _) (bkn _) rfl (v:=.bool false) (pu_neqB (r:=false) rfl rfl (by decide)) ?_
    refine AtL.val (hf_quits _) (bkn _) rfl (v:=.bool false) (pu_move rfl) ?_
    refine AtL.off (hf_quits _) rfl rfl ?_
    refine AtL.off (hf_quits _) rfl rfl ?_
    refine AtL.val (hf_quits _) (bkn _) rfl (v:=.bool false) (pu_pickF rfl rfl) ?_
    refine AtL.nil (hf_quits _) ?_
    refine At.condF (hf_quits _) rfl ?_
    refine At.skip (hf_quits _) ?_
    refine At.seq (hf_quits _) ?_
    refine At.region (hf_quits _) ?_
    refine AtL.val (hf_quits _) (bkn _) rfl (v:=.int .u64 (((v * 4294967296 + 1:Nat):Int))) (pu_move rfl) ?_
    refine AtL.val (hf_quits _) (bkn _) rfl (v:=.int .u64 (((v:Nat):Int))) (pu_shr (r:=((v:Nat):Int)) rfl rfl (by decide) (shr32 v 1 (by omega))) ?_
    refine AtL.val (hf_quits _) (bkn _) rfl (v:=.int .i32 (((v:Nat):Int))) (pu_convert (r:=((v:Nat):Int)) rfl Try.underlying84 Try.underlying21 (i32_wrap v (by omega))) ?_
    refine AtL.val (hf_quits _) (bkn _) rfl (v:=.int .i32 (((v:Nat):Int))) (pu_assign rfl) ?_
    refine AtL.nil (hf_quits _) ?_
    refine At.seq (hf_quits _) ?_
    refine At.region (hf_quits _) ?_
    refine AtL.val (hf_quits _) (bkn _) rfl (v:=.int .u64 (((v * 4294967296 + 1:Nat):Int))) (pu_move rfl) ?_
    refine AtL.val (hf_quits _) (bkn _) rfl (v:=.int .u64 1) (pu_and (r:=1) rfl rfl (lowAll v 1 (by omega) (by omega))) ?_
    refine AtL.val (hf_quits _) (bkn _) rfl (v:=.int .u32 1) (pu_convert (r:=1) rfl Try.underlying84 Try.underlying87 (by decide)) ?_
    refine AtL.val (hf_quits _) (bkn _) rfl (v:=.int .u32 1) (pu_assign rfl) ?_
    refine AtL.nil (hf_quits _) ?_
    refine At.seq (hf_quits _) ?_
    refine At.seq (hf_quits _) ?_
    refine At.region (hf_quits _) ?_
    refine AtL.val (hf_quits _) (bkn _) rfl (v:=.bool true) (pu_move rfl) ?_
    refine AtL.valG (hf_quits _) (bkn _) rfl rfl (v:=.int .i64 (-1)) (pu_move rfl) ?_
    refine AtL.valG (hf_quits _) (bkn _) rfl rfl (v:=.bool false) (pu_gtrB (r:=false) rfl rfl (by decide)) ?_
    refine AtL.val (hf_quits _) (bkn _) rfl (v:=.bool false) (pu_pickT rfl rfl) ?_
    refine AtL.val (hf_quits _) (bkn _) rfl (v:=.bool false) (pu_move rfl) ?_
    refine AtL.off (hf_quits _) rfl rfl ?_
    refine AtL.off (hf_quits _) rfl rfl ?_
    refine AtL.off (hf_quits _) rfl rfl ?_
    refine AtL.off (hf_quits _) rfl rfl ?_
    refine AtL.val (hf_quits _) (bkn _) rfl (v:=.bool false) (pu_pickF rfl rfl) ?_
    refine AtL.nil (hf_quits _) ?_
    refine At.condF (hf_quits _) rfl ?_
    refine At.skip (hf_quits _) ?_
    refine At.seq (hf_quits _) ?_
    refine At.seq (hf_quits _) ?_
    refine At.region (hf_quits _) ?_
    refine AtL.val (hf_quits _) (bkn _) rfl (v:=.int .i32 (((v:Nat):Int))) (pu_move rfl) ?_
    refine AtL.val (hf_quits _) (bkn _) rfl (v:=.bool false) (pu_lssB (r:=false) rfl rfl (decide_eq_false (by omega))) ?_
    refine AtL.nil (hf_quits _) ?_
    refine At.condF (hf_quits _) rfl ?_
    refine At.skip (hf_quits _) ?_
    refine At.seq (hf_quits _) ?_
    refine At.seq (hf_quits _) ?_
    refine At.region (hf_quits _) ?_
    refine AtL.val (hf_quits _) (bkn _) rfl (v:=.int .u32 1) (pu_move rfl) ?_
    refine AtL.val (hf_quits _) (bkn _) rfl (v:=.bool true) (pu_neqB (r:=true) rfl rfl (by decide)) ?_
    refine AtL.val (hf_quits _) (bkn _) rfl (v:=.bool true) (pu_move rfl) ?_
    refine AtL.valG (hf_quits _) (bkn _) rfl rfl (v:=.int .i64 (-1)) (pu_move rfl) ?_
    refine AtL.valG (hf_quits _) (bkn _) rfl rfl (v:=.bool false) (pu_gtrB (r:=false) rfl rfl (by decide)) ?_
    refine AtL.val (hf_quits _) (bkn _) rfl (v:=.bool false) (pu_pickT rfl rfl) ?_
    refine AtL.val (hf_quits _) (bkn _) rfl (v:=.bool false) (pu_move rfl) ?_
    refine AtL.off (hf_quits _) rfl rfl ?_
    refine AtL.off (hf_quits _) rfl rfl ?_
    refine AtL.off (hf_quits _) rfl rfl ?_
    refine AtL.off (hf_quits _) rfl rfl ?_
    refine AtL.val (hf_quits _) (bkn _) rfl (v:=.bool false) (pu_pickF rfl rfl) ?_
    refine AtL.nil (hf_quits _) ?_
    refine At.condF (hf_quits _) rfl ?_
    refine At.skip (hf_quits _) ?_
    refine At.seq (hf_quits _) ?_
    refine At.seq (hf_quits _) ?_
    refine At.region (hf_quits _) ?_
    refine AtL.val (hf_quits _) (bkn _) rfl (v:=.int .i32 (((v:Nat):Int))) (pu_move rfl) ?_
    refine AtL.val (hf_quits _) (bkn _) rfl (v:=.bool true) (pu_gtrB (r:=true) rfl rfl (decide_eq_true (by omega))) ?_
    refine AtL.val (hf_quits _) (bkn _) rfl (v:=.bool true) (pu_move rfl) ?_
    refine AtL.off (hf_quits _) rfl rfl ?_
    refine AtL.off (hf_quits _) rfl rfl ?_
    refine AtL.val (hf_quits _) (bkn _) rfl (v:=.bool true) (pu_pickT rfl rfl) ?_
    refine AtL.nil (hf_quits _) ?_
    refine At.condT (hf_quits _) rfl ?_
    refine At.ret (hf_quits _) (fun _=>?_)
    refine AtR.mark (hf_quits _) .enable (by simp) rfl Try.func52 nm52 rfl rfl ex52 ?_
    simp only [deaf_en]
    refine AtR.leave0 (hf_quits _) hb1 rfl Try.func44 rfl ?_
    refine AtL.nil (hf_quits _) ?_
    refine At.done (hf_quits _) (fun _=>?_)
    refine AtR.leaveD (hf_quits _) rfl Try.func63 rfl hcm ?_
    exact QuitsD.mono hT (by omega)
  ·obtain rfl:v = 0:=by omega
   obtain rfl:wt = 0:=by omega
   refine AtL.val (hf_quits _) (bkn _) rfl (v:=.int .u64 (((0 * 4294967296 + 0:Nat):Int))) (pu_assign rfl) ?_
   refine AtL.nil (hf_quits _) ?_
   refine At.ret (hf_quits _) (fun _=>?_)
   refine AtR.leave1 (hf_quits _) hb2 rfl Try.func57 rfl (.int .u64 (((0 * 4294967296 + 0:Nat):Int))) rfl ?_
   refine AtL.val (hf_quits _) (bkn _) rfl (v:=.int .u64 (((0 * 4294967296 + 0:Nat):Int))) (pu_assign rfl) ?_
   refine AtL.nil (hf_quits _) ?_
   refine At.seq (hf_quits _) ?_
   refine At.seq (hf_quits _) ?_
   refine At.region (hf_quits _) ?_
   refine AtL.val (hf_quits _) (bkn _) rfl (v:=.int .u64 (((0 * 4294967296 + 0:Nat):Int))) (pu_move rfl) ?_
   refine AtL.val (hf_quits _) (bkn _) rfl (v:=.int .u64 0) (pu_and (r:=0) rfl rfl (low31 0 0 (by omega) (by omega))) ?_
   refine AtL.val (hf_quits _) (bkn _) rfl (v:=.bool false) (pu_neqB (r:=false) rfl rfl (by decide)) ?_
   refine AtL.val (hf_quits _) (bkn _) rfl (v:=.bool false) (pu_move rfl) ?_
   refine AtL.off (hf_quits _) rfl rfl ?_
   refine AtL.off (hf_quits _) rfl rfl ?_
   refine AtL.val (hf_quits _) (bkn _) rfl (v:=.bool false) (pu_pickF rfl rfl) ?_
   refine AtL.nil (hf_quits _) ?_
   refine At.condF (hf_quits _) rfl ?_
   refine At.skip (hf_quits _) ?_
   refine At.seq (hf_quits _) ?_
   refine At.region (hf_quits _) ?_
   refine AtL.val (hf_quits _) (bkn _) rfl (v:=.int .u64 (((0 * 4294967296 + 0:Nat):Int))) (pu_move rfl) ?_
   refine AtL.val (hf_quits _) (bkn _) rfl (v:=.int .u64 (((0:Nat):Int))) (pu_shr (r:=((0:Nat):Int)) rfl rfl (by decide) (shr32 0 0 (by omega))) ?_
   refine AtL.val (hf_quits _) (bkn _) rfl (v:=.int .i32 (((0:Nat):Int))) (pu_convert (r:=((0:Nat):Int)) rfl Try.underlying84 Try.underlying21 (i32_wrap 0 (by omega))) ?_
   refine AtL.val (hf_quits _) (bkn _) rfl (v:=.int .i32 (((0:Nat):Int))) (pu_assign rfl) ?_
   refine AtL.nil (hf_quits _) ?_
   refine At.seq (hf_quits _) ?_
   refine At.region (hf_quits _) ?_
   refine AtL.val (hf_quits _) (bkn _) rfl (v:=.int .u64 (((0 * 4294967296 + 0:Nat):Int))) (pu_move rfl) ?_
   refine AtL.val (hf_quits _) (bkn _) rfl (v:=.int .u64 0) (pu_and (r:=0) rfl rfl (lowAll 0 0 (by omega) (by omega))) ?_
   refine AtL.val (hf_quits _) (bkn _) rfl (v:=.int .u32 0) (pu_convert (r:=0) rfl Try.underlying84 Try.underlying87 (by decide)) ?_
   refine AtL.val (hf_quits _) (bkn _) rfl (v:=.int .u32 0) (pu_assign rfl) ?_
   refine AtL.nil (hf_quits _) ?_
   refine At.seq (hf_quits _) ?_
   refine At.seq (hf_quits _) ?_
   refine At.region (hf_quits _) ?_
   refine AtL.val (hf_quits _) (bkn _) rfl (v:=.bool true) (pu_move rfl) ?_
   refine AtL.valG (hf_quits _) (bkn _) rfl rfl (v:=.int .i64 (-1)) (pu_move rfl) ?_
   refine AtL.valG (hf_quits _) (bkn _) rfl rfl (v:=.bool false) (pu_gtrB (r:=false) rfl rfl (by decide)) ?_
   refine AtL.val (hf_quits _) (bkn _) rfl (v:=.bool false) (pu_pickT rfl rfl) ?_
   refine AtL.val (hf_quits _) (bkn _) rfl (v:=.bool false) (pu_move rfl) ?_
   refine AtL.off (hf_quits _) rfl rfl ?_
   refine AtL.off (hf_quits _) rfl rfl ?_
   refine AtL.off (hf_quits _) rfl rfl ?_
   refine AtL.off (hf_quits _) rfl rfl ?_
   refine AtL.val (hf_quits _) (bkn _) rfl (v:=.bool false) (pu_pickF rfl rfl) ?_
   refine AtL.nil (hf_quits _) ?_
   refine At.condF (hf_quits _) rfl ?_
   refine At.skip (hf_quits _) ?_
   refine At.seq (hf_quits _) ?_
   refine At.seq (hf_quits _) ?_
   refine At.region (hf_quits _) ?_
   refine AtL.val (hf_quits _) (bkn _) rfl (v:=.int .i32 (((0:Nat):Int))) (pu_move rfl) ?_
   refine AtL.val (hf_quits _) (bkn _) rfl (v:=.bool false) (pu_lssB (r:=false) rfl rfl (by decide)) ?_
   refine AtL.nil (hf_quits _) ?_
   refine At.condF (hf_quits _) rfl ?_
   refine At.skip (hf_quits _) ?_
   refine At.seq (hf_quits _) ?_
   refine At.seq (hf_quits _) ?_
   refine At.region (hf_quits _) ?_
   refine AtL.val (hf_quits _) (bkn _) rfl (v:=.int .u32 0) (pu_move rfl) ?_
   refine AtL.val (hf_quits _) (bkn _) rfl (v:=.bool false) (pu_neqB (r:=false) rfl rfl (by decide)) ?_
   refine AtL.val (hf_quits _) (bkn _) rfl (v:=.bool false) (pu_move rfl) ?_
   refine AtL.off (hf_quits _) rfl rfl ?_
   refine AtL.off (hf_quits _) rfl rfl ?_
   refine AtL.val (hf_quits _) (bkn _) rfl (v:=.bool false) (pu_pickF rfl rfl) ?_
   refine AtL.val (hf_quits _) (bkn _) rfl (v:=.bool false) (pu_move rfl) ?_
   refine AtL.off (hf_quits _) rfl rfl ?_
   refine AtL.off (hf_quits _) rfl rfl ?_
   refine AtL.off (hf_quits _) rfl rfl ?_
   refine AtL.off (hf_quits _) rfl rfl ?_
   refine AtL.val (hf_quits _) (bkn _) rfl (v:=.bool false) (pu_pickF rfl rfl) ?_
   refine AtL.nil (hf_quits _) ?_
   refine At.condF (hf_quits _) rfl ?_
   refine At.skip (hf_quits _) ?_
   refine At.seq (hf_quits _) ?_
   refine At.seq (hf_quits _) ?_
   refine At.region (hf_quits _) ?_
   refine AtL.val (hf_quits _) (bkn _) rfl (v:=.int .i32 (((0:Nat):Int))) (pu_move rfl) ?_
   refine AtL.val (hf_quits _) (bkn _) rfl (v:=.bool false) (pu_gtrB (r:=false) rfl rfl (by decide)) ?_
   refine AtL.val (hf_quits _) (bkn _) rfl (v:=.bool false) (pu_move rfl) ?_
   refine AtL.valG (hf_quits _) (bkn _) rfl rfl (v:=.int .u32 0) (pu_move rfl) ?_
   refine AtL.valG (hf_quits _) (bkn _) rfl rfl (v:=.bool true) (pu_eqlB (r:=true) rfl rfl (by decide)) ?_
   refine AtL.val (hf_quits _) (bkn _) rfl (v:=.bool true) (pu_pickF rfl rfl) ?_
   refine AtL.nil (hf_quits _) ?_
   refine At.condT (hf_quits _) rfl ?_
   refine At.ret (hf_quits _) (fun _=>?_)
   refine AtR.mark (hf_quits _) .enable (by simp) rfl Try.func52 nm52 rfl rfl ex52 ?_
   simp only [deaf_en]
   refine AtR.leave0 (hf_quits _) hb1 rfl Try.func44 rfl ?_
   refine AtL.nil (hf_quits _) ?_
   refine At.done (hf_quits _) (fun _=>?_)
   refine AtR.leaveD (hf_quits _) rfl Try.func63 rfl hcm ?_
   exact QuitsD.mono hT (by omega)
 ·refine AtL.val (hf_lst _ gr 2) (bkn _) rfl (v:=.int .u64 (((0 * 4294967296 + 1:Nat):Int))) (pu_assign rfl) ?_
  refine AtL.nil (hf_lst _ gr 2) ?_
  refine At.ret (hf_lst _ gr 2) (fun _=>?_)
  refine AtR.leave1 (hf_lst _ gr 2) hb2 rfl Try.func57 rfl (.int .u64 (((0 * 4294967296 + 1:Nat):Int))) rfl ?_
  refine AtL.val (hf_lst _ gr 2) (bkn _) rfl (v:=.int .u64 (((0 * 4294967296 + 1:Nat):Int))) (pu_assign rfl) ?_
  refine AtL.nil (hf_lst _ gr 2) ?_
  refine At.seq (hf_lst _ gr 2) ?_
  refine At.seq (hf_lst _ gr 2) ?_
  refine At.region (hf_lst _ gr 2) ?_
  refine AtL.val (hf_lst _ gr 2) (bkn _) rfl (v:=.int .u64 (((0 * 4294967296 + 1:Nat):Int))) (pu_move rfl) ?_
  refine AtL.val (hf_lst _ gr 2) (bkn _) rfl (v:=.int .u64 0) (pu_and (r:=0) rfl rfl (low31 0 1 (by omega) (by omega))) ?_
  refine AtL.val (hf_lst _ gr 2) (bkn _) rfl (v:=.bool false) (pu_neqB (r:=false) rfl rfl (by decide)) ?_
  refine AtL.val (hf_lst _ gr 2) (bkn _) rfl (v:=.bool false) (pu_move rfl) ?_
  refine AtL.off (hf_lst _ gr 2) rfl rfl ?_
  refine AtL.off (hf_lst _ gr 2) rfl rfl ?_
  refine AtL.val (hf_lst _ gr 2) (bkn _) rfl (v:=.bool false) (pu_pickF rfl rfl) ?_
  refine AtL.nil (hf_lst _ gr 2) ?_
  refine At.condF (hf_lst _ gr 2) rfl ?_
  refine At.skip (hf_lst _ gr 2) ?_
  refine At.seq (hf_lst _ gr 2) ?_
  refine At.region (hf_lst _ gr 2) ?_
  refine AtL.val (hf_lst _ gr 2) (bkn _) rfl (v:=.int .u64 (((0 * 4294967296 + 1:Nat):Int))) (pu_move rfl) ?_
  refine AtL.val (hf_lst _ gr 2) (bkn _) rfl (v:=.int .u64 (((0:Nat):Int))) (pu_shr (r:=((0:Nat):Int)) rfl rfl (by decide) (shr32 0 1 (by omega))) ?_
  refine AtL.val (hf_lst _ gr 2) (bkn _) rfl (v:=.int .i32 (((0:Nat):Int))) (pu_convert (r:=((0:Nat):Int)) rfl Try.underlying84 Try.underlying21 (i32_wrap 0 (by omega))) ?_
  refine AtL.val (hf_lst _ gr 2) (bkn _) rfl (v:=.int .i32 (((0:Nat):Int))) (pu_assign rfl) ?_
  refine AtL.nil (hf_lst _ gr 2) ?_
  refine At.seq (hf_lst _ gr 2) ?_
  refine At.region (hf_lst _ gr 2) ?_
  refine AtL.val (hf_lst _ gr 2) (bkn _) rfl (v:=.int .u64 (((0 * 4294967296 + 1:Nat):Int))) (pu_move rfl) ?_
  refine AtL.val (hf_lst _ gr 2) (bkn _) rfl (v:=.int .u64 1) (pu_and (r:=1) rfl rfl (lowAll 0 1 (by omega) (by omega))) ?_
  refine AtL.val (hf_lst _ gr 2) (bkn _) rfl (v:=.int .u32 1) (pu_convert (r:=1) rfl Try.underlying84 Try.underlying87 (by decide)) ?_
  refine AtL.val (hf_lst _ gr 2) (bkn _) rfl (v:=.int .u32 1) (pu_assign rfl) ?_
  refine AtL.nil (hf_lst _ gr 2) ?_
  refine At.seq (hf_lst _ gr 2) ?_
  refine At.seq (hf_lst _ gr 2) ?_
  refine At.region (hf_lst _ gr 2) ?_
  refine AtL.val (hf_lst _ gr 2) (bkn _) rfl (v:=.bool true) (pu_move rfl) ?_
  refine AtL.valG (hf_lst _ gr 2) (bkn _) rfl rfl (v:=.int .i64 (-1)) (pu_move rfl) ?_
  refine AtL.valG (hf_lst _ gr 2) (bkn _) rfl rfl (v:=.bool false) (pu_gtrB (r:=false) rfl rfl (by decide)) ?_
  refine AtL.val (hf_lst _ gr 2) (bkn _) rfl (v:=.bool false) (pu_pickT rfl rfl) ?_
  refine AtL.val (hf_lst _ gr 2) (bkn _) rfl (v:=.bool false) (pu_move rfl) ?_
  refine AtL.off (hf_lst _ gr 2) rfl rfl ?_
  refine AtL.off (hf_lst _ gr 2) rfl rfl ?_
  refine AtL.off (hf_lst _ gr 2) rfl rfl ?_
  refine AtL.off (hf_lst _ gr 2) rfl rfl ?_
  refine AtL.val (hf_lst _ gr 2) (bkn _) rfl (v:=.bool false) (pu_pickF rfl rfl) ?_
  refine AtL.nil (hf_lst _ gr 2) ?_
  refine At.condF (hf_lst _ gr 2) rfl ?_
  refine At.skip (hf_lst _ gr 2) ?_
  refine At.seq (hf_lst _ gr 2) ?_
  refine At.seq (hf_lst _ gr 2) ?_
  refine At.region (hf_lst _ gr 2) ?_
  refine AtL.val (hf_lst _ gr 2) (bkn _) rfl (v:=.int .i32 (((0:Nat):Int))) (pu_move rfl) ?_
  refine AtL.val (hf_lst _ gr 2) (bkn _) rfl (v:=.bool false) (pu_lssB (r:=false) rfl rfl (by decide)) ?_
  refine AtL.nil (hf_lst _ gr 2) ?_
  refine At.condF (hf_lst _ gr 2) rfl ?_
  refine At.skip (hf_lst _ gr 2) ?_
  refine At.seq (hf_lst _ gr 2) ?_
  refine At.seq (hf_lst _ gr 2) ?_
  refine At.region (hf_lst _ gr 2) ?_
  refine AtL.val (hf_lst _ gr 2) (bkn _) rfl (v:=.int .u32 1) (pu_move rfl) ?_
  refine AtL.val (hf_lst _ gr 2) (bkn _) rfl (v:=.bool true) (pu_neqB (r:=true) rfl rfl (by decide)) ?_
  refine AtL.val (hf_lst _ gr 2) (bkn _) rfl (v:=.bool true) (pu_move rfl) ?_
  refine AtL.valG (hf_lst _ gr 2) (bkn _) rfl rfl (v:=.int .i64 (-1)) (pu_move rfl) ?_
  refine AtL.valG (hf_lst _ gr 2) (bkn _) rfl rfl (v:=.bool false) (pu_gtrB (r:=false) rfl rfl (by decide)) ?_
  refine AtL.val (hf_lst _ gr 2) (bkn _) rfl (v:=.bool false) (pu_pickT rfl rfl) ?_
  refine AtL.val (hf_lst _ gr 2) (bkn _) rfl (v:=.bool false) (pu_move rfl) ?_
  refine AtL.off (hf_lst _ gr 2) rfl rfl ?_
  refine AtL.off (hf_lst _ gr 2) rfl rfl ?_
  refine AtL.off (hf_lst _ gr 2) rfl rfl ?_
  refine AtL.off (hf_lst _ gr 2) rfl rfl ?_
  refine AtL.val (hf_lst _ gr 2) (bkn _) rfl (v:=.bool false) (pu_pickF rfl rfl) ?_
  refine AtL.nil (hf_lst _ gr 2) ?_
  refine At.condF (hf_lst _ gr 2) rfl ?_
  refine At.skip (hf_lst _ gr 2) ?_
  refine At.seq (hf_lst _ gr 2) ?_
  refine At.seq (hf_lst _ gr 2) ?_
  refine At.region (hf_lst _ gr 2) ?_
  refine AtL.val (hf_lst _ gr 2) (bkn _) rfl (v:=.int .i32 (((0:Nat):Int))) (pu_move rfl) ?_
  refine AtL.val (hf_lst _ gr 2) (bkn _) rfl (v:=.bool false) (pu_gtrB (r:=false) rfl rfl (by decide)) ?_
  refine AtL.val (hf_lst _ gr 2) (bkn _) rfl (v:=.bool false) (pu_move rfl) ?_
  refine AtL.valG (hf_lst _ gr 2) (bkn _) rfl rfl (v:=.int .u32 1) (pu_move rfl) ?_
  refine AtL.valG (hf_lst _ gr 2) (bkn _) rfl rfl (v:=.bool false) (pu_eqlB (r:=false) rfl rfl (by decide)) ?_
  refine AtL.val (hf_lst _ gr 2) (bkn _) rfl (v:=.bool false) (pu_pickF rfl rfl) ?_
  refine AtL.nil (hf_lst _ gr 2) ?_
  refine At.condF (hf_lst _ gr 2) rfl ?_
  refine At.skip (hf_lst _ gr 2) ?_
  refine At.seq (hf_lst _ gr 2) ?_
  refine At.seq (hf_lst _ gr 2) ?_
  refine At.region (hf_lst _ gr 2) ?_
  refine AtL.val (hf_lst _ gr 2) (bkn _) rfl (v:=.pointer (some ⟨gr.blk,gr.off,none⟩)) (pu_move rfl) ?_
  refine AtL.val (hf_lst _ gr 2) (bkn _) rfl (v:=.pointer (some ⟨gr.blk,gr.off,none⟩)) (pu_nilCheck rfl) ?_
  refine AtL.val (hf_lst _ gr 2) (bkn _) rfl (v:=.pointer (some ⟨gr.blk,gr.off,none⟩)) (pu_fieldR (s:=1) (gr.off) (gr.off) rfl Try.underlying89 rfl sz86 (by decide) rfl) ?_
  refine AtL.call (hf_lst _ gr 2) (bkn _) [.pointer (some ⟨gr.blk,gr.off,none⟩)] 7 rfl Try.func59 nm59 rfl rfl rfl (fun cs3 hb3=>?_)
  refine At.seq (hf_lst _ gr 2) ?_
  refine At.region (hf_lst _ gr 2) ?_
  refine AtL.val (hf_lst _ gr 2) (bkn _) rfl (v:=.int .u64 0) (pu_assign rfl) ?_
  refine AtL.nil (hf_lst _ gr 2) ?_
  refine At.seq (hf_lst _ gr 2) ?_
  refine At.region (hf_lst _ gr 2) ?_
  refine AtL.val (hf_lst _ gr 2) (bkn _) rfl (v:=.pointer (some ⟨gr.blk,gr.off,none⟩)) (pu_move rfl) ?_
  refine AtL.val (hf_lst _ gr 2) (bkn _) rfl (v:=.pointer (some ⟨gr.blk,gr.off,none⟩)) (pu_nilCheck rfl) ?_
  refine AtL.val (hf_lst _ gr 2) (bkn _) rfl (v:=.pointer (some ⟨gr.blk,gr.off,none⟩)) (pu_fieldR (s:=1) (gr.off) (gr.off) rfl Try.underlying86 rfl sz84 (by decide) rfl) ?_
  refine AtL.lstLoad (bkn _) rfl Try.func72 nm72 rfl rfl ex72 rfl ?_
  refine AtL.val (hf_lst _ gr 1) (bkn _) rfl (v:=.int .u64 1) (pu_assign rfl) ?_
  refine AtL.nil (hf_lst _ gr 1) ?_
  refine At.ret (hf_lst _ gr 1) (fun _=>?_)
  refine AtR.leave1 (hf_lst _ gr 1) hb3 rfl Try.func59 rfl (.int .u64 1) rfl ?_
  refine AtL.val (hf_lst _ gr 1) (bkn _) rfl (v:=.int .u64 (((0 * 4294967296 + 1:Nat):Int))) (pu_move rfl) ?_
  refine AtL.val (hf_lst _ gr 1) (bkn _) rfl (v:=.bool false) (pu_neqB (r:=false) rfl rfl (by decide)) ?_
  refine AtL.nil (hf_lst _ gr 1) ?_
  refine At.condF (hf_lst _ gr 1) rfl ?_
  refine At.skip (hf_lst _ gr 1) ?_
  refine At.seq (hf_lst _ gr 1) ?_
  refine At.region (hf_lst _ gr 1) ?_
  refine AtL.val (hf_lst _ gr 1) (bkn _) rfl (v:=.pointer (some ⟨gr.blk,gr.off,none⟩)) (pu_move rfl) ?_
  refine AtL.val (hf_lst _ gr 1) (bkn _) rfl (v:=.pointer (some ⟨gr.blk,gr.off,none⟩)) (pu_nilCheck rfl) ?_
  refine AtL.val (hf_lst _ gr 1) (bkn _) rfl (v:=.pointer (some ⟨gr.blk,gr.off,none⟩)) (pu_fieldR (s:=1) (gr.off) (gr.off) rfl Try.underlying89 rfl sz86 (by decide) rfl) ?_
  refine AtL.call (hf_lst _ gr 1) (bkn _) [.pointer (some ⟨gr.blk,gr.off,none⟩),.int .u64 0] 9 rfl Try.func60 nm60 rfl rfl rfl (fun cs4 hb4=>?_)
  refine At.region (hf_lst _ gr 1) ?_
  refine AtL.val (hf_lst _ gr 1) (bkn _) rfl (v:=.pointer (some ⟨gr.blk,gr.off,none⟩)) (pu_move rfl) ?_
  refine AtL.val (hf_lst _ gr 1) (bkn _) rfl (v:=.pointer (some ⟨gr.blk,gr.off,none⟩)) (pu_nilCheck rfl) ?_
  refine AtL.val (hf_lst _ gr 1) (bkn _) rfl (v:=.pointer (some ⟨gr.blk,gr.off,none⟩)) (pu_fieldR (s:=1) (gr.off) (gr.off) rfl Try.underlying86 rfl sz84 (by decide) rfl) ?_
  refine AtL.val (hf_lst _ gr 1) (bkn _) rfl (v:=.int .u64 0) (pu_move rfl) ?_
  refine AtL.lstStore (bkn _) rfl Try.func73 nm73 rfl rfl ex73 rfl rfl ?_
  refine AtL.nil (hf_lst _ gr 0) ?_
  refine At.done (hf_lst _ gr 0) (fun _=>?_)
  refine AtR.leave0 (hf_lst _ gr 0) hb4 rfl Try.func60 rfl ?_
  refine AtL.nil (hf_lst _ gr 0) ?_
  refine At.seq (hf_lst _ gr 0) ?_
  refine At.seq (hf_lst _ gr 0) ?_
  refine At.region (hf_lst _ gr 0) ?_
  refine AtL.val (hf_lst _ gr 0) (bkn _) rfl (v:=.bool false) (pu_move rfl) ?_
  refine AtL.nil (hf_lst _ gr 0) ?_
  refine At.condF (hf_lst _ gr 0) rfl ?_
  refine At.skip (hf_lst _ gr 0) ?_
  refine At.block (hf_lst _ gr 0) ?_
  refine At.loop (hf_lst _ gr 0) ?_
  refine At.seq (hf_lst _ gr 0) ?_
  refine At.seq (hf_lst _ gr 0) ?_
  refine At.region (hf_lst _ gr 0) ?_
  refine AtL.val (hf_lst _ gr 0) (bkn _) rfl (v:=.int .u32 1) (pu_move rfl) ?_
  refine AtL.val (hf_lst _ gr 0) (bkn _) rfl (v:=.bool true) (pu_neqB (r:=true) rfl rfl (by decide)) ?_
  refine AtL.nil (hf_lst _ gr 0) ?_
  refine At.condT (hf_lst _ gr 0) rfl ?_
  refine At.skip (hf_lst _ gr 0) ?_
  refine At.seq (hf_lst _ gr 0) ?_
  refine At.block (hf_lst _ gr 0) ?_
  refine At.region (hf_lst _ gr 0) ?_
  refine AtL.val (hf_lst _ gr 0) (bkn _) rfl (v:=.pointer (some ⟨gr.blk,gr.off,none⟩)) (pu_move rfl) ?_
  refine AtL.val (hf_lst _ gr 0) (bkn _) rfl (v:=.pointer (some ⟨gr.blk,gr.off,none⟩)) (pu_nilCheck rfl) ?_
  refine AtL.val (hf_lst _ gr 0) (bkn _) rfl (v:=.pointer (some ⟨gr.blk,gr.off + 1,none⟩)) (pu_fieldR (s:=1) (gr.off) (gr.off + 1) rfl Try.underlying89 rfl sz87 (by decide) rfl) ?_
  refine AtL.lstRel (bkn _) rfl Try.func62 nm62 rfl rfl ex62 rfl ?_
  refine AtL.nil (hf_quits _) ?_
  refine At.inBlock (hf_quits _) ?_
  refine At.region (hf_quits _) ?_
  refine AtL.val (hf_quits _) (bkn _) rfl (v:=.int .u32 1) (pu_move rfl) ?_
  refine AtL.val (hf_quits _) (bkn _) rfl (v:=.int .u32 0) (pu_sub (r:=0) rfl rfl (by decide)) ?_
  refine AtL.val (hf_quits _) (bkn _) rfl (v:=.int .u32 0) (pu_assign rfl) ?_
  refine AtL.nil (hf_quits _) ?_
  refine At.inLoop (hf_quits _) ?_
  refine At.seq (hf_quits _) ?_
  refine At.seq (hf_quits _) ?_
  refine At.region (hf_quits _) ?_
  refine AtL.val (hf_quits _) (bkn _) rfl (v:=.int .u32 0) (pu_move rfl) ?_
  refine AtL.val (hf_quits _) (bkn _) rfl (v:=.bool false) (pu_neqB (r:=false) rfl rfl (by decide)) ?_
  refine AtL.nil (hf_quits _) ?_
  refine At.condF (hf_quits _) rfl ?_
  refine At.exit (hf_quits _) rfl ?_
  refine At.done (hf_quits _) (fun _=>?_)
  refine AtR.mark (hf_quits _) .enable (by simp) rfl Try.func52 nm52 rfl rfl ex52 ?_
  simp only [deaf_en]
  refine AtR.leave0 (hf_quits _) hb1 rfl Try.func44 rfl ?_
  refine AtL.nil (hf_quits _) ?_
  refine At.done (hf_quits _) (fun _=>?_)
  refine AtR.leaveD (hf_quits _) rfl Try.func63 rfl hcm ?_
  exact QuitsD.mono hT (by omega)
set_option maxRecDepth 20000 in
theorem add_a (gr:Grp) (K:Goroutine->Prop) {c:Frame} {cs:List Frame} (hK:K (Conc.G (c.finish (.tuple #[])) cs)):AddA Try.prog gr K 500 0 (Conc.G (Frame.enter Try.prog 44 #[.pointer (some ⟨gr.blk,gr.off,none⟩),.int .i64 1] .normal) (c :: cs)):=by
 rw [enter_at _ Try.func44 rfl]
 refine (?_:At (YAddA Try.prog gr K) 500 117 (base 44) (c :: cs) [] 0 (Wg.argE #[.pointer (some ⟨gr.blk,gr.off,none⟩),.int .i64 1]) [.code (Try.f44.body.getD .skip)]) _ (repD_args _ _ rfl)
 refine At.seq hf_addA ?_
 refine At.condT hf_addA rfl ?_
 refine At.seq hf_addA ?_
 refine At.seq hf_addA ?_
 refine At.region hf_addA ?_
 refine AtL.val hf_addA (bkn _) rfl (v:=.int .i64 1) (pu_move rfl) ?_
 refine AtL.val hf_addA (bkn _) rfl (v:=.bool false) (pu_lssB (r:=false) rfl rfl (by decide)) ?_
 refine AtL.nil hf_addA ?_
 refine At.condF hf_addA rfl ?_
 refine At.skip hf_addA ?_
 refine At.seq hf_addA ?_
 refine At.region hf_addA ?_
 refine AtL.mark0 hf_addA (bkn _) .disable (by simp) (.inl rfl) rfl Try.func51 nm51 rfl rfl ex51 ?_
 simp only [deaf_dis]
 refine AtL.nil hf_addA ?_
 refine At.region hf_addA ?_
 refine AtL.defer hf_addA (bkn _) [] rfl ?_
 refine AtL.nil hf_addA ?_
 refine At.seq hf_addA ?_
 refine At.region hf_addA ?_
 refine AtL.val hf_addA (bkn _) rfl (v:=.bool false) (pu_assign rfl) ?_
 refine AtL.nil hf_addA ?_
 refine At.seq hf_addA ?_
 refine At.seq hf_addA ?_
 refine At.region hf_addA ?_
 refine AtL.pureEntry hf_addA (bkn _) (.bool false) rfl Try.func53 nm53 rfl rfl ex53 ?_
 refine AtL.nil hf_addA ?_
 refine At.condF hf_addA rfl ?_
 refine At.skip hf_addA ?_
 refine At.seq hf_addA ?_
 refine At.region hf_addA ?_
 refine AtL.val hf_addA (bkn _) rfl (v:=.pointer (some ⟨gr.blk,gr.off,none⟩)) (pu_move rfl) ?_
 refine AtL.val hf_addA (bkn _) rfl (v:=.pointer (some ⟨gr.blk,gr.off,none⟩)) (pu_nilCheck rfl) ?_
 refine AtL.val hf_addA (bkn _) rfl (v:=.pointer (some ⟨gr.blk,gr.off,none⟩)) (pu_fieldR (s:=1) (gr.off) (gr.off) rfl Try.underlying89 rfl sz86 (by decide) rfl) ?_
 refine AtL.val hf_addA (bkn _) rfl (v:=.int .i64 1) (pu_move rfl) ?_
 refine AtL.val hf_addA (bkn _) rfl (v:=.int .u64 1) (pu_convert (r:=1) rfl Try.underlying3 Try.underlying84 (by decide)) ?_
 refine AtL.val hf_addA (bkn _) rfl (v:=.int .u64 4294967296) (pu_shl (r:=4294967296) rfl rfl (by decide) (by decide)) ?_
 refine AtL.call hf_addA (bkn _) [.pointer (some ⟨gr.blk,gr.off,none⟩),.int .u64 4294967296] 10 rfl Try.func57 nm57 rfl rfl rfl (fun cs1 hb1=>?_)
 refine At.seq hf_addA ?_
 refine At.region hf_addA ?_
 refine AtL.val hf_addA (bkn _) rfl (v:=.int .u64 0) (pu_assign rfl) ?_
 refine AtL.nil hf_addA ?_
 refine At.seq hf_addA ?_
 refine At.region hf_addA ?_
 refine AtL.val hf_addA (bkn _) rfl (v:=.pointer (some ⟨gr.blk,gr.off,none⟩)) (pu_move rfl) ?_
 refine AtL.val hf_addA (bkn _) rfl (v:=.pointer (some ⟨gr.blk,gr.off,none⟩)) (pu_nilCheck rfl) ?_
 refine AtL.val hf_addA (bkn _) rfl (v:=.pointer (some ⟨gr.blk,gr.off,none⟩)) (pu_fieldR (s:=1) (gr.off) (gr.off) rfl Try.underlying86 rfl sz84 (by decide) rfl) ?_
 refine AtL.val hf_addA (bkn _) rfl (v:=.int .u64 4294967296) (pu_move rfl) ?_
 refine AtL.addA (bkn _) rfl Try.func71 nm71 rfl rfl ex71 rfl rfl (fun v hv=>?_)
 rcases Nat.eq_zero_or_pos v with rfl | hv0
 ·refine AtL.val hf_addB (bkn _) rfl (v:=.int .u64 ((((0 + 1) * 4294967296 + 0:Nat):Int))) (pu_assign rfl) ?_
  refine AtL.nil hf_addB ?_
  refine At.ret hf_addB (fun _=>?_)
  refine AtR.leave1 hf_addB hb1 rfl Try.func57 rfl (.int .u64 ((((0 + 1) * 4294967296 + 0:Nat):Int))) rfl ?_
  refine AtL.val hf_addB (bkn _) rfl (v:=.int .u64 ((((0 + 1) * 4294967296 + 0:Nat):Int))) (pu_assign rfl) ?_
  refine AtL.nil hf_addB ?_
  refine At.seq hf_addB ?_
  refine At.seq hf_addB ?_
  refine At.region hf_addB ?_
  refine AtL.val hf_addB (bkn _) rfl (v:=.int .u64 ((((0 + 1) * 4294967296 + 0:Nat):Int))) (pu_move rfl) ?_
  refine AtL.val hf_addB (bkn _) rfl (v:=.int .u64 0) (pu_and (r:=0) rfl rfl (low31 (0 + 1) 0 (by omega) (by omega))) ?_
  refine AtL.val hf_addB (bkn _) rfl (v:=.bool false) (pu_neqB (r:=false) rfl rfl (by decide)) ?_
  refine AtL.val hf_addB (bkn _) rfl (v:=.bool false) (pu_move rfl) ?_
  refine AtL.off hf_addB rfl rfl ?_
  refine AtL.off hf_addB rfl rfl ?_
  refine AtL.val hf_addB (bkn _) rfl (v:=.bool false) (pu_pickF rfl rfl) ?_
  refine AtL.nil hf_addB ?_
  refine At.condF hf_addB rfl ?_
  refine At.skip hf_addB ?_
  refine At.seq hf_addB ?_
  refine At.region hf_addB ?_
  refine AtL.val hf_addB (bkn _) rfl (v:=.int .u64 ((((0 + 1) * 4294967296 + 0:Nat):Int))) (pu_move rfl) ?_
  refine AtL.val hf_addB (bkn _) rfl (v:=.int .u64 ((((0 + 1):Nat):Int))) (pu_shr (r:=(((0 + 1):Nat):Int)) rfl rfl (by decide) (shr32 (0 + 1) 0 (by omega))) ?_
  refine AtL.val hf_addB (bkn _) rfl (v:=.int .i32 ((((0 + 1):Nat):Int))) (pu_convert (r:=(((0 + 1):Nat):Int)) rfl Try.underlying84 Try.underlying21 (i32_wrap (0 + 1) (by omega))) ?_
  refine AtL.val hf_addB (bkn _) rfl (v:=.int .i32 ((((0 + 1):Nat):Int))) (pu_assign rfl) ?_
  refine AtL.nil hf_addB ?_
  refine At.seq hf_addB ?_
  refine At.region hf_addB ?_
  refine AtL.val hf_addB (bkn _) rfl (v:=.int .u64 ((((0 + 1) * 4294967296 + 0:Nat):Int))) (pu_move rfl) ?_
  refine AtL.val hf_addB (bkn _) rfl (v:=.int .u64 0) (pu_and (r:=0) rfl rfl (lowAll (0 + 1) 0 (by omega) (by omega))) ?_
  refine AtL.val hf_addB (bkn _) rfl (v:=.int .u32 0) (pu_convert (r:=0) rfl Try.underlying84 Try.underlying87 (by decide)) ?_
  refine AtL.val hf_addB (bkn _) rfl (v:=.int .u32 0) (pu_assign rfl) ?_
  refine AtL.nil hf_addB ?_
  refine At.seq hf_addB ?_
  refine At.seq hf_addB ?_
  refine At.region hf_addB ?_
  refine AtL.val hf_addB (bkn _) rfl (v:=.bool true) (pu_move rfl) ?_
  refine AtL.valG hf_addB (bkn _) rfl rfl (v:=.int .i64 1) (pu_move rfl) ?_
  refine AtL.valG hf_addB (bkn _) rfl rfl (v:=.bool true) (pu_gtrB (r:=true) rfl rfl (by decide)) ?_
  refine AtL.val hf_addB (bkn _) rfl (v:=.bool true) (pu_pickT rfl rfl) ?_
  refine AtL.val hf_addB (bkn _) rfl (v:=.bool true) (pu_move rfl) ?_
  refine AtL.valG hf_addB (bkn _) rfl rfl (v:=.int .i32 ((((0 + 1):Nat):Int))) (pu_move rfl) ?_
  refine AtL.valG hf_addB (bkn _) rfl rfl (v:=.int .i64 1) (pu_move rfl) ?_
  refine AtL.valG hf_addB (bkn _) rfl rfl (v:=.int .i32 1) (pu_convert (r:=1) rfl Try.underlying3 Try.underlying21 (by decide)) ?_
  refine AtL.valG hf_addB (bkn _) rfl rfl (v:=.bool true) (pu_eqlB (r:=true) rfl rfl (decide_eq_true (by omega))) ?_
  refine AtL.val hf_addB (bkn _) rfl (v:=.bool true) (pu_pickT rfl rfl) ?_
  refine AtL.nil hf_addB ?_
  refine At.condT hf_addB rfl ?_
  refine At.region hf_addB ?_
  refine AtL.val hf_addB (bkn _) rfl (v:=.pointer (some ⟨gr.blk,gr.off,none⟩)) (pu_move rfl) ?_
  refine AtL.val hf_addB (bkn _) rfl (v:=.pointer (some ⟨gr.blk,gr.off,none⟩)) (pu_nilCheck rfl) ?_
  refine AtL.val hf_addB (bkn _) rfl (v:=.pointer (some ⟨gr.blk,gr.off + 1,none⟩)) (pu_fieldR (s:=1) (gr.off) (gr.off + 1) rfl Try.underlying89 rfl sz87 (by decide) rfl) ?_
  refine AtL.toUnsafe sg_addB (bkn _) rfl rfl (.inr rfl) Try.underlying108 Try.underlying102 nz87 ?_
  refine AtL.markAt hf_addB (bkn _) .read (by simp) (.inr (.inl rfl)) rfl Try.func58 nm58 rfl rfl ex58 rfl ?_
  rw [deaf_other _ rfl]
  refine AtL.nil hf_addB ?_
  refine At.seq hf_addB ?_
  refine At.seq hf_addB ?_
  refine At.region hf_addB ?_
  refine AtL.val hf_addB (bkn _) rfl (v:=.int .i32 ((((0 + 1):Nat):Int))) (pu_move rfl) ?_
  refine AtL.val hf_addB (bkn _) rfl (v:=.bool false) (pu_lssB (r:=false) rfl rfl (decide_eq_false (by omega))) ?_
  refine AtL.nil hf_addB ?_
  refine At.condF hf_addB rfl ?_
  refine At.skip hf_addB ?_
  refine At.seq hf_addB ?_
  refine At.seq hf_addB ?_
  refine At.region hf_addB ?_
  refine AtL.val hf_addB (bkn _) rfl (v:=.int .u32 0) (pu_move rfl) ?_
  refine AtL.val hf_addB (bkn _) rfl (v:=.bool false) (pu_neqB (r:=false) rfl rfl (by decide)) ?_
  refine AtL.val hf_addB (bkn _) rfl (v:=.bool false) (pu_move rfl) ?_
  refine AtL.off hf_addB rfl rfl ?_
  refine AtL.off hf_addB rfl rfl ?_
  refine AtL.val hf_addB (bkn _) rfl (v:=.bool false) (pu_pickF rfl rfl) ?_
  refine AtL.val hf_addB (bkn _) rfl (v:=.bool false) (pu_move rfl) ?_
  refine AtL.off hf_addB rfl rfl ?_
  refine AtL.off hf_addB rfl rfl ?_
  refine AtL.off hf_addB rfl rfl ?_
  refine AtL.off hf_addB rfl rfl ?_
  refine AtL.val hf_addB (bkn _) rfl (v:=.bool false) (pu_pickF rfl rfl) ?_
  refine AtL.nil hf_addB ?_
  refine At.condF hf_addB rfl ?_
  refine At.skip hf_addB ?_
  refine At.seq hf_addB ?_
  refine At.seq hf_addB ?_
  refine At.region hf_addB ?_
  refine AtL.val hf_addB (bkn _) rfl (v:=.int .i32 ((((0 + 1):Nat):Int))) (pu_move rfl) ?_
  refine AtL.val hf_addB (bkn _) rfl (v:=.bool true) (pu_gtrB (r:=true) rfl rfl (decide_eq_true (by omega))) ?_
  refine AtL.val hf_addB (bkn _) rfl (v:=.bool true) (pu_move rfl) ?_
  refine AtL.off hf_addB rfl rfl ?_
  refine AtL.off hf_addB rfl rfl ?_
  refine AtL.val hf_addB (bkn _) rfl (v:=.bool true) (pu_pickT rfl rfl) ?_
  refine AtL.nil hf_addB ?_
  refine At.condT hf_addB rfl ?_
  refine At.ret hf_addB (fun _=>?_)
  refine AtR.mark hf_addB .enable (by simp) (.inl rfl) Try.func52 nm52 rfl rfl ex52 ?_
  simp only [deaf_en]
  refine AtR.leaveK hf_addB rfl Try.func44 rfl ?_
  exact addB_end hK
 ·refine AtL.val hf_addB (bkn _) rfl (v:=.int .u64 ((((v + 1) * 4294967296 + 0:Nat):Int))) (pu_assign rfl) ?_
  refine AtL.nil hf_addB ?_
  refine At.ret hf_addB (fun _=>?_)
  refine AtR.leave1 hf_addB hb1 rfl Try.func57 rfl (.int .u64 ((((v + 1) * 4294967296 + 0:Nat):Int))) rfl ?_
  refine AtL.val hf_addB (bkn _) rfl (v:=.int .u64 ((((v + 1) * 4294967296 + 0:Nat):Int))) (pu_assign rfl) ?_
  refine AtL.nil hf_addB ?_
  refine At.seq hf_addB ?_
  refine At.seq hf_addB ?_
  refine At.region hf_addB ?_
  refine AtL.val hf_addB (bkn _) rfl (v:=.int .u64 ((((v + 1) * 4294967296 + 0:Nat):Int))) (pu_move rfl) ?_
  refine AtL.val hf_addB (bkn _) rfl (v:=.int .u64 0) (pu_and (r:=0) rfl rfl (low31 (v + 1) 0 (by omega) (by omega))) ?_
  refine AtL.val hf_addB (bkn _) rfl (v:=.bool false) (pu_neqB (r:=false) rfl rfl (by decide)) ?_
  refine AtL.val hf_addB (bkn _) rfl (v:=.bool false) (pu_move rfl) ?_
  refine AtL.off hf_addB rfl rfl ?_
  refine AtL.off hf_addB rfl rfl ?_
  refine AtL.val hf_addB (bkn _) rfl (v:=.bool false) (pu_pickF rfl rfl) ?_
  refine AtL.nil hf_addB ?_
  refine At.condF hf_addB rfl ?_
  refine At.skip hf_addB ?_
  refine At.seq hf_addB ?_
  refine At.region hf_addB ?_
  refine AtL.val hf_addB (bkn _) rfl (v:=.int .u64 ((((v + 1) * 4294967296 + 0:Nat):Int))) (pu_move rfl) ?_
  refine AtL.val hf_addB (bkn _) rfl (v:=.int .u64 ((((v + 1):Nat):Int))) (pu_shr (r:=(((v + 1):Nat):Int)) rfl rfl (by decide) (shr32 (v + 1) 0 (by omega))) ?_
  refine AtL.val hf_addB (bkn _) rfl (v:=.int .i32 ((((v + 1):Nat):Int))) (pu_convert (r:=(((v + 1):Nat):Int)) rfl Try.underlying84 Try.underlying21 (i32_wrap (v + 1) (by omega))) ?_
  refine AtL.val hf_addB (bkn _) rfl (v:=.int .i32 ((((v + 1):Nat):Int))) (pu_assign rfl) ?_
  refine AtL.nil hf_addB ?_
  refine At.seq hf_addB ?_
  refine At.region hf_addB ?_
  refine AtL.val hf_addB (bkn _) rfl (v:=.int .u64 ((((v + 1) * 4294967296 + 0:Nat):Int))) (pu_move rfl) ?_
  refine AtL.val hf_addB (bkn _) rfl (v:=.int .u64 0) (pu_and (r:=0) rfl rfl (lowAll (v + 1) 0 (by omega) (by omega))) ?_
  refine AtL.val hf_addB (bkn _) rfl (v:=.int .u32 0) (pu_convert (r:=0) rfl Try.underlying84 Try.underlying87 (by decide)) ?_
  refine AtL.val hf_addB (bkn _) rfl (v:=.int .u32 0) (pu_assign rfl) ?_
  refine AtL.nil hf_addB ?_
  refine At.seq hf_addB ?_
  refine At.seq hf_addB ?_
  refine At.region hf_addB ?_
  refine AtL.val hf_addB (bkn _) rfl (v:=.bool true) (pu_move rfl) ?_
  refine AtL.valG hf_addB (bkn _) rfl rfl (v:=.int .i64 1) (pu_move rfl) ?_
  refine AtL.valG hf_addB (bkn _) rfl rfl (v:=.bool true) (pu_gtrB (r:=true) rfl rfl (by decide)) ?_
  refine AtL.val hf_addB (bkn _) rfl (v:=.bool true) (pu_pickT rfl rfl) ?_
  refine AtL.val hf_addB (bkn _) rfl (v:=.bool true) (pu_move rfl) ?_
  refine AtL.valG hf_addB (bkn _) rfl rfl (v:=.int .i32 ((((v + 1):Nat):Int))) (pu_move rfl) ?_
  refine AtL.valG hf_addB (bkn _) rfl rfl (v:=.int .i64 1) (pu_move rfl) ?_
  refine AtL.valG hf_addB (bkn _) rfl rfl (v:=.int .i32 1) (pu_convert (r:=1) rfl Try.underlying3 Try.underlying21 (by decide)) ?_
  refine AtL.valG hf_addB (bkn _) rfl rfl (v:=.bool false) (pu_eqlB (r:=false) rfl rfl (decide_eq_false (by omega))) ?_
  refine AtL.val hf_addB (bkn _) rfl (v:=.bool false) (pu_pickT rfl rfl) ?_
  refine AtL.nil hf_addB ?_
  refine At.condF hf_addB rfl ?_
  refine At.skip hf_addB ?_
  refine At.seq hf_addB ?_
  refine At.seq hf_addB ?_
  refine At.region hf_addB ?_
  refine AtL.val hf_addB (bkn _) rfl (v:=.int .i32 ((((v + 1):Nat):Int))) (pu_move rfl) ?_
  refine AtL.val hf_addB (bkn _) rfl (v:=.bool false) (pu_lssB (r:=false) rfl rfl (decide_eq_false (by omega))) ?_
  refine AtL.nil hf_addB ?_
  refine At.condF hf_addB rfl ?_
  refine At.skip hf_addB ?_
  refine At.seq hf_addB ?_
  refine At.seq hf_addB ?_
  refine At.region hf_addB ?_
  refine AtL.val hf_addB (bkn _) rfl (v:=.int .u32 0) (pu_move rfl) ?_
  refine AtL.val hf_addB (bkn _) rfl (v:=.bool false) (pu_neqB (r:=false) rfl rfl (by decide)) ?_
  refine AtL.val hf_addB (bkn _) rfl (v:=.bool false) (pu_move rfl) ?_
  refine AtL.off hf_addB rfl rfl ?_
  refine AtL.off hf_addB rfl rfl ?_
  refine AtL.val hf_addB (bkn _) rfl (v:=.bool false) (pu_pickF rfl rfl) ?_
  refine AtL.val hf_addB (bkn _) rfl (v:=.bool false) (pu_move rfl) ?_
  refine AtL.off hf_addB rfl rfl ?_
  refine AtL.off hf_addB rfl rfl ?_
  refine AtL.off hf_addB rfl rfl ?_
  refine AtL.off hf_addB rfl rfl ?_
  refine AtL.val hf_addB (bkn _) rfl (v:=.bool false) (pu_pickF rfl rfl) ?_
  refine AtL.nil hf_addB ?_
  refine At.condF hf_addB rfl ?_
  refine At.skip hf_addB ?_
  refine At.seq hf_addB ?_
  refine At.seq hf_addB ?_
  refine At.region hf_addB ?_
  refine AtL.val hf_addB (bkn _) rfl (v:=.int .i32 ((((v + 1):Nat):Int))) (pu_move rfl) ?_
  refine AtL.val hf_addB (bkn _) rfl (v:=.bool true) (pu_gtrB (r:=true) rfl rfl (decide_eq_true (by omega))) ?_
  refine AtL.val hf_addB (bkn _) rfl (v:=.bool true) (pu_move rfl) ?_
  refine AtL.off hf_addB rfl rfl ?_
  refine AtL.off hf_addB rfl rfl ?_
  refine AtL.val hf_addB (bkn _) rfl (v:=.bool true) (pu_pickT rfl rfl) ?_
  refine AtL.nil hf_addB ?_
  refine At.condT hf_addB rfl ?_
  refine At.ret hf_addB (fun _=>?_)
  refine AtR.mark hf_addB .enable (by simp) (.inl rfl) Try.func52 nm52 rfl rfl ex52 ?_
  simp only [deaf_en]
  refine AtR.leaveK hf_addB rfl Try.func44 rfl ?_
  exact addB_end hK
noncomputable def wloop:Code:=match Try.f46.body with | some (.seq _ (.block _ (.loop c)))=>c | _=>.skip
set_option maxRecDepth 20000 in
theorem wait_head (gr:Grp) (K:Goroutine->Prop) {c:Frame} {cs:List Frame} (hK:K (Conc.G (c.finish (.tuple #[])) cs)):∀ (V:Nat),V < 2147483648->∀ (e:Env),At (YWH Try.prog gr K none V) (500 * V + 500) 84 (base 46) (c :: cs) [] 1 (upd e 0 (.pointer (some ⟨gr.blk,gr.off,none⟩))) [.code wloop,.inLoop wloop,.inBlock 0]:=by
 intro V
 induction V using Nat.strongRecOn with
 | _ V ih =>
 intro hV e
 refine At.block hf_wh ?_
 refine At.seq hf_wh ?_
 refine At.region hf_wh ?_
 refine AtL.val hf_wh (bkn _) rfl (v:=.pointer (some ⟨gr.blk,gr.off,none⟩)) (pu_move rfl) ?_
 refine AtL.val hf_wh (bkn _) rfl (v:=.pointer (some ⟨gr.blk,gr.off,none⟩)) (pu_nilCheck rfl) ?_
 refine AtL.val hf_wh (bkn _) rfl (v:=.pointer (some ⟨gr.blk,gr.off,none⟩)) (pu_fieldR (s:=1) (gr.off) (gr.off) rfl Try.underlying89 rfl sz86 (by decide) rfl) ?_
 refine AtL.call hf_wh (bkn _) [.pointer (some ⟨gr.blk,gr.off,none⟩)] 7 rfl Try.func59 nm59 rfl rfl rfl (fun cs1 hb1=>?_)
 refine At.seq hf_wh ?_
 refine At.region hf_wh ?_
 refine AtL.val hf_wh (bkn _) rfl (v:=.int .u64 0) (pu_assign rfl) ?_
 refine AtL.nil hf_wh ?_
 refine At.seq hf_wh ?_
 refine At.region hf_wh ?_
 refine AtL.val hf_wh (bkn _) rfl (v:=.pointer (some ⟨gr.blk,gr.off,none⟩)) (pu_move rfl) ?_
 refine AtL.val hf_wh (bkn _) rfl (v:=.pointer (some ⟨gr.blk,gr.off,none⟩)) (pu_nilCheck rfl) ?_
 refine AtL.val hf_wh (bkn _) rfl (v:=.pointer (some ⟨gr.blk,gr.off,none⟩)) (pu_fieldR (s:=1) (gr.off) (gr.off) rfl Try.underlying86 rfl sz84 (by decide) rfl) ?_
 refine AtL.whLoad (bkn _) rfl Try.func72 nm72 rfl rfl ex72 rfl ?_ (fun v hv hv0=>?_)
 ·refine AtL.val hf_we (bkn _) rfl (v:=.int .u64 0) (pu_assign rfl) ?_
  refine AtL.nil hf_we ?_
  refine At.ret hf_we (fun _=>?_)
  refine AtR.leave1 hf_we hb1 rfl Try.func59 rfl (.int .u64 0) rfl ?_
  refine AtL.val hf_we (bkn _) rfl (v:=.int .u64 0) (pu_assign rfl) ?_
  refine AtL.nil hf_we ?_
  refine At.seq hf_we ?_
  refine At.region hf_we ?_
  refine AtL.val hf_we (bkn _) rfl (v:=.int .u64 0) (pu_move rfl) ?_
  refine AtL.val hf_we (bkn _) rfl (v:=.int .u64 0) (pu_shr (r:=0) rfl rfl (by decide) (by decide)) ?_
  refine AtL.val hf_we (bkn _) rfl (v:=.int .i32 0) (pu_convert (r:=0) rfl Try.underlying84 Try.underlying21 (by decide)) ?_
  refine AtL.val hf_we (bkn _) rfl (v:=.int .i32 0) (pu_assign rfl) ?_
  refine AtL.nil hf_we ?_
  refine At.seq hf_we ?_
  refine At.region hf_we ?_
  refine AtL.val hf_we (bkn _) rfl (v:=.int .u64 0) (pu_move rfl) ?_
  refine AtL.val hf_we (bkn _) rfl (v:=.int .u64 0) (pu_and (r:=0) rfl rfl (by decide)) ?_
  refine AtL.val hf_we (bkn _) rfl (v:=.int .u32 0) (pu_convert (r:=0) rfl Try.underlying84 Try.underlying87 (by decide)) ?_
  refine AtL.val hf_we (bkn _) rfl (v:=.int .u32 0) (pu_assign rfl) ?_
  refine AtL.nil hf_we ?_
  refine At.seq hf_we ?_
  refine At.seq hf_we ?_
  refine At.region hf_we ?_
  refine AtL.val hf_we (bkn _) rfl (v:=.int .i32 0) (pu_move rfl) ?_
  refine AtL.val hf_we (bkn _) rfl (v:=.bool true) (pu_eqlB (r:=true) rfl rfl (by decide)) ?_
  refine AtL.nil hf_we ?_
  refine At.condT hf_we rfl ?_
  refine At.seq hf_we ?_
  refine At.condT hf_we rfl ?_
  refine At.seq hf_we ?_
  refine At.region hf_we ?_
  refine AtL.mark0 hf_we (bkn _) .enable (by simp) (.inl rfl) rfl Try.func52 nm52 rfl rfl ex52 ?_
  simp only [deaf_en]
  refine AtL.nil hf_we ?_
  refine At.region hf_we ?_
  refine AtL.val hf_we (bkn _) rfl (v:=.pointer (some ⟨gr.blk,gr.off,none⟩)) (pu_move rfl) ?_
  refine AtL.toUnsafe sg_we (bkn _) rfl rfl (.inl rfl) Try.underlying100 Try.underlying102 nz89 ?_
  refine AtL.markAt hf_we (bkn _) .acquire (by simp) (.inl rfl) rfl Try.func65 nm65 rfl rfl ex65 rfl ?_
  rw [deaf_other _ rfl]
  refine AtL.nil hf_we ?_
  refine At.seq hf_we ?_
  refine At.seq hf_we ?_
  refine At.region hf_we ?_
  refine AtL.val hf_we (bkn _) rfl (v:=.int .u32 0) (pu_move rfl) ?_
  refine AtL.val hf_we (bkn _) rfl (v:=.bool true) (pu_eqlB (r:=true) rfl rfl (by decide)) ?_
  refine AtL.val hf_we (bkn _) rfl (v:=.bool true) (pu_move rfl) ?_
  refine AtL.valG hf_we (bkn _) rfl rfl (v:=.int .u64 0) (pu_move rfl) ?_
  refine AtL.valG hf_we (bkn _) rfl rfl (v:=.int .u64 0) (pu_and (r:=0) rfl rfl (by decide)) ?_
  refine AtL.valG hf_we (bkn _) rfl rfl (v:=.bool false) (pu_neqB (r:=false) rfl rfl (by decide)) ?_
  refine AtL.val hf_we (bkn _) rfl (v:=.bool false) (pu_pickT rfl rfl) ?_
  refine AtL.val hf_we (bkn _) rfl (v:=.bool false) (pu_move rfl) ?_
  refine AtL.off hf_we rfl rfl ?_
  refine AtL.off hf_we rfl rfl ?_
  refine AtL.val hf_we (bkn _) rfl (v:=.bool false) (pu_pickF rfl rfl) ?_
  refine AtL.nil hf_we ?_
  refine At.condF hf_we rfl ?_
  refine At.skip hf_we ?_
  refine At.ret hf_we (fun _=>?_)
  refine AtR.leaveK hf_we rfl Try.func46 rfl ?_
  exact we_end hK
 ·refine AtL.val hf_wh (bkn _) rfl (v:=.int .u64 (((v * 4294967296 + 0:Nat):Int))) (pu_assign rfl) ?_
  refine AtL.nil hf_wh ?_
  refine At.ret hf_wh (fun _=>?_)
  refine AtR.leave1 hf_wh hb1 rfl Try.func59 rfl (.int .u64 (((v * 4294967296 + 0:Nat):Int))) rfl ?_
  refine AtL.val hf_wh (bkn _) rfl (v:=.int .u64 (((v * 4294967296 + 0:Nat):Int))) (pu_assign rfl) ?_
  refine AtL.nil hf_wh ?_
  refine At.seq hf_wh ?_
  refine At.region hf_wh ?_
  refine AtL.val hf_wh (bkn _) rfl (v:=.int .u64 (((v * 4294967296 + 0:Nat):Int))) (pu_move rfl) ?_
  refine AtL.val hf_wh (bkn _) rfl (v:=.int .u64 (((v:Nat):Int))) (pu_shr (r:=((v:Nat):Int)) rfl rfl (by decide) (shr32 v 0 (by omega))) ?_
  refine AtL.val hf_wh (bkn _) rfl (v:=.int .i32 (((v:Nat):Int))) (pu_convert (r:=((v:Nat):Int)) rfl Try.underlying84 Try.underlying21 (i32_wrap v (by omega))) ?_
  refine AtL.val hf_wh (bkn _) rfl (v:=.int .i32 (((v:Nat):Int))) (pu_assign rfl) ?_
  refine AtL.nil hf_wh ?_
  refine At.seq hf_wh ?_
  refine At.region hf_wh ?_
  refine AtL.val hf_wh (bkn _) rfl (v:=.int .u64 (((v * 4294967296 + 0:Nat):Int))) (pu_move rfl) ?_
  refine AtL.val hf_wh (bkn _) rfl (v:=.int .u64 0) (pu_and (r:=0) rfl rfl (lowAll v 0 (by omega) (by omega))) ?_
  refine AtL.val hf_wh (bkn _) rfl (v:=.int .u32 0) (pu_convert (r:=0) rfl Try.underlying84 Try.underlying87 (by decide)) ?_
  refine AtL.val hf_wh (bkn _) rfl (v:=.int .u32 0) (pu_assign rfl) ?_
  refine AtL.nil hf_wh ?_
  refine At.seq hf_wh ?_
  refine At.seq hf_wh ?_
  refine At.region hf_wh ?_
  refine AtL.val hf_wh (bkn _) rfl (v:=.int .i32 (((v:Nat):Int))) (pu_move rfl) ?_
  refine AtL.val hf_wh (bkn _) rfl (v:=.bool false) (pu_eqlB (r:=false) rfl rfl (decide_eq_false (by omega))) ?_
  refine AtL.nil hf_wh ?_
  refine At.condF hf_wh rfl ?_
  refine At.skip hf_wh ?_
  refine At.seq hf_wh ?_
  refine At.region hf_wh ?_
  refine AtL.val hf_wh (bkn _) rfl (v:=.pointer (some ⟨gr.blk,gr.off,none⟩)) (pu_move rfl) ?_
  refine AtL.val hf_wh (bkn _) rfl (v:=.pointer (some ⟨gr.blk,gr.off,none⟩)) (pu_nilCheck rfl) ?_
  refine AtL.val hf_wh (bkn _) rfl (v:=.pointer (some ⟨gr.blk,gr.off,none⟩)) (pu_fieldR (s:=1) (gr.off) (gr.off) rfl Try.underlying89 rfl sz86 (by decide) rfl) ?_
  refine AtL.val hf_wh (bkn _) rfl (v:=.int .u64 (((v * 4294967296 + 0:Nat):Int))) (pu_move rfl) ?_
  refine AtL.val hf_wh (bkn _) rfl (v:=.int .u64 (((v * 4294967296 + 0:Nat):Int))) (pu_move rfl) ?_
  refine AtL.val hf_wh (bkn _) rfl (v:=.int .u64 (((v * 4294967296 + 1:Nat):Int))) (pu_add (r:=((v * 4294967296 + 1:Nat):Int)) rfl rfl (add1 v (by omega))) ?_
  refine AtL.call hf_wh (bkn _) [.pointer (some ⟨gr.blk,gr.off,none⟩),.int .u64 (((v * 4294967296 + 0:Nat):Int)),.int .u64 (((v * 4294967296 + 1:Nat):Int))] 13 rfl Try.func67 nm67 rfl rfl rfl (fun cs2 hb2=>?_)
  refine At.seq hf_wh ?_
  refine At.region hf_wh ?_
  refine AtL.val hf_wh (bkn _) rfl (v:=.bool false) (pu_assign rfl) ?_
  refine AtL.nil hf_wh ?_
  refine At.seq hf_wh ?_
  refine At.region hf_wh ?_
  refine AtL.val hf_wh (bkn _) rfl (v:=.pointer (some ⟨gr.blk,gr.off,none⟩)) (pu_move rfl) ?_
  refine AtL.val hf_wh (bkn _) rfl (v:=.pointer (some ⟨gr.blk,gr.off,none⟩)) (pu_nilCheck rfl) ?_
  refine AtL.val hf_wh (bkn _) rfl (v:=.pointer (some ⟨gr.blk,gr.off,none⟩)) (pu_fieldR (s:=1) (gr.off) (gr.off) rfl Try.underlying86 rfl sz84 (by decide) rfl) ?_
  refine AtL.val hf_wh (bkn _) rfl (v:=.int .u64 (((v * 4294967296 + 0:Nat):Int))) (pu_move rfl) ?_
  refine AtL.val hf_wh (bkn _) rfl (v:=.int .u64 (((v * 4294967296 + 1:Nat):Int))) (pu_move rfl) ?_
  refine AtL.whCas (vs:=v) (bkn _) rfl Try.func74 nm74 rfl rfl ex74 rfl rfl rfl ?_ (fun v2 hv2=>?_)
  ·refine AtL.val hf_ws (bkn _) rfl (v:=.bool true) (pu_assign rfl) ?_
   refine AtL.nil hf_ws ?_
   refine At.ret hf_ws (fun _=>?_)
   refine AtR.leave1 hf_ws hb2 rfl Try.func67 rfl (.bool true) rfl ?_
   refine AtL.nil hf_ws ?_
   refine At.condT hf_ws rfl ?_
   refine At.seq hf_ws ?_
   refine At.seq hf_ws ?_
   refine At.region hf_ws ?_
   refine AtL.val hf_ws (bkn _) rfl (v:=.bool true) (pu_move rfl) ?_
   refine AtL.valG hf_ws (bkn _) rfl rfl (v:=.int .u32 0) (pu_move rfl) ?_
   refine AtL.valG hf_ws (bkn _) rfl rfl (v:=.bool true) (pu_eqlB (r:=true) rfl rfl (by decide)) ?_
   refine AtL.val hf_ws (bkn _) rfl (v:=.bool true) (pu_pickT rfl rfl) ?_
   refine AtL.nil hf_ws ?_
   refine At.condT hf_ws rfl ?_
   refine At.region hf_ws ?_
   refine AtL.val hf_ws (bkn _) rfl (v:=.pointer (some ⟨gr.blk,gr.off,none⟩)) (pu_move rfl) ?_
   refine AtL.val hf_ws (bkn _) rfl (v:=.pointer (some ⟨gr.blk,gr.off,none⟩)) (pu_nilCheck rfl) ?_
   refine AtL.val hf_ws (bkn _) rfl (v:=.pointer (some ⟨gr.blk,gr.off + 1,none⟩)) (pu_fieldR (s:=1) (gr.off) (gr.off + 1) rfl Try.underlying89 rfl sz87 (by decide) rfl) ?_
   refine AtL.toUnsafe sg_ws (bkn _) rfl rfl (.inr rfl) Try.underlying108 Try.underlying102 nz87 ?_
   refine AtL.markAt hf_ws (bkn _) .write (by simp) (.inr (.inr rfl)) rfl Try.func68 nm68 rfl rfl ex68 rfl ?_
   rw [deaf_other _ rfl]
   refine AtL.nil hf_ws ?_
   refine At.seq hf_ws ?_
   refine At.region hf_ws ?_
   refine AtL.val hf_ws (bkn _) rfl (v:=.bool false) (pu_assign rfl) ?_
   refine AtL.nil hf_ws ?_
   refine At.seq hf_ws ?_
   refine At.seq hf_ws ?_
   refine At.region hf_ws ?_
   refine AtL.val hf_ws (bkn _) rfl (v:=.int .u64 (((v * 4294967296 + 0:Nat):Int))) (pu_move rfl) ?_
   refine AtL.val hf_ws (bkn _) rfl (v:=.int .u64 0) (pu_and (r:=0) rfl rfl (low31 v 0 (by omega) (by omega))) ?_
   refine AtL.val hf_ws (bkn _) rfl (v:=.bool false) (pu_neqB (r:=false) rfl rfl (by decide)) ?_
   refine AtL.val hf_ws (bkn _) rfl (v:=.bool false) (pu_move rfl) ?_
   refine AtL.off hf_ws rfl rfl ?_
   refine AtL.val hf_ws (bkn _) rfl (v:=.bool false) (pu_pickF rfl rfl) ?_
   refine AtL.nil hf_ws ?_
   refine At.condF hf_ws rfl ?_
   refine At.skip hf_ws ?_
   refine At.seq hf_ws ?_
   refine At.region hf_ws ?_
   refine AtL.val hf_ws (bkn _) rfl (v:=.pointer (some ⟨gr.blk,gr.off,none⟩)) (pu_move rfl) ?_
   refine AtL.val hf_ws (bkn _) rfl (v:=.pointer (some ⟨gr.blk,gr.off,none⟩)) (pu_nilCheck rfl) ?_
   refine AtL.val hf_ws (bkn _) rfl (v:=.pointer (some ⟨gr.blk,gr.off + 1,none⟩)) (pu_fieldR (s:=1) (gr.off) (gr.off + 1) rfl Try.underlying89 rfl sz87 (by decide) rfl) ?_
   refine AtL.val hf_ws (bkn _) rfl (v:=.bool false) (pu_move rfl) ?_
   refine AtL.wsSem (bkn _) rfl Try.func69 nm69 rfl rfl ex69 rfl ?_
   refine AtL.nil hf_we ?_
   refine At.seq hf_we ?_
   refine At.region hf_we ?_
   refine AtL.val hf_we (bkn _) rfl (v:=.pointer (some ⟨gr.blk,gr.off,none⟩)) (pu_move rfl) ?_
   refine AtL.val hf_we (bkn _) rfl (v:=.pointer (some ⟨gr.blk,gr.off,none⟩)) (pu_nilCheck rfl) ?_
   refine AtL.val hf_we (bkn _) rfl (v:=.pointer (some ⟨gr.blk,gr.off,none⟩)) (pu_fieldR (s:=1) (gr.off) (gr.off) rfl Try.underlying89 rfl sz86 (by decide) rfl) ?_
   refine AtL.call hf_we (bkn _) [.pointer (some ⟨gr.blk,gr.off,none⟩)] 7 rfl Try.func59 nm59 rfl rfl rfl (fun cs3 hb3=>?_)
   refine At.seq hf_we ?_
   refine At.region hf_we ?_
   refine AtL.val hf_we (bkn _) rfl (v:=.int .u64 0) (pu_assign rfl) ?_
   refine AtL.nil hf_we ?_
   refine At.seq hf_we ?_
   refine At.region hf_we ?_
   refine AtL.val hf_we (bkn _) rfl (v:=.pointer (some ⟨gr.blk,gr.off,none⟩)) (pu_move rfl) ?_
   refine AtL.val hf_we (bkn _) rfl (v:=.pointer (some ⟨gr.blk,gr.off,none⟩)) (pu_nilCheck rfl) ?_
   refine AtL.val hf_we (bkn _) rfl (v:=.pointer (some ⟨gr.blk,gr.off,none⟩)) (pu_fieldR (s:=1) (gr.off) (gr.off) rfl Try.underlying86 rfl sz84 (by decide) rfl) ?_
   refine AtL.weLoad (bkn _) rfl Try.func72 nm72 rfl rfl ex72 rfl ?_
   refine AtL.val hf_we (bkn _) rfl (v:=.int .u64 0) (pu_assign rfl) ?_
   refine AtL.nil hf_we ?_
   refine At.ret hf_we (fun _=>?_)
   refine AtR.leave1 hf_we hb3 rfl Try.func59 rfl (.int .u64 0) rfl ?_
   refine AtL.val hf_we (bkn _) rfl (v:=.bool false) (pu_neqB (r:=false) rfl rfl (by decide)) ?_
   refine AtL.val hf_we (bkn _) rfl (v:=.bool false) (pu_assign rfl) ?_
   refine AtL.nil hf_we ?_
   refine At.seq hf_we ?_
   refine At.condT hf_we rfl ?_
   refine At.seq hf_we ?_
   refine At.region hf_we ?_
   refine AtL.mark0 hf_we (bkn _) .enable (by simp) (.inl rfl) rfl Try.func52 nm52 rfl rfl ex52 ?_
   simp only [deaf_en]
   refine AtL.nil hf_we ?_
   refine At.region hf_we ?_
   refine AtL.val hf_we (bkn _) rfl (v:=.pointer (some ⟨gr.blk,gr.off,none⟩)) (pu_move rfl) ?_
   refine AtL.toUnsafe sg_we (bkn _) rfl rfl (.inl rfl) Try.underlying100 Try.underlying102 nz89 ?_
   refine AtL.markAt hf_we (bkn _) .acquire (by simp) (.inl rfl) rfl Try.func65 nm65 rfl rfl ex65 rfl ?_
   rw [deaf_other _ rfl]
   refine AtL.nil hf_we ?_
   refine At.seq hf_we ?_
   refine At.seq hf_we ?_
   refine At.region hf_we ?_
   refine AtL.val hf_we (bkn _) rfl (v:=.bool false) (pu_move rfl) ?_
   refine AtL.nil hf_we ?_
   refine At.condF hf_we rfl ?_
   refine At.skip hf_we ?_
   refine At.ret hf_we (fun _=>?_)
   refine AtR.leaveK hf_we rfl Try.func46 rfl ?_
   exact we_end hK
  ·refine AtL.val hf_wh (bkn _) rfl (v:=.bool false) (pu_assign rfl) ?_
   refine AtL.nil hf_wh ?_
   refine At.ret hf_wh (fun _=>?_)
   refine AtR.leave1 hf_wh hb2 rfl Try.func67 rfl (.bool false) rfl ?_
   refine AtL.nil hf_wh ?_
   refine At.condF hf_wh rfl ?_
   refine At.skip hf_wh ?_
   refine At.inBlock hf_wh ?_
   refine At.inLoop hf_wh ?_
   exact At.whMono (At.reenter (fun e=>ih v2 (by omega) (by omega) e) rfl) (by omega)
set_option maxRecDepth 20000 in
theorem wait_w (gr:Grp) (K:Goroutine->Prop) {c:Frame} {cs:List Frame} (hK:K (Conc.G (c.finish (.tuple #[])) cs)) (V:Nat) (hV:V < 2147483648):WH Try.prog gr K (500 * V + 510) none V 0 (Conc.G (Frame.enter Try.prog 46 #[.pointer (some ⟨gr.blk,gr.off,none⟩)] .normal) (c :: cs)):=by
 rw [enter_at _ Try.func46 rfl]
 refine (?_:At (YWH Try.prog gr K none V) (500 * V + 510) 84 (base 46) (c :: cs) [] 0 (Wg.argE #[.pointer (some ⟨gr.blk,gr.off,none⟩)]) [.code (Try.f46.body.getD .skip)]) _ (repD_args _ _ rfl)
 refine At.seq hf_wh ?_
 refine At.condT hf_wh rfl ?_
 refine At.region hf_wh ?_
 refine AtL.mark0 hf_wh (bkn _) .disable (by simp) (.inl rfl) rfl Try.func51 nm51 rfl rfl ex51 ?_
 simp only [deaf_dis]
 refine AtL.nil hf_wh ?_
 refine At.block hf_wh ?_
 refine At.loop hf_wh ?_
 exact At.whMono (At.reenter (fun e=>wait_head gr K hK V hV e) rfl) (by omega)
end Go.Proofs.Ytfmoeemolgjodaa
end
/- What a run holds in memory: its block, its clients, what is told. -/
section
namespace Go.Vy.Sc
open Go Go.Conc Go.Yc Go.RowKit Go.Proofs Go.Proofs.Ytfmoeemolgjodaa
open Go.Vc
structure CB where
 cb:Nat
 rc:Nat
 sp:Stp
 rf:Value
 df:Value
 picks:Nat
 wt:Bool
 st:Bool
def CB.cells (rb i:Nat) (c:CB):Array Value:=#[.int .i64 (i:Int),.pointer (some ⟨rb,0,none⟩),.chan (some c.rc),.int .i64 c.sp.kind,.int .i64 c.sp.obj,.int .i64 c.sp.num,c.rf,c.df,.int .i64 (c.picks:Int),.bool c.wt,.bool c.st]
def evC (x:Nat × Stp):List Value:=[.int .i64 (x.1:Int),.int .i64 x.2.kind,.int .i64 x.2.obj,.int .i64 x.2.num]
def ntC (x:Nat × Nat × Nte):List Value:=[.int .i64 (x.1:Int),.int .i64 (x.2.1:Int),.int .i64 x.2.2.kind,.string x.2.2.text]
def spC (s:Stp):List Value:=[.int .i64 s.kind,.int .i64 s.obj,.int .i64 s.num]
structure Rn where
 rb:Nat
 yb:Nat
 eb:Nat
 wb:Nat
 m:Nat
 ca:Option Addr
 cc:Nat
 cl:List CB
 ea:Option Addr
 ec:Nat
 evs:List (Nat × Stp)
 na:Option Addr
 nc:Nat
 nts:List (Nat × Nat × Nte)
 ends:List Int
 wts:List Stp
 stuck:Bool
 used:Nat
def Rn.cells (R:Rn):Array Value:=#[.slice R.ca R.cl.length R.cc,.slice R.ea R.evs.length R.ec,.slice R.na R.nts.length R.nc,.slice (some ⟨R.eb,0,none⟩) R.m R.m,.slice (some ⟨R.wb,0,none⟩) R.m R.m,.bool R.stuck,.int .i64 (R.used:Int),.chan (some R.yb)]
structure RunM (w:World) (Bs:Nat) (R:Rn):Prop where
 run:BlkF w R.rb R.cells 91 (7,8)
 cls:Own w Bs 50 1 R.ca R.cl.length R.cc (R.cl.map fun c=>.pointer (some ⟨c.cb,0,none⟩))
 evs:Own w Bs 45 4 R.ea R.evs.length R.ec (R.evs.flatMap evC)
 nts:Own w Bs 47 4 R.na R.nts.length R.nc (R.nts.flatMap ntC)
 ends:BlkF w R.eb (R.ends.map (Value.int .i64)).toArray 3 (0,0)
 wts:BlkF w R.wb (R.wts.flatMap spC).toArray 43 (0,0)
 lend:R.ends.length = R.m
 lwts:R.wts.length = R.m
 lcl:R.cl.length <= R.m
 blk:∀ (i:Nat) (c:CB),R.cl[i]? = some c->BlkF w c.cb (c.cells R.rb i) 76 (0,3)
def Rn.fp (R:Rn) (k:Nat):Prop:=k = R.rb\/k = R.eb\/k = R.wb\/(R.ca ≠ none/\k = ab R.ca)\/(R.ea ≠ none/\k = ab R.ea)\/(R.na ≠ none/\k = ab R.na)\/∃ (i:Nat) (c:CB),R.cl[i]? = some c/\k = c.cb
section
variable {w w':World} {Bs:Nat} {R R':Rn}
theorem RunM.congr (h:RunM w Bs R) (he:∀ k,R.fp k->w'.heap[k]? = w.heap[k]?):RunM w' Bs R :=
 ⟨(he _ (.inl rfl)).trans h.run,Own.congr h.cls fun ha=>he _ (.inr (.inr (.inr (.inl ⟨ha,rfl⟩)))),Own.congr h.evs fun ha=>he _ (.inr (.inr (.inr (.inr (.inl ⟨ha,rfl⟩))))),Own.congr h.nts fun ha=>he _ (.inr (.inr (.inr (.inr (.inr (.inl ⟨ha,rfl⟩)))))),
  (he _ (.inr (.inl rfl))).trans h.ends,(he _ (.inr (.inr (.inl rfl)))).trans h.wts,h.lend,h.lwts,h.lcl,fun i c hc=>(he _ (.inr (.inr (.inr (.inr (.inr (.inr ⟨i,c,hc,rfl⟩))))))).trans (h.blk i c hc)⟩
theorem RunM.lt (h:RunM w Bs R) {k:Nat} (hk:R.fp k):k < w.heap.size:=by
 rcases hk with rfl | rfl | rfl | ⟨ha,rfl⟩ | ⟨ha,rfl⟩ | ⟨ha,rfl⟩ | ⟨i,c,hc,rfl⟩
 ·exact h.run.lt
 ·exact h.ends.lt
 ·exact h.wts.lt
 ·exact h.cls.lt ha
 ·exact h.evs.lt ha
 ·exact h.nts.lt ha
 ·exact (h.blk i c hc).lt
theorem RunM.keep (h:RunM w Bs R) (hb:Below w.heap.size w w'):RunM w' Bs R:=h.congr fun k hk=>hb.block k (h.lt hk)
theorem apartF {b:Nat} {cs:Array Value} {T:TypeId} {f:Nat × Nat} {row:Option Nat} (h:BlkF w b cs T f) (hg:w.grownBy w' row) (hr:∀ r,row = some r->∃ cs' T' f',BlkF w r cs' T' f'/\T ≠ T'):BlkF w' b cs T f :=
 h.grown hg fun e=>by
  obtain ⟨cs',T',f',h',hT⟩:=hr b e.symm
  exact h.ne h' hT rfl
theorem apartO {E:TypeId} {s n c:Nat} {a:Option Addr} {xs:List Value} {row:Option Nat} (h:Own w Bs E s a n c xs) (hg:w.grownBy w' row) (hr:∀ r,row = some r->∃ cs' T' f',BlkF w r cs' T' f'/\E ≠ T'):Own w' Bs E s a n c xs :=
 Own.congr h fun ha=>by
  obtain ⟨cur,hB,_⟩:=h.row ha
  refine hg.block _ hB.lt fun e=>?_
  obtain ⟨cs',T',f',h',hT⟩:=hr (ab a) e.symm
  exact BlkF.ne (f:=(0,0)) hB h' hT rfl
theorem RunM.sole (h:RunM w Bs R) {i j:Nat} {c d:CB} (hc:R.cl[i]? = some c) (hd:R.cl[j]? = some d) (he:c.cb = d.cb):i = j:=by
 have h1:=h.blk i c hc
 have h2:=h.blk j d hd
 unfold BlkF at h1 h2
 rw [he,h2] at h1
 have:=congrArg (fun o=>match o with | some (Obj.cells c _ _)=>c[0]? | _=>none) h1
 simp [CB.cells] at this
 omega
theorem map_setC (l:List CB) (i:Nat) (c c':CB) (hc:l[i]? = some c) (he:c'.cb = c.cb):(l.set i c').map (fun c=>Value.pointer (some ⟨c.cb,0,none⟩)) = l.map fun c=>Value.pointer (some ⟨c.cb,0,none⟩):=by
 apply List.ext_getElem?
 intro j
 rw [List.getElem?_map,List.getElem?_map,List.getElem?_set]
 by_cases hj:i = j
 ·subst hj
  have hlt:=(List.getElem?_eq_some_iff.1 hc).1
  rw [List.getElem?_eq_getElem hlt] at hc
  obtain rfl:=Option.some.inj hc
  simp [hlt,he]
 ·simp [hj]
theorem Rn.fp_setC {i:Nat} {c c':CB} (hc:R.cl[i]? = some c) (he:c'.cb = c.cb) {k:Nat} (hk:Rn.fp { R with cl:=R.cl.set i c' } k):R.fp k:=by
 rcases hk with h | h | h | h | h | h | ⟨j,d,hd,rfl⟩
 ·exact .inl h
 ·exact .inr (.inl h)
 ·exact .inr (.inr (.inl h))
 ·exact .inr (.inr (.inr (.inl h)))
 ·exact .inr (.inr (.inr (.inr (.inl h))))
 ·exact .inr (.inr (.inr (.inr (.inr (.inl h)))))
 ·refine .inr (.inr (.inr (.inr (.inr (.inr ?_)))))
  have hd':(R.cl.set i c')[j]? = some d:=hd
  rw [List.getElem?_set] at hd'
  by_cases hj:i = j
  ·subst hj
   rw [if_pos rfl] at hd'
   split at hd'
   ·obtain rfl:=Option.some.inj hd'
    exact ⟨i,c,hc,he⟩
   ·cases hd'
  ·rw [if_neg hj] at hd'
   exact ⟨j,d,hd',rfl⟩
theorem RunM.setC (h:RunM w Bs R) {i:Nat} {c:CB} (c':CB) (hc:R.cl[i]? = some c) (he:c'.cb = c.cb):RunM (setBlkF w c.cb (c'.cells R.rb i) 76 (0,3)) Bs { R with cl:=R.cl.set i c' }:=by
 have hg:=setBlkF_grown w c.cb (c'.cells R.rb i) 76 (0,3)
 have hb:=h.blk i c hc
 have hr:∀ T:TypeId,T ≠ 76->∀ r,some c.cb = some r->∃ cs' T' f',BlkF w r cs' T' f'/\T ≠ T':=fun T hT r e=>by cases e; exact ⟨_,_,_,hb,hT⟩
 refine ⟨?_,?_,apartO h.evs hg (hr _ (by decide)),apartO h.nts hg (hr _ (by decide)),apartF h.ends hg (hr _ (by decide)),apartF h.wts hg (hr _ (by decide)),h.lend,h.lwts,by simpa using h.lcl,fun j d hd=>?_⟩
 ·have:=apartF h.run hg (hr _ (by decide))
  simpa [Rn.cells] using this
 ·have:=apartO h.cls hg (hr _ (by decide))
  show Own _ Bs _ 1 R.ca (R.cl.set i c').length R.cc ((R.cl.set i c').map _)
  rw [map_setC R.cl i c c' hc he,List.length_set]; exact this
 ·have hd':(R.cl.set i c')[j]? = some d:=hd
  rw [List.getElem?_set] at hd'
  by_cases hj:i = j
  ·subst hj
   rw [if_pos rfl] at hd'
   split at hd'
   ·obtain rfl:=Option.some.inj hd'
    rw [he]
    exact setBlkF_self hb _ _ _
   ·cases hd'
  ·rw [if_neg hj] at hd'
   exact (h.blk j d hd').other hg fun e=>hj (h.sole hd' hc e).symm
theorem RunM.setR (h:RunM w Bs R) (st:Bool) (us:Nat):RunM (setBlkF w R.rb (Rn.cells { R with stuck:=st,used:=us }) 91 (7,8)) Bs { R with stuck:=st,used:=us }:=by
 have hg:=setBlkF_grown w R.rb (Rn.cells { R with stuck:=st,used:=us }) 91 (7,8)
 have hr:∀ T:TypeId,T ≠ 91->∀ r,some R.rb = some r->∃ cs' T' f',BlkF w r cs' T' f'/\T ≠ T':=fun T hT r e=>by cases e; exact ⟨_,_,_,h.run,hT⟩
 exact ⟨setBlkF_self h.run _ _ _,apartO h.cls hg (hr _ (by decide)),apartO h.evs hg (hr _ (by decide)),apartO h.nts hg (hr _ (by decide)),apartF h.ends hg (hr _ (by decide)),apartF h.wts hg (hr _ (by decide)),h.lend,h.lwts,h.lcl,fun j d hd=>apartF (h.blk j d hd) hg (hr _ (by decide))⟩
theorem row_blk {E:TypeId} {s n c:Nat} {a:Option Addr} {xs:List Value} (h:Own w Bs E s a n c xs):∀ r,Value.ownBlock (.slice a n c) = some r->∃ cs' T' f',BlkF w r cs' T' f':=by
 intro r e
 cases a with
 | none=>cases e
 | some ad =>
  obtain ⟨cur,hB,_⟩:=h.row (by simp)
  cases e
  exact ⟨_,_,_,hB⟩
theorem row_ne {E T:TypeId} {s n c:Nat} {a:Option Addr} {xs:List Value} (h:Own w Bs E s a n c xs) (hT:T ≠ E):∀ r,Value.ownBlock (.slice a n c) = some r->∃ cs' T' f',BlkF w r cs' T' f'/\T ≠ T':=by
 intro r e
 cases a with
 | none=>cases e
 | some ad =>
  obtain ⟨cur,hB,_⟩:=h.row (by simp)
  cases e
  exact ⟨_,_,_,hB,hT⟩
theorem RunM.addEv (h:RunM w Bs R) {w1:World} {a':Option Addr} {c':Nat} (x:Nat × Stp) (hg:w.grownBy w1 (Value.ownBlock (.slice R.ea R.evs.length R.ec))) (hO:Own w1 Bs 45 4 a' (R.evs.length + 1) c' (R.evs.flatMap evC ++ evC x)) :
  RunM (setBlkF w1 R.rb (Rn.cells { R with ea:=a',ec:=c',evs:=R.evs ++ [x] }) 91 (7,8)) Bs { R with ea:=a',ec:=c',evs:=R.evs ++ [x] }:=by
 have hrun:=apartF h.run hg (row_ne h.evs (by decide))
 have hg2:=setBlkF_grown w1 R.rb (Rn.cells { R with ea:=a',ec:=c',evs:=R.evs ++ [x] }) 91 (7,8)
 have hr:∀ T:TypeId,T ≠ 91->∀ r,some R.rb = some r->∃ cs' T' f',BlkF w1 r cs' T' f'/\T ≠ T':=fun T hT r e=>by cases e; exact ⟨_,_,_,hrun,hT⟩
 refine ⟨setBlkF_self hrun _ _ _,apartO (apartO h.cls hg (row_ne h.evs (by decide))) hg2 (hr _ (by decide)),?_,apartO (apartO h.nts hg (row_ne h.evs (by decide))) hg2 (hr _ (by decide)),apartF (apartF h.ends hg (row_ne h.evs (by decide))) hg2 (hr _ (by decide)),apartF (apartF h.wts hg (row_ne h.evs (by decide))) hg2 (hr _ (by decide)),h.lend,h.lwts,h.lcl,fun j d hd=>apartF (apartF (h.blk j d hd) hg (row_ne h.evs (by decide))) hg2 (hr _ (by decide))⟩
 have:=apartO hO hg2 (hr _ (by decide))
 simpa using this
theorem RunM.addNt (h:RunM w Bs R) {w1:World} {a':Option Addr} {c':Nat} (x:Nat × Nat × Nte) (hg:w.grownBy w1 (Value.ownBlock (.slice R.na R.nts.length R.nc))) (hO:Own w1 Bs 47 4 a' (R.nts.length + 1) c' (R.nts.flatMap ntC ++ ntC x)) :
  RunM (setBlkF w1 R.rb (Rn.cells { R with na:=a',nc:=c',nts:=R.nts ++ [x] }) 91 (7,8)) Bs { R with na:=a',nc:=c',nts:=R.nts ++ [x] }:=by
 have hrun:=apartF h.run hg (row_ne h.nts (by decide))
 have hg2:=setBlkF_grown w1 R.rb (Rn.cells { R with na:=a',nc:=c',nts:=R.nts ++ [x] }) 91 (7,8)
 have hr:∀ T:TypeId,T ≠ 91->∀ r,some R.rb = some r->∃ cs' T' f',BlkF w1 r cs' T' f'/\T ≠ T':=fun T hT r e=>by cases e; exact ⟨_,_,_,hrun,hT⟩
 refine ⟨setBlkF_self hrun _ _ _,apartO (apartO h.cls hg (row_ne h.nts (by decide))) hg2 (hr _ (by decide)),apartO (apartO h.evs hg (row_ne h.nts (by decide))) hg2 (hr _ (by decide)),?_,apartF (apartF h.ends hg (row_ne h.nts (by decide))) hg2 (hr _ (by decide)),apartF (apartF h.wts hg (row_ne h.nts (by decide))) hg2 (hr _ (by decide)),h.lend,h.lwts,h.lcl,fun j d hd=>apartF (apartF (h.blk j d hd) hg (row_ne h.nts (by decide))) hg2 (hr _ (by decide))⟩
 have:=apartO hO hg2 (hr _ (by decide))
 simpa using this
theorem RunM.addCl (h:RunM w Bs R) {w1:World} {a':Option Addr} {c':Nat} (x:CB) (hx:BlkF w x.cb (x.cells R.rb R.cl.length) 76 (0,3)) (hm:R.cl.length < R.m) (hg:w.grownBy w1 (Value.ownBlock (.slice R.ca R.cl.length R.cc))) (hO:Own w1 Bs 50 1 a' (R.cl.length + 1) c' ((R.cl.map fun c=>.pointer (some ⟨c.cb,0,none⟩)) ++ [.pointer (some ⟨x.cb,0,none⟩)])) :
  RunM (setBlkF w1 R.rb (Rn.cells { R with ca:=a',cc:=c',cl:=R.cl ++ [x] }) 91 (7,8)) Bs { R with ca:=a',cc:=c',cl:=R.cl ++ [x] }:=by
 have hrun:=apartF h.run hg (row_ne h.cls (by decide))
 have hg2:=setBlkF_grown w1 R.rb (Rn.cells { R with ca:=a',cc:=c',cl:=R.cl ++ [x] }) 91 (7,8)
 have hr:∀ T:TypeId,T ≠ 91->∀ r,some R.rb = some r->∃ cs' T' f',BlkF w1 r cs' T' f'/\T ≠ T':=fun T hT r e=>by cases e; exact ⟨_,_,_,hrun,hT⟩
 refine ⟨setBlkF_self hrun _ _ _,?_,apartO (apartO h.evs hg (row_ne h.cls (by decide))) hg2 (hr _ (by decide)),apartO (apartO h.nts hg (row_ne h.cls (by decide))) hg2 (hr _ (by decide)),apartF (apartF h.ends hg (row_ne h.cls (by decide))) hg2 (hr _ (by decide)),apartF (apartF h.wts hg (row_ne h.cls (by decide))) hg2 (hr _ (by decide)),h.lend,h.lwts,by simp; omega,fun j d hd=>?_⟩
 ·have:=apartO hO hg2 (hr _ (by decide))
  simpa using this
 ·have hd':(R.cl ++ [x])[j]? = some d:=hd
  have hb:BlkF w d.cb (d.cells R.rb j) 76 (0,3):=by
   rw [List.getElem?_append] at hd'
   split at hd'
   ·exact h.blk j d hd'
   ·rename_i hlt
    have hj:j = R.cl.length:=by
     rcases Nat.lt_or_ge (j - R.cl.length) 1 with z | z
     ·omega
     ·rw [List.getElem?_eq_none (by simpa using z)] at hd'; cases hd'
    subst hj
    simp at hd'
    subst hd'
    exact hx
  exact apartF (apartF hb hg (row_ne h.cls (by decide))) hg2 (hr _ (by decide))
theorem RunM.setE (h:RunM w Bs R) (i:Nat) (v:Int):RunM (setBlkF w R.eb ((R.ends.set i v).map (Value.int .i64)).toArray 3 (0,0)) Bs { R with ends:=R.ends.set i v }:=by
 have hg:=setBlkF_grown w R.eb ((R.ends.set i v).map (Value.int .i64)).toArray 3 (0,0)
 have hr:∀ T:TypeId,T ≠ 3->∀ r,some R.eb = some r->∃ cs' T' f',BlkF w r cs' T' f'/\T ≠ T':=fun T hT r e=>by cases e; exact ⟨_,_,_,h.ends,hT⟩
 exact ⟨apartF h.run hg (hr _ (by decide)),apartO h.cls hg (hr _ (by decide)),apartO h.evs hg (hr _ (by decide)),apartO h.nts hg (hr _ (by decide)),setBlkF_self h.ends _ _ _,apartF h.wts hg (hr _ (by decide)),by simpa using h.lend,h.lwts,h.lcl,fun j d hd=>apartF (h.blk j d hd) hg (hr _ (by decide))⟩
theorem RunM.setW (h:RunM w Bs R) (i:Nat) (v:Stp):RunM (setBlkF w R.wb ((R.wts.set i v).flatMap spC).toArray 43 (0,0)) Bs { R with wts:=R.wts.set i v }:=by
 have hg:=setBlkF_grown w R.wb ((R.wts.set i v).flatMap spC).toArray 43 (0,0)
 have hr:∀ T:TypeId,T ≠ 43->∀ r,some R.wb = some r->∃ cs' T' f',BlkF w r cs' T' f'/\T ≠ T':=fun T hT r e=>by cases e; exact ⟨_,_,_,h.wts,hT⟩
 exact ⟨apartF h.run hg (hr _ (by decide)),apartO h.cls hg (hr _ (by decide)),apartO h.evs hg (hr _ (by decide)),apartO h.nts hg (hr _ (by decide)),apartF h.ends hg (hr _ (by decide)),setBlkF_self h.wts _ _ _,h.lend,by simpa using h.lwts,h.lcl,fun j d hd=>apartF (h.blk j d hd) hg (hr _ (by decide))⟩
structure Rg (S:Nat->Prop) (B:Nat) (w0 w:World) (Bs:Nat) (R:Rn):Prop where
 m:RunM w Bs R
 md:ModS S B w0 w
 fp:∀ k,R.fp k->S k\/B <= k
 le:B <= w.heap.size
end
section
variable {S:Nat->Prop} {B:Nat} {w0 w w':World} {Bs:Nat} {R:Rn}
theorem RunM.rg (h:RunM w Bs R):Rg R.fp w.heap.size w w Bs R:=⟨h,ModS.refl _ _ _,fun _ h=>.inl h,Nat.le_refl _⟩
theorem Rg.keep (h:Rg S B w0 w Bs R) (hb:Below w.heap.size w w'):Rg S B w0 w' Bs R:=⟨h.m.keep hb,h.md.below hb h.le,h.fp,Nat.le_trans h.le hb.size⟩
theorem Rg.fresh (h:Rg S B w0 w Bs R) {b:Nat} (cs:Array Value) (T:TypeId) (f:Nat × Nat) (hb:∀ k,R.fp k->k ≠ b) (hB:B <= b):Rg S B w0 (setBlkF w b cs T f) Bs R :=
 ⟨h.m.congr fun k hk=>setBlkF_other (hb k hk),h.md.grown (setBlkF_grown w b cs T f) h.le (fun r e=>by cases e; exact .inr hB),h.fp,by rw [setBlkF_size]; exact h.le⟩
theorem Rg.put (h:Rg S B w0 w Bs R) {b:Nat} {cs:Array Value} {T:TypeId} {f:Nat × Nat} {R':Rn} (hb:R.fp b) (hm:RunM (setBlkF w b cs T f) Bs R') (hf:∀ k,R'.fp k->R.fp k):Rg S B w0 (setBlkF w b cs T f) Bs R' :=
 ⟨hm,h.md.grown (setBlkF_grown w b cs T f) h.le (fun r e=>by cases e; exact h.fp _ hb),fun k hk=>h.fp k (hf k hk),by rw [setBlkF_size]; exact h.le⟩
theorem fp_cb {i:Nat} {c:CB} (hc:R.cl[i]? = some c):R.fp c.cb:=.inr (.inr (.inr (.inr (.inr (.inr ⟨i,c,hc,rfl⟩)))))
theorem Rg.setC (h:Rg S B w0 w Bs R) {i:Nat} {c:CB} (c':CB) (hc:R.cl[i]? = some c) (he:c'.cb = c.cb):Rg S B w0 (setBlkF w c.cb (c'.cells R.rb i) 76 (0,3)) Bs { R with cl:=R.cl.set i c' } :=
 h.put (fp_cb hc) (h.m.setC c' hc he) fun _ hk=>Rn.fp_setC hc he hk
theorem Rg.setR (h:Rg S B w0 w Bs R) (st:Bool) (us:Nat):Rg S B w0 (setBlkF w R.rb (Rn.cells { R with stuck:=st,used:=us }) 91 (7,8)) Bs { R with stuck:=st,used:=us } :=
 h.put (.inl rfl) (h.m.setR st us) fun _ hk=>hk
theorem Rg.setE (h:Rg S B w0 w Bs R) (i:Nat) (v:Int):Rg S B w0 (setBlkF w R.eb ((R.ends.set i v).map (Value.int .i64)).toArray 3 (0,0)) Bs { R with ends:=R.ends.set i v } :=
 h.put (.inr (.inl rfl)) (h.m.setE i v) fun _ hk=>hk
theorem Rg.setW (h:Rg S B w0 w Bs R) (i:Nat) (v:Stp):Rg S B w0 (setBlkF w R.wb ((R.wts.set i v).flatMap spC).toArray 43 (0,0)) Bs { R with wts:=R.wts.set i v } :=
 h.put (.inr (.inr (.inl rfl))) (h.m.setW i v) fun _ hk=>hk
def Lies (w:World) (a a':Option Addr):Prop:=a' ≠ none->(a ≠ none/\ab a' = ab a)\/w.heap.size <= ab a'
theorem ownB_eq {a:Option Addr} {n c r:Nat} (e:Value.ownBlock (.slice a n c) = some r):a ≠ none/\r = ab a:=by
 cases a with
 | none=>cases e
 | some ad=>exact ⟨by simp,by cases e; rfl⟩
theorem Rg.app (h:Rg S B w0 w Bs R) {R':Rn} {row:Option Nat} {w1:World} (hg:w.grownBy w1 row) (hr:∀ r,row = some r->R.fp r) (hb:R'.rb = R.rb) (hm:RunM (setBlkF w1 R.rb R'.cells 91 (7,8)) Bs R') (hf:∀ k,R'.fp k->R.fp k\/w.heap.size <= k) :
  Rg S B w0 (setBlkF w1 R.rb R'.cells 91 (7,8)) Bs R' :=
 ⟨hm,(h.md.grown hg h.le fun r e=>h.fp r (hr r e)).grown (setBlkF_grown _ _ _ _ _) (Nat.le_trans h.le hg.size) (fun r e=>by cases e; exact h.fp _ (.inl rfl)),fun k hk=>by
  rcases hf k hk with z | z
  ·exact h.fp k z
  ·have:=h.le; exact .inr (by omega),by rw [setBlkF_size]; exact Nat.le_trans h.le hg.size⟩
theorem Rg.addEv (h:Rg S B w0 w Bs R) {w1:World} {a':Option Addr} {c':Nat} (x:Nat × Stp) (hg:w.grownBy w1 (Value.ownBlock (.slice R.ea R.evs.length R.ec))) (hO:Own w1 Bs 45 4 a' (R.evs.length + 1) c' (R.evs.flatMap evC ++ evC x)) (hl:Lies w R.ea a') :
  Rg S B w0 (setBlkF w1 R.rb (Rn.cells { R with ea:=a',ec:=c',evs:=R.evs ++ [x] }) 91 (7,8)) Bs { R with ea:=a',ec:=c',evs:=R.evs ++ [x] } :=
 h.app (R':={ R with ea:=a',ec:=c',evs:=R.evs ++ [x] }) hg (fun r e=>by obtain ⟨h1,rfl⟩:=ownB_eq e; exact .inr (.inr (.inr (.inr (.inl ⟨h1,rfl⟩))))) rfl (h.m.addEv x hg hO) fun k hk=>by
  rcases hk with z | z | z | z | ⟨z1,z2⟩ | z | z
  ·exact .inl (.inl z)
  ·exact .inl (.inr (.inl z))
  ·exact .inl (.inr (.inr (.inl z)))
  ·exact .inl (.inr (.inr (.inr (.inl z))))
  ·rcases hl z1 with ⟨y1,y2⟩ | y
   ·exact .inl (.inr (.inr (.inr (.inr (.inl ⟨y1,by rw [z2]; exact y2⟩)))))
   ·exact .inr (by rw [z2]; exact y)
  ·exact .inl (.inr (.inr (.inr (.inr (.inr (.inl z))))))
  ·exact .inl (.inr (.inr (.inr (.inr (.inr (.inr z))))))
theorem Rg.addNt (h:Rg S B w0 w Bs R) {w1:World} {a':Option Addr} {c':Nat} (x:Nat × Nat × Nte) (hg:w.grownBy w1 (Value.ownBlock (.slice R.na R.nts.length R.nc))) (hO:Own w1 Bs 47 4 a' (R.nts.length + 1) c' (R.nts.flatMap ntC ++ ntC x)) (hl:Lies w R.na a') :
  Rg S B w0 (setBlkF w1 R.rb (Rn.cells { R with na:=a',nc:=c',nts:=R.nts ++ [x] }) 91 (7,8)) Bs { R with na:=a',nc:=c',nts:=R.nts ++ [x] } :=
 h.app (R':={ R with na:=a',nc:=c',nts:=R.nts ++ [x] }) hg (fun r e=>by obtain ⟨h1,rfl⟩:=ownB_eq e; exact .inr (.inr (.inr (.inr (.inr (.inl ⟨h1,rfl⟩)))))) rfl (h.m.addNt x hg hO) fun k hk=>by
  rcases hk with z | z | z | z | z | ⟨z1,z2⟩ | z
  ·exact .inl (.inl z)
  ·exact .inl (.inr (.inl z))
  ·exact .inl (.inr (.inr (.inl z)))
  ·exact .inl (.inr (.inr (.inr (.inl z))))
  ·exact .inl (.inr (.inr (.inr (.inr (.inl z)))))
  ·rcases hl z1 with ⟨y1,y2⟩ | y
   ·exact .inl (.inr (.inr (.inr (.inr (.inr (.inl ⟨y1,by rw [z2]; exact y2⟩))))))
   ·exact .inr (by rw [z2]; exact y)
  ·exact .inl (.inr (.inr (.inr (.inr (.inr (.inr z))))))
theorem Rg.addCl (h:Rg S B w0 w Bs R) {w1:World} {a':Option Addr} {c':Nat} (x:CB) (hx:BlkF w x.cb (x.cells R.rb R.cl.length) 76 (0,3)) (hxS:S x.cb\/B <= x.cb) (hm:R.cl.length < R.m) (hg:w.grownBy w1 (Value.ownBlock (.slice R.ca R.cl.length R.cc)))
  (hO:Own w1 Bs 50 1 a' (R.cl.length + 1) c' ((R.cl.map fun c=>.pointer (some ⟨c.cb,0,none⟩)) ++ [.pointer (some ⟨x.cb,0,none⟩)])) (hl:Lies w R.ca a') :
  Rg S B w0 (setBlkF w1 R.rb (Rn.cells { R with ca:=a',cc:=c',cl:=R.cl ++ [x] }) 91 (7,8)) Bs { R with ca:=a',cc:=c',cl:=R.cl ++ [x] }:=by
 have h1:=h.m.addCl x hx hm hg hO
 refine ⟨h1,(h.md.grown hg h.le fun r e=>h.fp r (by obtain ⟨h1,rfl⟩:=ownB_eq e; exact .inr (.inr (.inr (.inl ⟨h1,rfl⟩))))).grown (setBlkF_grown _ _ _ _ _) (Nat.le_trans h.le hg.size) (fun r e=>by cases e; exact h.fp _ (.inl rfl)),fun k hk=>?_,by rw [setBlkF_size]; exact Nat.le_trans h.le hg.size⟩
 rcases hk with z | z | z | ⟨z1,z2⟩ | z | z | ⟨i,d,hd,z⟩
 ·exact h.fp _ (.inl z)
 ·exact h.fp _ (.inr (.inl z))
 ·exact h.fp _ (.inr (.inr (.inl z)))
 ·rcases hl z1 with ⟨y1,y2⟩ | y
  ·exact h.fp _ (.inr (.inr (.inr (.inl ⟨y1,by rw [z2]; exact y2⟩))))
  ·have:=h.le; exact .inr (by rw [z2]; show B <= ab a'; omega)
 ·exact h.fp _ (.inr (.inr (.inr (.inr (.inl z)))))
 ·exact h.fp _ (.inr (.inr (.inr (.inr (.inr (.inl z))))))
 ·have hd':(R.cl ++ [x])[i]? = some d:=hd
  rw [List.getElem?_append] at hd'
  split at hd'
  ·exact h.fp _ (.inr (.inr (.inr (.inr (.inr (.inr ⟨i,d,hd',z⟩))))))
  ·have hdx:d = x:=by
    have:=List.mem_of_getElem? hd'
    simpa using this
   subst hdx
   rw [z]; exact hxS
end
section
variable {w:World} {Bs:Nat} {R:Rn}
theorem cls_at (hM:RunM w Bs R) {i:Nat} {c:CB} (hc:R.cl[i]? = some c):w.cell? ⟨ab R.ca,ao R.ca + i * 1,none⟩ = some (.pointer (some ⟨c.cb,0,none⟩)):=by
 rw [hM.cls.off,Nat.zero_add,Nat.mul_one]
 exact hM.cls.cell (by rw [List.getElem?_map,hc]; rfl)
def rdl (cl:List CB) (r:Nat->Bool) (n:Nat):List Nat:=(List.range n).filter fun i=>(cl[i]?.any (·.wt)) && r i
def cbOf (cl:List CB) (i:Nat):Value:=.pointer (some ⟨(cl[i]?.map (·.cb)).getD 0,0,none⟩)
theorem rdl_no {cl:List CB} {r:Nat->Bool} {i:Nat} {c:CB} (hc:cl[i]? = some c) (h:(c.wt && r i) = false):rdl cl r (i + 1) = rdl cl r i:=by
 unfold rdl
 rw [List.range_succ,List.filter_append]
 simp [hc,h]
theorem rdl_yes {cl:List CB} {r:Nat->Bool} {i:Nat} {c:CB} (hc:cl[i]? = some c) (h:(c.wt && r i) = true):rdl cl r (i + 1) = rdl cl r i ++ [i]:=by
 unfold rdl
 rw [List.range_succ,List.filter_append]
 simp only [Bool.and_eq_true] at h
 simp [hc,h.1,h.2]
theorem rdl_le {cl:List CB} {r:Nat->Bool} (n:Nat):(rdl cl r n).length <= n:=by
 have:=List.length_filter_le (fun i=>(cl[i]?.any (·.wt)) && r i) (List.range n)
 simpa [rdl] using this
theorem no_wt {cl:List CB} {i:Nat} (h:∀ (j:Nat) (c:CB),j < i->cl[j]? = some c->c.wt = false) (hi:cl.length <= i):cl.any (·.wt) = false:=by
 rw [List.any_eq_false]
 intro c hc
 obtain ⟨j,hj⟩:=List.mem_iff_getElem?.1 hc
 have:=h j c (by have:=(List.getElem?_eq_some_iff.1 hj).1; omega) hj
 simp [this]
def ReadyAt [Ctx Try.prog] (w0:World) (rf:Value) (b:Bool):Prop :=
 (rf = .nilFunc/\b = true)\/∃ f fn caps,rf = .func (.func f) #[] caps/\Try.prog.funcs[f]? = some fn/\fn.body.isSome = true/\(fn.name == "runtime.NumGoroutine") = false/\∀ u,Below w0.heap.size w0 u->C Try.prog f caps u fun v u'=>v = .bool b/\Below u.heap.size u u'
end
section
variable [Ctx Try.prog] {n:Nat} {Q:Exit->Env->World->Prop} {e:Env} {ops:Array Oper} {rest:List Oper} {ty:TypeId} {ps:String} {af:Array Edge} {T:TypeId} {x y:Operand}
variable {S:Nat->Prop} {B:Nat} {w0 w:World} {Bs:Nat} {R:Rn}
theorem L.stC {i:Nat} {c:CB} {o s:Nat} {v:Value} {vs:List Value} (hg:Rg S B w0 w Bs R) (c':CB) (hc:R.cl[i]? = some c) (he:c'.cb = c.cb) (hx:ev e x = .pointer (some ⟨c.cb,o,none⟩)) (hy:ev e y = v) (hvs:v.cells.toList = vs) (hs:(Try.prog.info? T).map (·.size) = some s) (hl:vs.length = s) (h1:vs.all Value.oneCell' = true) (ho:3 <= o/\o + s <= 11) (hcs:setRow (c.cells R.rb i) o vs = c'.cells R.rb i)
  (k:∀ w1,Rg S B w0 w1 Bs { R with cl:=R.cl.set i c' }->w.grownBy w1 (some c.cb)->L Try.prog n ops Q rest e w1):L Try.prog n ops Q (⟨none,.store T x y,ty,ps,af,none⟩ :: rest) e w :=
 L.putF (c'.cells R.rb i) hx hy hvs hs hl h1 (hg.m.blk i c hc) ho.2 (.inr ho.1) hcs (k _ (hg.setC c' hc he) (setBlkF_grown _ _ _ _ _))
theorem L.stR {o s:Nat} {v:Value} {vs:List Value} (hg:Rg S B w0 w Bs R) (st:Bool) (us:Nat) (hx:ev e x = .pointer (some ⟨R.rb,o,none⟩)) (hy:ev e y = v) (hvs:v.cells.toList = vs) (hs:(Try.prog.info? T).map (·.size) = some s) (hl:vs.length = s) (h1:vs.all Value.oneCell' = true) (ho:o + s <= 7) (hcs:setRow R.cells o vs = Rn.cells { R with stuck:=st,used:=us })
  (k:∀ w1,Rg S B w0 w1 Bs { R with stuck:=st,used:=us }->w.grownBy w1 (some R.rb)->L Try.prog n ops Q rest e w1):L Try.prog n ops Q (⟨none,.store T x y,ty,ps,af,none⟩ :: rest) e w :=
 L.putF (Rn.cells { R with stuck:=st,used:=us }) hx hy hvs hs hl h1 hg.m.run (show o + s <= 8 by omega) (.inl (show o + s <= 7 by omega)) hcs (k _ (hg.setR st us) (setBlkF_grown _ _ _ _ _))
theorem L.stEv {o:Nat} {v:Value} {w1:World} {a':Option Addr} {c':Nat} (hg:Rg S B w0 w Bs R) (x':Nat × Stp) (hgr:w.grownBy w1 (Value.ownBlock (.slice R.ea R.evs.length R.ec))) (hO:Own w1 Bs 45 4 a' (R.evs.length + 1) c' (R.evs.flatMap evC ++ evC x')) (hli:Lies w R.ea a')
  (hx:ev e x = .pointer (some ⟨R.rb,1,none⟩)) (hy:ev e y = .slice a' (R.evs.length + 1) c') (hs:(Try.prog.info? T).map (·.size) = some 1)
  (k:∀ w2,Rg S B w0 w2 Bs { R with ea:=a',ec:=c',evs:=R.evs ++ [x'] }->L Try.prog n ops Q rest e w2):L Try.prog n ops Q (⟨none,.store T x y,ty,ps,af,none⟩ :: rest) e w1 :=
 L.putF (Rn.cells { R with ea:=a',ec:=c',evs:=R.evs ++ [x'] }) hx hy rfl hs rfl rfl (apartF hg.m.run hgr (row_ne hg.m.evs (by decide))) (show 1 + 1 <= 8 by omega) (.inl (show 1 + 1 <= 7 by omega)) (by simp [Rn.cells,setRow,Value.cells]) (k _ (hg.addEv x' hgr hO hli))
theorem L.stNt {o:Nat} {v:Value} {w1:World} {a':Option Addr} {c':Nat} (hg:Rg S B w0 w Bs R) (x':Nat × Nat × Nte) (hgr:w.grownBy w1 (Value.ownBlock (.slice R.na R.nts.length R.nc))) (hO:Own w1 Bs 47 4 a' (R.nts.length + 1) c' (R.nts.flatMap ntC ++ ntC x')) (hli:Lies w R.na a')
  (hx:ev e x = .pointer (some ⟨R.rb,2,none⟩)) (hy:ev e y = .slice a' (R.nts.length + 1) c') (hs:(Try.prog.info? T).map (·.size) = some 1)
  (k:∀ w2,Rg S B w0 w2 Bs { R with na:=a',nc:=c',nts:=R.nts ++ [x'] }->L Try.prog n ops Q rest e w2):L Try.prog n ops Q (⟨none,.store T x y,ty,ps,af,none⟩ :: rest) e w1 :=
 L.putF (Rn.cells { R with na:=a',nc:=c',nts:=R.nts ++ [x'] }) hx hy rfl hs rfl rfl (apartF hg.m.run hgr (row_ne hg.m.nts (by decide))) (show 2 + 1 <= 8 by omega) (.inl (show 2 + 1 <= 7 by omega)) (by simp [Rn.cells,setRow,Value.cells]) (k _ (hg.addNt x' hgr hO hli))
theorem L.stCl {w1:World} {a':Option Addr} {c':Nat} (hg:Rg S B w0 w Bs R) (x':CB) (hx0:BlkF w x'.cb (x'.cells R.rb R.cl.length) 76 (0,3)) (hxS:S x'.cb\/B <= x'.cb) (hm:R.cl.length < R.m) (hgr:w.grownBy w1 (Value.ownBlock (.slice R.ca R.cl.length R.cc)))
  (hO:Own w1 Bs 50 1 a' (R.cl.length + 1) c' ((R.cl.map fun c=>.pointer (some ⟨c.cb,0,none⟩)) ++ [.pointer (some ⟨x'.cb,0,none⟩)])) (hli:Lies w R.ca a')
  (hx:ev e x = .pointer (some ⟨R.rb,0,none⟩)) (hy:ev e y = .slice a' (R.cl.length + 1) c') (hs:(Try.prog.info? T).map (·.size) = some 1)
  (k:∀ w2,Rg S B w0 w2 Bs { R with ca:=a',cc:=c',cl:=R.cl ++ [x'] }->w1.grownBy w2 (some R.rb)->L Try.prog n ops Q rest e w2):L Try.prog n ops Q (⟨none,.store T x y,ty,ps,af,none⟩ :: rest) e w1 :=
 L.putF (Rn.cells { R with ca:=a',cc:=c',cl:=R.cl ++ [x'] }) hx hy rfl hs rfl rfl (apartF hg.m.run hgr (row_ne hg.m.cls (by decide))) (show 0 + 1 <= 8 by omega) (.inl (show 0 + 1 <= 7 by omega)) (by simp [Rn.cells,setRow,Value.cells]) (k _ (hg.addCl x' hx0 hxS hm hgr hO hli) (setBlkF_grown _ _ _ _ _))
end
section
variable {n:Nat} {Q:Exit->Env->World->Prop} {e:Env} {ops:Array Oper} {rest:List Oper} {ty:TypeId} {ps:String} {af:Array Edge} {T:TypeId} {x y:Operand}
variable {S:Nat->Prop} {B:Nat} {w0 w:World} {Bs:Nat} {R:Rn}
theorem stC_cells (l:List Stp) (i:Nat) (s:Stp) (hi:i < l.length):setRow (l.flatMap spC).toArray (i * 3) (spC s) = ((l.set i s).flatMap spC).toArray:=by
 apply Array.toList_inj.1
 have key:∀ (l:List Stp) (i:Nat),i < l.length->(l.set i s).flatMap spC = (((l.flatMap spC).set (i * 3) (.int .i64 s.kind)).set (i * 3 + 1) (.int .i64 s.obj)).set (i * 3 + 2) (.int .i64 s.num):=by
  intro l
  induction l with
  | nil=>intro i hi; simp at hi
  | cons a l ih =>
   intro i hi
   cases i with
   | zero=>simp [spC,List.flatMap_cons]
   | succ i =>
    have:=ih i (by simpa using hi)
    simp only [List.set_cons_succ,List.flatMap_cons,spC,List.cons_append,List.nil_append]
    rw [show (i + 1) * 3 = i * 3 + 1 + 1 + 1 by omega]
    simp only [List.set_cons_succ]
    rw [this]
 rw [key l i hi]
 simp [setRow,spC]
end
section
variable [Ctx Try.prog] {n:Nat} {Q:Exit->Env->World->Prop} {e:Env} {ops:Array Oper} {rest:List Oper} {ty:TypeId} {ps:String} {af:Array Edge} {T:TypeId} {x y:Operand}
variable {S:Nat->Prop} {B:Nat} {w0 w:World} {Bs:Nat} {R:Rn}
theorem L.stE {i:Nat} {z:Int} (hg:Rg S B w0 w Bs R) (hi:i < R.m) (hx:ev e x = .pointer (some ⟨R.eb,0 + i * 1,none⟩)) (hy:ev e y = .int .i64 z) (hs:(Try.prog.info? T).map (·.size) = some 1)
  (k:∀ w1,Rg S B w0 w1 Bs { R with ends:=R.ends.set i z }->w.grownBy w1 (some R.eb)->L Try.prog n ops Q rest e w1):L Try.prog n ops Q (⟨none,.store T x y,ty,ps,af,none⟩ :: rest) e w:=by
 refine L.putF _ hx hy rfl hs rfl rfl hg.m.ends (by rw [Nat.zero_add,Nat.mul_one]; simp [hg.m.lend]; omega) (.inr (by simp)) ?_ (k _ (hg.setE i z) (setBlkF_grown _ _ _ _ _))
 rw [Nat.zero_add,Nat.mul_one]
 apply Array.toList_inj.1
 simp [setRow,Value.cells,List.map_set]
theorem L.stW {i:Nat} {z:Stp} (hg:Rg S B w0 w Bs R) (hi:i < R.m) (hx:ev e x = .pointer (some ⟨R.wb,0 + i * 3,none⟩)) (hy:ev e y = stepV z) (hs:(Try.prog.info? T).map (·.size) = some 3)
  (k:∀ w1,Rg S B w0 w1 Bs { R with wts:=R.wts.set i z }->w.grownBy w1 (some R.wb)->L Try.prog n ops Q rest e w1):L Try.prog n ops Q (⟨none,.store T x y,ty,ps,af,none⟩ :: rest) e w:=by
 have hln:(R.wts.flatMap spC).length = R.m * 3:=by
  rw [<- hg.m.lwts]
  generalize R.wts = l
  induction l with
  | nil=>rfl
  | cons a l ih=>simp only [List.flatMap_cons,List.length_append,ih,List.length_cons]; simp [spC]; omega
 refine L.putF (vs:=spC z) _ hx hy rfl hs rfl rfl hg.m.wts (by simp only [List.size_toArray,hln]; omega) (.inr (by simp)) ?_ (k _ (hg.setW i z) (setBlkF_grown _ _ _ _ _))
 rw [Nat.zero_add]
 exact stC_cells R.wts i z (by rw [hg.m.lwts]; exact hi)
end
end Go.Vy.Sc
end
/- The scheduler's small functions: what each returns, what it leaves. -/
section
namespace Go.Vy.Sc
open Go Go.Conc Go.Yc Go.RowKit Go.Proofs Go.Proofs.Ytfmoeemolgjodaa
open Go.Vc
section
variable [Ctx Try.prog]
end
section
theorem buS_0 (x0:Int) (x1:Int) (x2:Int) (x3:ByteArray):Try.prog.built 47 [(0,.int .i64 x0),(1,.int .i64 x1),(2,.int .i64 x2),(3,.string x3)] = some #[.int .i64 x0,.int .i64 x1,.int .i64 x2,.string x3]:=by kernel_rfl
end
section
variable [Ctx Try.prog]
theorem number_c (rb i:Nat) (c:CB) (w:World) (hC:BlkF w c.cb (c.cells rb i) 76 (0,3)):C Try.prog 24 #[.pointer (some ⟨c.cb,0,none⟩)] w fun v w1=>v = .int .i64 (i:Int)/\w1 = w:=by
 refine C.enter (n:=9) Try.func24 rfl rfl ?_
 refine W.seq ?_
 refine W.region rfl ?_
 refine L.va (x_asI rfl) ?_
 refine L.nil ?_
 show W _ _ _ _ _ _
 refine W.seq ?_
 refine W.seq ?_
 refine W.region rfl ?_
 refine L.va (x_mvP rfl) ?_
 refine L.va (x_eqPtrNil rfl rfl Try.underlying50) ?_
 refine L.nil ?_
 show W _ _ _ _ _ _
 refine W.condF rfl ?_
 refine W.skip ?_
 show W _ _ _ _ _ _
 refine W.seq ?_
 refine W.region rfl ?_
 refine L.va (x_mvP rfl) ?_
 refine L.va (x_nilCheck rfl) ?_
 refine L.va (x_field rfl Try.underlying76 rfl sz3 (by decide)) ?_
 refine L.va (x_load rfl Try.underlying3 rfl (hC.cellAt 0 (v:=.int .i64 (i:Int)) rfl)) ?_
 refine L.va (x_asI rfl) ?_
 refine L.nil ?_
 show W _ _ _ _ _ _
 refine W.ret ?_
 repeat (first | refine T.ret ?_ | refine B.ret ?_ | refine N.ret ?_)
 refine ends.one (.inr rfl) rfl ?_
 exact ⟨rfl,rfl⟩
theorem picks_c (rb i:Nat) (c:CB) (w:World) (hC:BlkF w c.cb (c.cells rb i) 76 (0,3)):C Try.prog 25 #[.pointer (some ⟨c.cb,0,none⟩)] w fun v w1=>v = .int .i64 (c.picks:Int)/\w1 = w:=by
 refine C.enter (n:=9) Try.func25 rfl rfl ?_
 refine W.seq ?_
 refine W.region rfl ?_
 refine L.va (x_asI rfl) ?_
 refine L.nil ?_
 show W _ _ _ _ _ _
 refine W.seq ?_
 refine W.seq ?_
 refine W.region rfl ?_
 refine L.va (x_mvP rfl) ?_
 refine L.va (x_eqPtrNil rfl rfl Try.underlying50) ?_
 refine L.nil ?_
 show W _ _ _ _ _ _
 refine W.condF rfl ?_
 refine W.skip ?_
 show W _ _ _ _ _ _
 refine W.seq ?_
 refine W.region rfl ?_
 refine L.va (x_mvP rfl) ?_
 refine L.va (x_nilCheck rfl) ?_
 refine L.va (x_field rfl Try.underlying76 rfl sz3 (by decide)) ?_
 refine L.va (x_load rfl Try.underlying3 rfl (hC.cellAt 8 (v:=.int .i64 (c.picks:Int)) rfl)) ?_
 refine L.va (x_asI rfl) ?_
 refine L.nil ?_
 show W _ _ _ _ _ _
 refine W.ret ?_
 repeat (first | refine T.ret ?_ | refine B.ret ?_ | refine N.ret ?_)
 refine ends.one (.inr rfl) rfl ?_
 exact ⟨rfl,rfl⟩
theorem note_c {S:Nat->Prop} {B:Nat} {w0:World} {Bs:Nat} (R:Rn) (w:World) (hg:Rg S B w0 w Bs R) (hBs:Bs <= w.heap.size) (i:Nat) (c:CB) (hc:R.cl[i]? = some c) (hst:c.st = false) (hrm:R.nts.length <= 1000000000) (kind:Int) (text:ByteArray):C Try.prog 29 #[.pointer (some ⟨c.cb,0,none⟩),.int .i64 kind,.string text] w fun v w1=>v = .tuple #[]/\∃ a n,Rg S B w0 w1 Bs { R with na:=a,nc:=n,nts:=R.nts ++ [(R.evs.length,i,⟨kind,text⟩)] }:=by
 refine C.enter (n:=42) Try.func29 rfl rfl ?_
 refine W.seq ?_
 refine W.seq ?_
 refine W.region rfl ?_
 refine L.va (x_mvP rfl) ?_
 refine L.va (x_eqPtrNil rfl rfl Try.underlying50) ?_
 refine L.va (x_mvB rfl) ?_
 refine L.on rfl ?_
 refine L.va (x_mvP rfl) ?_
 refine L.on rfl ?_
 refine L.va (x_nilCheck rfl) ?_
 refine L.on rfl ?_
 refine L.va (x_field rfl Try.underlying76 rfl sz4 (by decide)) ?_
 refine L.on rfl ?_
 refine L.va (x_load rfl Try.underlying4 rfl ((hg.m.blk i c hc).cellAt 10 (v:=.bool (c.st)) rfl)) ?_
 refine L.va (x_pickF rfl) ?_
 refine L.nil ?_
 show W _ _ _ _ _ _
 refine W.condF (rb hst) ?_
 refine W.skip ?_
 show W _ _ _ _ _ _
 refine W.seq ?_
 refine W.region rfl ?_
 refine L.va (x_mvP rfl) ?_
 refine L.va (x_nilCheck rfl) ?_
 refine L.va (x_field rfl Try.underlying76 rfl sz73 (by decide)) ?_
 refine L.va (x_load rfl Try.underlying73 rfl ((hg.m.blk i c hc).cellAt 1 (v:=.pointer (some ⟨R.rb,0,none⟩)) rfl)) ?_
 refine L.va (x_nilCheck rfl) ?_
 refine L.va (x_field rfl Try.underlying91 rfl sz31 (by decide)) ?_
 refine L.va (x_asP rfl) ?_
 refine L.nil ?_
 show W _ _ _ _ _ _
 have hR:=hg.m.run
 have hC:=(hg.m.blk i c hc)
 refine W.fl 19 [17,18] [0,1,2,3,4,5,6,7,8,9,10,11,12,13,14,15,16,17,18] (fun w'=>BlkF w' R.rb #[.slice (R.ca) (R.cl.length) (R.cc),.slice (R.ea) (R.evs.length) (R.ec),.slice (R.na) (R.nts.length) (R.nc),.slice (some ⟨R.eb,0,none⟩) (R.m) (R.m),.slice (some ⟨R.wb,0,none⟩) (R.m) (R.m),.bool (R.stuck),.int .i64 (R.used:Int),.chan (some R.yb)] 91 (7,8)/\BlkF w' c.cb #[.int .i64 (i:Int),.pointer (some ⟨R.rb,0,none⟩),.chan (some c.rc),.int .i64 (c.sp.kind),.int .i64 (c.sp.obj),.int .i64 (c.sp.num),c.rf,c.df,.int .i64 (c.picks:Int),.bool (c.wt),.bool (c.st)] 76 (0,3)) (by kernel_rfl) (by kernel_rfl) (by kernel_rfl) (by kernel_rfl) (by kernel_rfl) (⟨hR.keep (Below.refl w.heap.size w).drew,hC.keep (Below.refl w.heap.size w).drew⟩) ?_
 have hdr:Below w.heap.size w w.drew:=(Below.refl w.heap.size w).drew
 have hBs:=Nat.le_trans hBs hdr.size
 have hg:=hg.keep hdr
 have hR:=hR.keep hdr
 have hC:=hC.keep hdr
 clear hdr
 generalize w.drew = w at *
 refine F.va rfl rfl (fun w' hw'=>(x_mvP rfl)) ?_
 refine F.va rfl rfl (fun w' hw'=>(x_mvP rfl)) ?_
 refine F.va rfl rfl (fun w' hw'=>(x_nilCheck rfl)) ?_
 refine F.va rfl rfl (fun w' hw'=>(x_field rfl Try.underlying31 rfl sz28 (by decide))) ?_
 refine F.va rfl rfl (fun w' hw'=>(x_load rfl Try.underlying28 rfl (hw'.1.cellAt 2 (v:=.slice (R.na) (R.nts.length) (R.nc)) rfl))) ?_
 refine F.va rfl rfl (fun w' hw'=>(x_mvP rfl)) ?_
 refine F.va rfl rfl (fun w' hw'=>(x_nilCheck rfl)) ?_
 refine F.va rfl rfl (fun w' hw'=>(x_field rfl Try.underlying31 rfl sz27 (by decide))) ?_
 refine F.va rfl rfl (fun w' hw'=>(x_load rfl Try.underlying27 rfl (hw'.1.cellAt 1 (v:=.slice (R.ea) (R.evs.length) (R.ec)) rfl))) ?_
 refine F.va rfl rfl (fun w' hw'=>(x_len rfl Try.underlying27 rfl)) ?_
 refine F.va rfl rfl (fun w' hw'=>(x_mvP rfl)) ?_
 refine F.va rfl rfl (fun w' hw'=>(x_nilCheck rfl)) ?_
 refine F.va rfl rfl (fun w' hw'=>(x_field rfl Try.underlying76 rfl sz3 (by decide))) ?_
 refine F.va rfl rfl (fun w' hw'=>(x_load rfl Try.underlying3 rfl (hw'.2.cellAt 0 (v:=.int .i64 (i:Int)) rfl))) ?_
 refine F.va rfl rfl (fun w' hw'=>(x_mvI rfl)) ?_
 refine F.va rfl rfl (fun w' hw'=>x_move) ?_
 refine F.va rfl rfl (fun w' hw'=>(x_build (parts:=[(0,.tmp 30),(1,.tmp 34),(2,.tmp 35),(3,.tmp 36)]) rfl (buS_0 (R.evs.length:Nat) (i:Int) kind text))) ?_
 refine F.doo rfl rfl ?_
 refine L.build1 (cs:=#[.int .i64 (R.evs.length:Nat),.int .i64 (i:Int),.int .i64 kind,.string text]) rfl rfl Try.underlying28 sz47 rfl ⟨_,zr47⟩ (by decide) (fun w b38 F38=>?_)
 have hBs:=Nat.le_trans hBs F38.below.size
 have hg:=hg.keep F38.below
 have hR:=hR.keep F38.below
 have hC:=hC.keep F38.below
 have hB38:=F38.blk
 refine L.nil ⟨rfl,⟨hR,hC⟩,?_⟩
 refine F.doo rfl rfl ?_
 refine L.appendW (B:=Bs) (m:=1) rfl rfl Try.underlying28 in47 rfl (by decide) hg.m.nts (news:=[.int .i64 (R.evs.length:Nat),.int .i64 (i:Int),.int .i64 kind,.string text]) rfl (fun j u hj=>by
  rw [Addr.add_lit]
  match j,hj with
  | 0,hj=>cases hj; exact hB38.cellAt 0 rfl
  | 1,hj=>cases hj; exact hB38.cellAt 1 rfl
  | 2,hj=>cases hj; exact hB38.cellAt 2 rfl
  | 3,hj=>cases hj; exact hB38.cellAt 3 rfl) (fun u hu=>by simp only [List.mem_cons,List.not_mem_nil,or_false] at hu; rcases hu with rfl | rfl | rfl | rfl <;> rfl) (by omega) (by omega) hBs (fun a39 c39 w2 hO hgr hli=>?_)
 have hR:=apartF hR hgr (row_ne hg.m.nts (by decide))
 have hC:=apartF hC hgr (row_ne hg.m.nts (by decide))
 refine L.nil ⟨rfl,⟨hR,hC⟩,?_⟩
 refine F.nil ?_
 show L _ _ _ _ _ _ _
 refine L.va (x_nilCheck rfl) ?_
 refine L.va (x_field rfl Try.underlying31 rfl sz28 (by decide)) ?_
 refine L.stNt (o:=0) (v:=undef) hg (R.evs.length,i,⟨kind,text⟩) hgr hO hli rfl rfl sz28 (fun w hg=>?_)
 refine L.nil ?_
 try clear hR
 try clear hC
 repeat (first | refine T.nrm ?_ | refine B.nrm ?_ | refine N.nrm ?_)
 refine ends.none (.inl rfl) rfl ?_
 exact ⟨rfl,_,_,hg⟩
theorem anyWaits_c (R:Rn) (Bs:Nat) (w0:World) (hM:RunM w0 Bs R) (hm:R.cl.length <= 1000):C Try.prog 38 #[.pointer (some ⟨R.rb,0,none⟩)] w0 fun v w1=>v = .bool (R.cl.any (·.wt))/\w1 = w0:=by
 refine C.enter (n:=19) Try.func38 rfl rfl ?_
 refine W.seq ?_
 refine W.region rfl ?_
 refine L.va (x_asB rfl) ?_
 refine L.nil ?_
 show W _ _ _ _ _ _
 refine W.seq ?_
 refine W.seq ?_
 refine W.region rfl ?_
 refine L.va (x_mvP rfl) ?_
 refine L.va (x_nilCheck rfl) ?_
 refine L.va (x_field rfl Try.underlying91 rfl sz79 (by decide)) ?_
 refine L.va (x_load rfl Try.underlying79 rfl (hM.run.cellAt 0 (v:=.slice (R.ca) (R.cl.length) (R.cc)) rfl)) ?_
 refine L.va (x_len rfl Try.underlying79 rfl) ?_
 refine L.va (x_mvI rfl) ?_
 refine L.nil ?_
 show W _ _ _ _ _ _
 refine W.block ?_
 refine W.loop (fun k e w=>∃ (i:Nat),k = R.cl.length - i/\e 0 = .pointer (some ⟨R.rb,0,none⟩)/\e 2 = .bool false/\e 8 = .slice (R.ca) (R.cl.length) (R.cc)/\e 9 = .int .i64 (R.cl.length:Nat)/\e 10 = .int .i64 (i:Int)/\i <= R.cl.length/\(∀ (j:Nat) (c:CB),j < i->R.cl[j]? = some c->c.wt = false)/\w = w0) _ ⟨0,rfl,rfl,rfl,rfl,rfl,rfl,Nat.zero_le _,fun j c hj=>absurd hj (Nat.not_lt_zero _),rfl⟩ ?_
 rintro k e w ⟨i,hk,s0,s2,s8,s9,s10,hi,hno,hw⟩
 rw [upd_id s0,upd_id s2,upd_id s8,upd_id s9,upd_id s10]
 clear s0 s2 s8 s9 s10
 subst hw
 refine W.seq ?_
 refine W.region rfl ?_
 refine L.va (x_lss rfl rfl) ?_
 refine L.nil ?_
 show W _ _ _ _ _ _
 refine W.seq ?_
 refine W.condP rfl (fun h11=>?_) (fun h11=>?_)
 ·have hlt:i < R.cl.length:=by omega
  obtain ⟨c,hc⟩:∃ c,R.cl[i]? = some c:=⟨_,List.getElem?_eq_getElem hlt⟩
  refine W.skip ?_
  show W _ _ _ _ _ _
  refine W.seq ?_
  refine W.block ?_
  refine W.seq ?_
  refine W.region rfl ?_
  refine L.va (x_idx (i:=i) rfl rfl Try.underlying79 sz50 hM.cls.sl hlt) ?_
  refine L.va (x_load (v:=.pointer (some ⟨c.cb,0,none⟩)) rfl Try.underlying50 rfl (cls_at hM hc)) ?_
  refine L.va (x_asP rfl) ?_
  refine L.nil ?_
  show W _ _ _ _ _ _
  refine W.seq ?_
  refine W.region rfl ?_
  refine L.va (x_mvP rfl) ?_
  refine L.va (x_nilCheck rfl) ?_
  refine L.va (x_field rfl Try.underlying76 rfl sz4 (by decide)) ?_
  refine L.va (x_load rfl Try.underlying4 rfl ((hM.blk i c hc).cellAt 9 (v:=.bool (c.wt)) rfl)) ?_
  refine L.nil ?_
  show W _ _ _ _ _ _
  refine W.cond rfl (fun h17=>?_) (fun h17=>?_)
  ·refine W.seq ?_
   refine W.region rfl ?_
   refine L.va (x_asB rfl) ?_
   refine L.nil ?_
   show W _ _ _ _ _ _
   refine W.ret ?_
   repeat (first | refine T.ret ?_ | refine B.ret ?_ | refine N.ret ?_)
   refine ends.one (.inr rfl) rfl ?_
   exact ⟨congrArg Value.bool (List.any_eq_true.2 ⟨c,List.mem_of_getElem? hc,h17⟩).symm,rfl⟩
  ·refine W.skip ?_
   refine B.nrm ?_
   show W _ _ _ _ _ _
   refine W.region rfl ?_
   refine L.va (x_inc rfl rfl (by omega)) ?_
   refine L.va (x_mvI rfl) ?_
   refine L.nil ?_
   refine T.nrm ?_
   exact ⟨_,by omega,⟨i + 1,rfl,rfl,rfl,rfl,rfl,rfl,(by omega),(fun j d hj hd=>by
     rcases Nat.lt_or_ge j i with z | z
     ·exact hno j d z hd
     ·obtain rfl:j = i:=by omega
      rw [hc] at hd; obtain rfl:=Option.some.inj hd; exact h17),rfl⟩⟩
 ·refine W.exit ?_
  repeat (first | refine T.exit ?_ | refine N.exit ?_ | refine B.exitNe (by decide) ?_)
  refine B.exitEq ?_
  show W _ _ _ _ _ _
  refine W.seq ?_
  refine W.region rfl ?_
  refine L.va (x_asB rfl) ?_
  refine L.nil ?_
  show W _ _ _ _ _ _
  refine W.ret ?_
  repeat (first | refine T.ret ?_ | refine B.ret ?_ | refine N.ret ?_)
  refine ends.one (.inr rfl) rfl ?_
  exact ⟨congrArg Value.bool (no_wt hno (by omega)).symm,rfl⟩
theorem readies_c (R:Rn) (Bs:Nat) (w0:World) (hM:RunM w0 Bs R) (hm:R.cl.length <= 1000) (r:Nat->Bool) (hrd:∀ (i:Nat) (c:CB),R.cl[i]? = some c->c.wt = true->ReadyAt w0 c.rf (r i)):C Try.prog 36 #[.pointer (some ⟨R.rb,0,none⟩)] w0 fun v w=>∃ a cp,v = .slice a (rdl R.cl r R.cl.length).length cp/\Own w w0.heap.size 50 1 a (rdl R.cl r R.cl.length).length cp ((rdl R.cl r R.cl.length).map (cbOf R.cl))/\Below w0.heap.size w0 w:=by
 refine C.enter (n:=39) Try.func36 rfl rfl ?_
 have hb:Below w0.heap.size w0 w0:=Below.refl _ _
 refine W.seq ?_
 refine W.region rfl ?_
 refine L.va (x_asS rfl) ?_
 refine L.nil ?_
 show W _ _ _ _ _ _
 refine W.seq ?_
 refine W.region rfl ?_
 refine L.va (x_asS rfl) ?_
 refine L.nil ?_
 show W _ _ _ _ _ _
 refine W.seq ?_
 refine W.seq ?_
 refine W.region rfl ?_
 refine L.va (x_mvP rfl) ?_
 refine L.va (x_nilCheck rfl) ?_
 refine L.va (x_field rfl Try.underlying91 rfl sz79 (by decide)) ?_
 refine L.va (x_load rfl Try.underlying79 rfl ((hM.keep hb).run.cellAt 0 (v:=.slice (R.ca) (R.cl.length) (R.cc)) rfl)) ?_
 refine L.va (x_len rfl Try.underlying79 rfl) ?_
 refine L.va (x_mvI rfl) ?_
 refine L.nil ?_
 show W _ _ _ _ _ _
 refine W.block ?_
 refine W.loop (fun k e w=>∃ (i:Nat),∃ (a:Option Addr),∃ (q:Nat),∃ (cp:Nat),k = R.cl.length - i/\e 0 = .pointer (some ⟨R.rb,0,none⟩)/\e 2 = .slice none 0 0/\e 3 = .slice a q cp/\e 9 = .slice (R.ca) (R.cl.length) (R.cc)/\e 10 = .int .i64 (R.cl.length:Nat)/\e 11 = .int .i64 (i:Int)/\i <= R.cl.length/\q = (rdl R.cl r i).length/\Own w w0.heap.size 50 1 a q cp ((rdl R.cl r i).map (cbOf R.cl))/\Below w0.heap.size w0 w) _ ⟨0,none,0,0,rfl,rfl,rfl,rfl,rfl,rfl,rfl,Nat.zero_le _,rfl,Own.nil _ _ _ _,hb⟩ ?_
 rintro k e w ⟨i,a,q,cp,hk,s0,s2,s3,s9,s10,s11,hi,hq,hO,hb⟩
 rw [upd_id s0,upd_id s2,upd_id s3,upd_id s9,upd_id s10,upd_id s11]
 clear s0 s2 s3 s9 s10 s11
 refine W.seq ?_
 refine W.region rfl ?_
 refine L.va (x_lss rfl rfl) ?_
 refine L.nil ?_
 show W _ _ _ _ _ _
 refine W.seq ?_
 refine W.condP rfl (fun h12=>?_) (fun h12=>?_)
 ·have hlt:i < R.cl.length:=by omega
  obtain ⟨c,hc⟩:∃ c,R.cl[i]? = some c:=⟨_,List.getElem?_eq_getElem hlt⟩
  obtain ⟨cb,rc,sp,rf,df,pk,wt,st⟩:=c
  refine W.skip ?_
  show W _ _ _ _ _ _
  refine W.seq ?_
  refine W.block ?_
  refine W.seq ?_
  refine W.region rfl ?_
  refine L.va (x_idx (i:=i) rfl rfl Try.underlying79 sz50 hM.cls.sl hlt) ?_
  refine L.va (x_load (v:=.pointer (some ⟨cb,0,none⟩)) rfl Try.underlying50 rfl (cls_at (hM.keep hb) hc)) ?_
  refine L.va (x_asP rfl) ?_
  refine L.nil ?_
  show W _ _ _ _ _ _
  refine W.seq ?_
  cases wt with
  | false =>
   refine W.region rfl ?_
   refine L.va (x_mvP rfl) ?_
   refine L.va (x_nilCheck rfl) ?_
   refine L.va (x_field rfl Try.underlying76 rfl sz4 (by decide)) ?_
   refine L.va (x_load rfl Try.underlying4 rfl (((hM.keep hb).blk i _ hc).cellAt 9 (v:=.bool false) rfl)) ?_
   refine L.va (x_mvB rfl) ?_
   refine L.off rfl ?_
   refine L.off rfl ?_
   refine L.off rfl ?_
   refine L.off rfl ?_
   refine L.off rfl ?_
   refine L.off rfl ?_
   refine L.off rfl ?_
   refine L.off rfl ?_
   refine L.off rfl ?_
   refine L.off rfl ?_
   refine L.off rfl ?_
   refine L.off rfl ?_
   refine L.va (x_pickF rfl) ?_
   refine L.nil ?_
   have hrl:=rdl_no (r:=r) hc rfl
   show W _ _ _ _ _ _
   refine W.condF rfl ?_
   refine W.skip ?_
   refine B.nrm ?_
   show W _ _ _ _ _ _
   refine W.region rfl ?_
   refine L.va (x_inc rfl rfl (by omega)) ?_
   refine L.va (x_mvI rfl) ?_
   refine L.nil ?_
   refine T.nrm ?_
   exact ⟨_,by omega,⟨i + 1,a,q,cp,rfl,rfl,rfl,rfl,rfl,rfl,rfl,(by omega),(by rw [hrl]; exact hq),(by rw [hrl]; exact hO),hb⟩⟩
  | true =>
   rcases hrd i _ hc rfl with ⟨h1,h2⟩ | ⟨f,fn,caps,h1,hf,hbd,hnm,hcall⟩
   all_goals dsimp only at h1
   all_goals subst h1
   ·refine W.region rfl ?_
    refine L.va (x_mvP rfl) ?_
    refine L.va (x_nilCheck rfl) ?_
    refine L.va (x_field rfl Try.underlying76 rfl sz4 (by decide)) ?_
    refine L.va (x_load rfl Try.underlying4 rfl (((hM.keep hb).blk i _ hc).cellAt 9 (v:=.bool true) rfl)) ?_
    refine L.va (x_mvB rfl) ?_
    refine L.on rfl ?_
    refine L.va (x_mvP rfl) ?_
    refine L.on rfl ?_
    refine L.va (x_nilCheck rfl) ?_
    refine L.on rfl ?_
    refine L.va (x_field rfl Try.underlying76 rfl sz24 (by decide)) ?_
    refine L.on rfl ?_
    refine L.va (x_load rfl Try.underlying24 rfl (((hM.keep hb).blk i _ hc).cellAt 6 (v:=.nilFunc) rfl)) ?_
    refine L.on rfl ?_
    refine L.va (x_eqFnNil (v:=.nilFunc) (b:=true) rfl (.inl ⟨rfl,rfl⟩) rfl Try.underlying24 ⟨_,_,_,rfl⟩) ?_
    refine L.on rfl ?_
    refine L.va (x_mvB rfl) ?_
    refine L.off rfl ?_
    refine L.off rfl ?_
    refine L.off rfl ?_
    refine L.off rfl ?_
    refine L.off rfl ?_
    refine L.on rfl ?_
    refine L.va (x_pickT rfl) ?_
    refine L.va (x_pickT rfl) ?_
    refine L.nil ?_
    have hrl:=rdl_yes (r:=r) hc h2
    show W _ _ _ _ _ _
    refine W.condT rfl ?_
    refine W.region rfl ?_
    refine L.va (x_mvS rfl) ?_
    refine L.va (x_mvP rfl) ?_
    refine L.build1 (cs:=#[.pointer (some ⟨cb,0,none⟩)]) rfl rfl Try.underlying79 sz50 rfl ⟨_,zr50⟩ (by decide) (fun w b35 F35=>?_)
    have hb:=cl_step hb F35.below
    have hO:=hO.keep F35.below
    have hB35:=F35.blk
    have hOl:=rdl_le (cl:=R.cl) (r:=r) i
    refine L.appendAny (B:=w0.heap.size) (m:=1) rfl rfl Try.underlying79 in50 rfl (by decide) hO (fun h=>by cases h) (news:=[.pointer (some ⟨cb,0,none⟩)]) rfl (fun ad had j u hj=>by
     cases had
     rw [Addr.add_lit]
     match j,hj with
     | 0,hj=>cases hj; exact hB35.cellAt 0 rfl) (fun u hu=>by simp only [List.mem_cons,List.not_mem_nil,or_false] at hu; subst hu; rfl) (by omega) (by omega) hb.size (fun a2 cp2 w2 hO2 hg2 hbel _=>?_)
    have hb:=hb.trans hbel
    rename World=>w
    refine L.va (x_asS rfl) ?_
    refine L.nil ?_
    refine B.nrm ?_
    show W _ _ _ _ _ _
    refine W.region rfl ?_
    refine L.va (x_inc rfl rfl (by omega)) ?_
    refine L.va (x_mvI rfl) ?_
    refine L.nil ?_
    refine T.nrm ?_
    exact ⟨_,by omega,⟨i + 1,a2,q + 1,cp2,rfl,rfl,rfl,rfl,rfl,rfl,rfl,(by omega),(by rw [hrl,List.length_append,hq]; rfl),(by rw [hrl,List.map_append]; simpa [cbOf,hc] using hO2),hb⟩⟩
   ·refine W.region rfl ?_
    refine L.va (x_mvP rfl) ?_
    refine L.va (x_nilCheck rfl) ?_
    refine L.va (x_field rfl Try.underlying76 rfl sz4 (by decide)) ?_
    refine L.va (x_load rfl Try.underlying4 rfl (((hM.keep hb).blk i _ hc).cellAt 9 (v:=.bool true) rfl)) ?_
    refine L.va (x_mvB rfl) ?_
    refine L.on rfl ?_
    refine L.va (x_mvP rfl) ?_
    refine L.on rfl ?_
    refine L.va (x_nilCheck rfl) ?_
    refine L.on rfl ?_
    refine L.va (x_field rfl Try.underlying76 rfl sz24 (by decide)) ?_
    refine L.on rfl ?_
    refine L.va (x_load rfl Try.underlying24 rfl (((hM.keep hb).blk i _ hc).cellAt 6 (v:=.func (.func f) #[] caps) rfl)) ?_
    refine L.on rfl ?_
    refine L.va (x_eqFnNil (v:=.func (.func f) #[] caps) (b:=false) rfl (.inr ⟨_,_,_,rfl,rfl⟩) rfl Try.underlying24 ⟨_,_,_,rfl⟩) ?_
    refine L.on rfl ?_
    refine L.va (x_mvB rfl) ?_
    refine L.on rfl ?_
    refine L.va (x_mvP rfl) ?_
    refine L.on rfl ?_
    refine L.va (x_nilCheck rfl) ?_
    refine L.on rfl ?_
    refine L.va (x_field rfl Try.underlying76 rfl sz24 (by decide)) ?_
    refine L.on rfl ?_
    refine L.va (x_load rfl Try.underlying24 rfl (((hM.keep hb).blk i _ hc).cellAt 6 (v:=.func (.func f) #[] caps) rfl)) ?_
    refine L.on rfl ?_
    refine L.call (x_callV0 rfl hf hbd hnm) (hcall w hb) ?_
    rintro _ w ⟨rfl,hbw⟩
    have hb:=cl_step hb hbw
    have hO:=hO.keep hbw
    refine L.on rfl ?_
    refine L.va (x_pickF rfl) ?_
    refine L.va (x_pickT rfl) ?_
    refine L.nil ?_
    show W _ _ _ _ _ _
    refine W.cond rfl (fun h32=>?_) (fun h32=>?_)
    ·have hrl:=rdl_yes (r:=r) hc h32
     refine W.region rfl ?_
     refine L.va (x_mvS rfl) ?_
     refine L.va (x_mvP rfl) ?_
     refine L.build1 (cs:=#[.pointer (some ⟨cb,0,none⟩)]) rfl rfl Try.underlying79 sz50 rfl ⟨_,zr50⟩ (by decide) (fun w b35 F35=>?_)
     have hb:=cl_step hb F35.below
     have hO:=hO.keep F35.below
     have hB35:=F35.blk
     have hOl:=rdl_le (cl:=R.cl) (r:=r) i
     refine L.appendAny (B:=w0.heap.size) (m:=1) rfl rfl Try.underlying79 in50 rfl (by decide) hO (fun h=>by cases h) (news:=[.pointer (some ⟨cb,0,none⟩)]) rfl (fun ad had j u hj=>by
      cases had
      rw [Addr.add_lit]
      match j,hj with
      | 0,hj=>cases hj; exact hB35.cellAt 0 rfl) (fun u hu=>by simp only [List.mem_cons,List.not_mem_nil,or_false] at hu; subst hu; rfl) (by omega) (by omega) hb.size (fun a2 cp2 w2 hO2 hg2 hbel _=>?_)
     have hb:=hb.trans hbel
     rename World=>w
     refine L.va (x_asS rfl) ?_
     refine L.nil ?_
     refine B.nrm ?_
     show W _ _ _ _ _ _
     refine W.region rfl ?_
     refine L.va (x_inc rfl rfl (by omega)) ?_
     refine L.va (x_mvI rfl) ?_
     refine L.nil ?_
     refine T.nrm ?_
     exact ⟨_,by omega,⟨i + 1,a2,q + 1,cp2,rfl,rfl,rfl,rfl,rfl,rfl,rfl,(by omega),(by rw [hrl,List.length_append,hq]; rfl),(by rw [hrl,List.map_append]; simpa [cbOf,hc] using hO2),hb⟩⟩
    ·have hrl:=rdl_no (r:=r) hc h32
     refine W.skip ?_
     refine B.nrm ?_
     show W _ _ _ _ _ _
     refine W.region rfl ?_
     refine L.va (x_inc rfl rfl (by omega)) ?_
     refine L.va (x_mvI rfl) ?_
     refine L.nil ?_
     refine T.nrm ?_
     exact ⟨_,by omega,⟨i + 1,a,q,cp,rfl,rfl,rfl,rfl,rfl,rfl,rfl,(by omega),(by rw [hrl]; exact hq),(by rw [hrl]; exact hO),hb⟩⟩
 ·refine W.exit ?_
  repeat (first | refine T.exit ?_ | refine N.exit ?_ | refine B.exitNe (by decide) ?_)
  refine B.exitEq ?_
  show W _ _ _ _ _ _
  refine W.seq ?_
  refine W.region rfl ?_
  refine L.va (x_mvS rfl) ?_
  refine L.va (x_asS rfl) ?_
  refine L.nil ?_
  show W _ _ _ _ _ _
  refine W.ret ?_
  repeat (first | refine T.ret ?_ | refine B.ret ?_ | refine N.ret ?_)
  refine ends.one (.inr rfl) rfl ?_
  obtain rfl:i = R.cl.length:=by omega
  subst hq
  exact ⟨a,cp,rfl,hO,hb⟩
end
end Go.Vy.Sc
end
/- Ways to a seat; a send; deferred calls on the way out, recover. Nothing here speaks of a program. -/
section
namespace Go.Vy
open Go Go.Conc Go.Yc Go.RowKit
open Go.Vc Go.Wg
def YS (P:Program) (main:Bool) (l:Stays) (K:Seat1->Prop):Nat->Nat->Goroutine->Prop:=fun m _ g=>∃ s,K s/\Yc.Way P main l s m g
def okS (l:Stays) (e:Event):Prop:=∃ p ∈ l,e = ⟨.cell p.1,false,false⟩
theorem hf_way {P:Program} {main:Bool} {l:Stays} {K:Seat1->Prop}:HF P main (okS l) (YS P main l K) :=
 ⟨fun m d g g' es h1 h2 h3 h4 ⟨s,hk,hw⟩=>⟨s,hk,.inr ⟨(by
  rcases hw.status with ⟨_,h⟩ | ⟨h,_⟩
  ·exact h
  ·rw [h2] at h; cases h),h1,g',es,h3,fun w _=>h4 w,hw⟩⟩⟩
def Sits (n:Nat) (b:Frame) (cs:List Frame) (e:Env) (dst:Option Nat) (todo:List Item) (me:Goroutine):Prop:=∀ v,∃ a,Rep n a (updO e dst v)/\Go.Conc.served me v = G (b.at a todo) cs
theorem Sits.go {Z:Goroutine->World->Prop} {n:Nat} {b:Frame} {cs:List Frame} {e:Env} {dst:Option Nat} {todo:List Item} {me:Goroutine} (h:Sits n b cs e dst todo me) {v:Value} {w:World} (hz:ZA Z n b cs (updO e dst v) todo w):Z (Go.Conc.served me v) w:=by
 obtain ⟨a,ha,he⟩:=h v
 rw [he]; exact hz a ha
theorem served_at {b:Frame} {a:Act} {k:List Item} {cs:List Frame} {ops:Array Oper} {i:Nat} {rest:List Nat} {o:Oper} (ho:ops[i]? = some o) (v:Value):Go.Conc.served (G (b.at a (.inRegion ops (i :: rest) :: k)) cs) v = G (b.at (a.put o.dst v) (.inRegion ops rest :: k)) cs:=by
 have:(b.at a (.inRegion ops (i :: rest) :: k)).finish v = b.at (a.put o.dst v) (.inRegion ops rest :: k):=by rw [Frame.finish_at,ho]; rfl
 show ({ frame:=(b.at a (.inRegion ops (i :: rest) :: k)).finish v,callers:=cs,status:=.running,dying:=none }:Goroutine) = _
 rw [this]; rfl
section
variable {P:Program} {main:Bool} {st:Stays} {K:Seat1->Prop} {ft n:Nat} {b:Frame} {cs:List Frame} {d:Nat} {e:Env} {k:List Item} {ops:Array Oper} {i:Nat} {l:List Oper} {dst:Option Nat} {ty:TypeId} {ps:String} {af:Array Edge} {T E:TypeId} {x y:Operand}
theorem AtL.stay {p:Addr} {v:Value} {u:TypeDesc} (hk:b.kind ≠ .early) (hd:dstB n dst = true) (hp:(p,v) ∈ st) (hx:ev e x = .pointer (some p)) (hT:P.underlying T = some u) (hu:flatB u = true)
  (h:AtL (YS P main st K) ft n b cs [] d (updO e dst v) ops (i + 1) l k):AtL (YS P main st K) (ft + 1) n b cs [] d e ops i (⟨dst,.load T x,ty,ps,af,none⟩ :: l) k:=by
 intro hl a ha
 obtain ⟨ho,hl'⟩:=tail_of hl
 obtain ⟨s,hs,hw⟩:=h hl' _ (ha.put hd v)
 have h0:0 < ft:=by
  rcases hw.status with ⟨_,h⟩ | ⟨h,_⟩
  ·exact h
  ·cases h
 refine ⟨s,hs,.inr ⟨h0,rfl,_,seen P b.fn #[⟨.cell p,false,false⟩],fun ev' he=>⟨(p,v),hp,?_⟩,fun w hw'=>?_,hw⟩⟩
 ·have:=mem_seen he
  simpa using this
 ·have hc:=hw' (p,v) hp
  show stepG P main (G (b.at a (.inRegion ops (i :: List.range' (i + 1) l.length) :: k)) cs) w = _
  rw [stepG_value ho (by rw [ha.yielded]; rfl) hk (by rw [ha.eval]; exact Go.Vc.x_load hx hT hu hc),listed]
  have he:∀ es,(isAgg T).events P w es = es:=fun es=>by
   cases u <;> simp [isAgg,go_sem,run_underlying hT]
  have hq:(execOp a.eval ⟨dst,.load T x,ty,ps,af,none⟩).events P w #[] = #[⟨.cell p,false,false⟩]:=by
   rw [ha.eval]
   simp [execOp,Instr.loadAt,hx,Instr.sureAddr,loadVar,Go.Vc.run_isAgg hT,hu,hc,he]
  rw [hq]
theorem AtL.seat {c:Nat} {z:Value} {dd:ChanDir} (hk:b.kind ≠ .early) (hT:P.underlying T = some (.chan dd E)) (hz:(P.info? E).bind (·.zero) = some z) (hx:ev e x = .chan (some c))
  (hK:∀ me,Sits n b cs e dst (.inRegion ops (List.range' (i + 1) l.length) :: k) me->K ⟨c,z,me⟩) (hd:dstB n dst = true):AtL (YS P main st K) (ft + 1) n b cs [] d e ops i (⟨dst,.recv T x false,ty,ps,af,none⟩ :: l) k:=by
 intro hl a ha
 obtain ⟨ho,hl'⟩:=tail_of hl
 refine ⟨⟨c,z,G (b.at a (.inRegion ops (i :: List.range' (i + 1) l.length) :: k)) cs⟩,hK _ fun v=>⟨a.put dst v,⟨(ha.put hd v).size,(ha.put hd v).defers,(ha.put hd v).get⟩,served_at ho v⟩,.inl ⟨rfl,rfl,rfl,rfl,fun w=>?_⟩⟩
 have hr:(execOp a.eval ⟨dst,.recv T x false,ty,ps,af,none⟩).run P w = .ok (.comm #[rcase c z] true (.recv false)) w:=by
  rw [ha.eval]
  obtain ⟨inf,hi,hz'⟩:=Option.bind_eq_some_iff.1 hz
  simp [execOp,hx,run_underlying hT,zeroValue,typeInfo,hi,hz',rcase,go_sem]
 show stepG P main (G (b.at a (.inRegion ops (i :: List.range' (i + 1) l.length) :: k)) cs) w = _
 have hq:(execOp a.eval ⟨dst,.recv T x false,ty,ps,af,none⟩).events P w #[] = #[]:=by
  rw [ha.eval]
  obtain ⟨inf,hi,hz'⟩:=Option.bind_eq_some_iff.1 hz
  simp [execOp,hx,run_underlying hT,zeroValue,typeInfo,hi,hz',go_sem]
 rw [stepG_comm ho (by rw [ha.yielded]; rfl) hk hr,listed,hq,seen_none]
theorem send_comm {c:Nat} {v:Value} {a:Act} {rest:List Nat} (hk:b.kind ≠ .early) (ho:ops[i]? = some ⟨dst,.send x y,ty,ps,af,none⟩) (hx:a.eval x = .chan (some c)) (hy:a.eval y = v) (w:World) :
  stepG P main (G (b.at a (.inRegion ops (i :: rest) :: k)) cs) w = .comm (G (b.at a (.inRegion ops (i :: rest) :: k)) cs) #[scase c v (.tuple #[])] true .send w #[]:=by
 rw [stepG_comm (cases:=#[scase c v (.tuple #[])]) (blocking:=true) (shape:=.send) (w':=w) ho rfl hk (by simp [execOp,hx,hy,scase]),listed]
 have:(execOp a.eval ⟨dst,.send x y,ty,ps,af,none⟩).events P w #[] = #[]:=rfl
 rw [this,seen_none]
theorem go_spawn {f:FuncId} {asx:Array Operand} {ats:Array TypeId} {a:Act} {rest:List Nat} (hk:b.kind ≠ .early) (ho:ops[i]? = some ⟨dst,.go { callee:=.value (.func f),args:=asx,argTypes:=ats },ty,ps,af,none⟩) (w:World) :
  stepG P main (G (b.at a (.inRegion ops (i :: rest) :: k)) cs) w = .spawn (G (b.at (a.put dst undef) (.inRegion ops rest :: k)) cs) (born P (dcall f (asx.map a.eval))) w #[]:=by
 have ef:a.eval (.func f) = .func (.func f) #[] #[]:=rfl
 have hr:(execOp a.eval ⟨dst,.go { callee:=.value (.func f),args:=asx,argTypes:=ats },ty,ps,af,none⟩).run P w = .ok (.spawn (dcall f (asx.map a.eval))) w:=by
  unfold execOp
  simp [resolve,Deferred.ofValue,ef,dcall]
 have he:(execOp a.eval ⟨dst,.go { callee:=.value (.func f),args:=asx,argTypes:=ats },ty,ps,af,none⟩).events P w #[] = #[]:=by
  unfold execOp
  simp [resolve,Deferred.ofValue,ef]
 rw [stepG_spawn ho rfl hk hr rfl,listed,he,seen_none]
end
section
variable {P:Program} {main:Bool} {b c:Frame} {a:Act} {k todo:List Item} {cs:List Frame} {w:World} {ops:Array Oper} {i:Nat} {rest:List Nat} {o:Oper} {f:FuncId} {fn:Func} {args caps:Array Value} {ds:List Deferred}
theorem step_enterD {md:FrameMode} {body:Code} (hmd:md ≠ .run) (hd:a.defers = { target:=.fn (.func f) caps,args:=args } :: ds) (hf:P.funcs[f]? = some fn) (hname:(fn.name == "runtime.NumGoroutine") = false) (hb:fn.body = some body) :
  stepG P main (G { b.at a todo with mode:=md } cs) w = .go (G ((baseD f).at { tmps:=(args ++ caps) ++ Array.replicate (fn.ntmps - (args ++ caps).size) undef,defers:=[] } [.code body]) ({ b.at ⟨a.tmps,ds⟩ todo with mode:=md } :: cs)) w #[]:=by
 have h1:¬ fn.name = "runtime.NumGoroutine":=by simpa using hname
 rw [<- enter_atD (args ++ caps) hf hb]
 cases md with
 | run=>exact absurd rfl hmd
 | returning=>simp [G,stepG,unwind,callDeferred,Frame.at,hd,invoke,callFunc,hf,h1,hb,GStep.after,seen_none]
 | panicking ch=>simp [G,stepG,unwind,callDeferred,Frame.at,hd,invoke,callFunc,hf,h1,hb,GStep.after,seen_none]
theorem recover_run {ρ:Operand->Value} {dst:Option Nat} {ty:TypeId} {ps:String} {af:Array Edge}:((execOp ρ ⟨dst,.call { callee:=.builtin .recover,args:=#[],argTypes:=#[] },ty,ps,af,none⟩).run P w = .ok .recover w)/\(execOp ρ ⟨dst,.call { callee:=.builtin .recover,args:=#[],argTypes:=#[] },ty,ps,af,none⟩).events P w #[] = #[]:=by
 constructor <;> simp [execOp,resolve,invoke,builtin]
theorem step_recover_no {dst:Option Nat} {ty:TypeId} {ps:String} {af:Array Edge} (ho:ops[i]? = some ⟨dst,.call { callee:=.builtin .recover,args:=#[],argTypes:=#[] },ty,ps,af,none⟩) (hk:b.kind = .deferred) (hr:b.roundOf = none) (hc:c.mode = .returning) :
  stepG P main (G (b.at a (.inRegion ops (i :: rest) :: k)) (c :: cs)) w = .go (G (b.at (a.put dst .nilIface) (.inRegion ops rest :: k)) (c :: cs)) w #[]:=by
 have hfin:(b.at a (.inRegion ops (i :: rest) :: k)).finish .nilIface = b.at (a.put dst .nilIface) (.inRegion ops rest :: k):=by rw [Frame.finish_at,ho]; rfl
 rw [stepG_oper ho rfl,<- hfin]
 simp [stepG.apply,recover_run,G,Frame.at,hk,tryRecover,hc,GStep.after,seen_none]
theorem step_recover_yes {dst:Option Nat} {ty:TypeId} {ps:String} {af:Array Edge} {v:Value} {older:List PanicEntry} (ho:ops[i]? = some ⟨dst,.call { callee:=.builtin .recover,args:=#[],argTypes:=#[] },ty,ps,af,none⟩) (hk:b.kind = .deferred) (hr:b.roundOf = none) (hc:c.mode = .panicking ({ v,recovered:=false } :: older)) :
  stepG P main (G (b.at a (.inRegion ops (i :: rest) :: k)) (c :: cs)) w = .go (G (b.at (a.put dst v) (.inRegion ops rest :: k)) ({ c with mode:=.panicking ({ v,recovered:=true } :: older) } :: cs)) w #[]:=by
 have hfin:(b.at a (.inRegion ops (i :: rest) :: k)).finish v = b.at (a.put dst v) (.inRegion ops rest :: k):=by rw [Frame.finish_at,ho]; rfl
 rw [stepG_oper ho rfl,<- hfin]
 simp [stepG.apply,recover_run,G,Frame.at,hk,tryRecover,hc,GStep.after,seen_none]
theorem step_leave_saved {v v':Value} {older:List PanicEntry} (hn:b.kind = .deferred) (hd:a.defers = []) (hf:P.funcs[b.fn]? = some fn) (hr:(results fn a.tmps).run P w = .ok v w) (he:(results fn a.tmps).events P w #[] = #[])
  (hc:c.mode = .panicking ({ v:=v',recovered:=true } :: older)) (ho:older.dropWhile (!·.goexit) = []) :
  stepG P main (G { b.at a todo with mode:=.returning } (c :: cs)) w = .go (G { c with mode:=.returning } cs) w #[]:=by
 simp [G,stepG,unwind,doReturn,Frame.at,hn,hd,hf,hr,he,hc,ho,seen,GStep.after]
theorem step_deferV {dst:Option Nat} {ty:TypeId} {ps:String} {af:Array Edge} {x:Operand} (ho:ops[i]? = some ⟨dst,.defer { callee:=.value x,args:=#[],argTypes:=#[] },ty,ps,af,none⟩) (hk:b.kind ≠ .early) (hx:a.eval x = .func (.func f) #[] caps) :
  stepG P main (G (b.at a (.inRegion ops (i :: rest) :: k)) cs) w = .go (G (b.at (Act.put ⟨a.tmps,{ target:=.fn (.func f) caps,args:=#[] } :: a.defers⟩ dst undef) (.inRegion ops rest :: k)) cs) w #[]:=by
 have hr:(execOp a.eval ⟨dst,.defer { callee:=.value x,args:=#[],argTypes:=#[] },ty,ps,af,none⟩).run P w = .ok (.defer { target:=.fn (.func f) caps,args:=#[] }) w:=by
  simp [execOp,resolve,Deferred.ofValue,hx]
 have he:(execOp a.eval ⟨dst,.defer { callee:=.value x,args:=#[],argTypes:=#[] },ty,ps,af,none⟩).events P w #[] = #[]:=by
  simp [execOp,resolve,Deferred.ofValue,hx]
 have hfin:(b.at ⟨a.tmps,{ target:=.fn (.func f) caps,args:=#[] } :: a.defers⟩ (.inRegion ops (i :: rest) :: k)).finish undef = b.at (Act.put ⟨a.tmps,{ target:=.fn (.func f) caps,args:=#[] } :: a.defers⟩ dst undef) (.inRegion ops rest :: k):=by rw [Frame.finish_at,ho]; rfl
 have hk':(b.kind == CallKind.early) = false:=by simpa using hk
 rw [stepG_oper ho rfl,<- hfin]
 simp [stepG.apply,hr,he,G,Frame.at,hk',GStep.after,seen_none]
def bornF (P:Program):Frame:={ fn:=P.funcs.size,tmps:=#[],todo:=[],defers:=[],mode:=.panicking [goexitEntry],kind:=.normal,roundOf:=none }
theorem step_born {body:Code} (hf:P.funcs[f]? = some fn) (hname:(fn.name == "runtime.NumGoroutine") = false) (hb:fn.body = some body) :
  stepG P main (born P (dcall f args)) w = .go (G ((baseD f).at { tmps:=args ++ Array.replicate (fn.ntmps - args.size) undef,defers:=[] } [.code body]) [bornF P]) w #[]:=by
 have h1:¬ fn.name = "runtime.NumGoroutine":=by simpa using hname
 rw [<- enter_atD args hf hb]
 simp [born,G,stepG,unwind,callDeferred,dcall,invoke,callFunc,hf,h1,hb,GStep.after,seen_none,bornF]
 exact ⟨rfl,rfl,rfl,rfl⟩
theorem step_home (hn:b.kind = .deferred) (hd:a.defers = []) (hf:P.funcs[b.fn]? = some fn) {v:Value} (hr:(results fn a.tmps).run P w = .ok v w) (he:(results fn a.tmps).events P w #[] = #[]) :
  stepG P main (G { b.at a todo with mode:=.returning } [bornF P]) w = .go (G (bornF P) []) w #[]:=by
 simp [G,stepG,unwind,doReturn,Frame.at,hn,hd,hf,hr,he,seen,GStep.after,bornF,goexitEntry]
theorem step_dead:stepG P main (G (bornF P) []) w = .go { frame:=bornF P,callers:=[],status:=.finished,dying:=none } w #[]:=by
 simp [G,stepG,unwind,bornF,goexitEntry,Frame.catches]
end
end Go.Vy
end
/- More rules at the level of one condition; the holder's condition. Nothing here speaks of a program. -/
section
namespace Go.Vy
open Go Go.Conc Go.Yc Go.RowKit
open Go.Vc Go.Wg
section
variable {P:Program} [Ctx P] {Z:Goroutine->World->Prop} {Q:Exit->Act->World->Prop} {ops:Array Oper} {b:Frame} {k:List Item} {cs:List Frame} {n:Nat} {e:Env} {w:World}
theorem ZA.condT (hZ:Ctx.Zs P Z) {c:Operand} {x y:Code} (hc:ev e c = .bool true) (h:ZA Z n b cs e (.code x :: k) w):ZA Z n b cs e (.code (.cond c x y) :: k) w:=ZA.cond hZ (t:=true) hc h
theorem ZA.condF (hZ:Ctx.Zs P Z) {c:Operand} {x y:Code} (hc:ev e c = .bool false) (h:ZA Z n b cs e (.code y :: k) w):ZA Z n b cs e (.code (.cond c x y) :: k) w:=ZA.cond hZ (t:=false) hc h
theorem ZA.W (hZ:Ctx.Zs P Z) (hb:b.kind ≠ .early) {c:Code} (h:Vy.W P n c (thenE (fun e' w'=>ZA Z n b cs e' k w') fun _ _ _=>False) e w):ZA Z n b cs e (.code c :: k) w:=ZA.piece hZ hb h fun _ _ h=>h
theorem ZA.panics (hZ:Ctx.Zs P Z) (hb:b.kind ≠ .early) {c:Code} (h:Vy.W P n c (fun x e' w'=>∃ ch,x = .panic ch/\∀ a todo,Rep n a e'->Z (G { b.at a todo with mode:=.panicking ch } cs) w') e w):ZA Z n b cs e (.code c :: k) w:=by
 intro a ha
 refine h a ha Z hZ b k cs hb fun x a' w' hx=>?_
 obtain ⟨e',r,ch,rfl,hq⟩:=hx
 exact fun todo=>hq a' todo r
theorem L.panicI {x:Operand} {ty:TypeId} {ps:String} {af:Array Edge} {rest:List Oper} {Q:Exit->Env->World->Prop} {t:TypeId} {v0:Value} (hx:ev e x = .iface t v0) (k:Q (.panic [{ v:=.iface t v0,recovered:=false }]) e w):L P n ops Q (⟨none,.panic x,ty,ps,af,none⟩ :: rest) e w:=by
 refine L.panic' rfl ⟨rfl,rfl,fun τ d ρ x' hs=>⟨Evo.refl _,x',#[],?_,hs,fun e he=>by simp at he⟩⟩ k
 rw [Sem.runT_eq]
 have h1:(execOp (ev e) ⟨none,.panic x,ty,ps,af,none⟩).run P x' = .halt (.panic (.iface t v0)) x':=by simp [execOp,Instr.panic,hx]
 have h2:(execOp (ev e) ⟨none,.panic x,ty,ps,af,none⟩).events P x' #[] = #[]:=by simp [execOp,Instr.panic,hx]
 rw [h1,h2]; rfl
end
section
variable {P:Program} {Z:Goroutine->World->Prop} {Q:Exit->Act->World->Prop} {ops:Array Oper} {b:Frame} {k:List Item} {cs:List Frame} {n:Nat} {e:Env} {w:World}
theorem ZA.leaves {fn:Func} {f:FuncId} (hb:b = base f) (hf:P.funcs[f]? = some fn) (hr:fn.results = #[]) (h:∀ fr,fr.fn = f->Leaves P fr w (.returned (.tuple #[]))->Z (G fr cs) w):ZR Z n b cs e w:=by
 intro todo a ha
 subst hb
 refine h _ rfl ⟨rfl,ha.defers,rfl,fn,hf,resDoes_pure (fun w=>results_none hr _ P w) (fun w=>events_results_none hr _ _)⟩
end
section
variable {P:Program} [Ctx P] {Z:Goroutine->World->Prop} {Q:Exit->Act->World->Prop} {ops:Array Oper} {b:Frame} {k:List Item} {cs:List Frame} {n:Nat} {e:Env} {w:World}
theorem ZA.call (hZ:Ctx.Zs P Z) (hb:b.kind ≠ .early) {i:Nat} {rest:List Nat} {o:Oper} {f:FuncId} {args:Array Value} (ho:ops[i]? = some o) (hg:o.guard = none) (hr:Does P (execOp (ev e) o) w (.enter f args) w)
  (h:∀ a,Rep n a e->Z (G (Frame.enter P f args .normal) (b.at a (.inRegion ops (i :: rest) :: k) :: cs)) w):ZA Z n b cs e (.inRegion ops (i :: rest) :: k) w:=by
 intro a ha
 have hw:Region.wanted o (yielded ops a.tmps) = true:=by
  obtain ⟨d,op,ty,ps,af,g⟩:=o
  cases hg; rfl
 refine (Ctx.cl Z hZ).own _ _ rfl fun τ d=>?_
 refine ⟨_,onT w τ d,w.drawn,⟨rfl,fun ρ x hx=>?_⟩,h a ha⟩
 obtain ⟨h1,x',es,h2,h3,h4⟩:=hr.go τ d ρ x hx
 rw [Sem.runT_eq] at h2
 obtain ⟨h5,h6⟩:=Prod.mk.inj h2
 refine ⟨h1,x',seen P b.fn es,?_,h3,fun e he=>h4 e (mem_seen he)⟩
 have h5':(execOp a.eval o).run P x = .ok (.enter f args) x':=by rw [ha.eval]; exact h5
 rw [stepG_enter ho hw hb h5',listed,ha.eval,h6]
theorem ZA.home {i:Nat} {rest:List Nat} {o:Oper} (ho:ops[i]? = some o) (hd:dstB n o.dst = true) {v:Value} {w':World} {a:Act} (ha:Rep n a e) (h:ZA Z n b cs (updO e o.dst v) (.inRegion ops rest :: k) w'):Z (G ((b.at a (.inRegion ops (i :: rest) :: k)).finish v) cs) w':=by
 have hfin:(b.at a (.inRegion ops (i :: rest) :: k)).finish v = b.at (a.put o.dst v) (.inRegion ops rest :: k):=by rw [Frame.finish_at,ho]; rfl
 rw [hfin]
 exact h _ (ha.put hd v)
end
section
variable {P:Program} {Z:Goroutine->World->Prop} {Q:Exit->Act->World->Prop} {ops:Array Oper} {b:Frame} {k:List Item} {cs:List Frame} {n:Nat} {e:Env} {w:World}
theorem ZA.back {Z':Goroutine->World->Prop} {main:Bool} (hZ':Cl P main Z') {i:Nat} {rest:List Nat} {o:Oper} (ho:ops[i]? = some o) (hd:dstB n o.dst = true) {v:Value} {w':World} {fr:Frame} {a:Act} (ha:Rep n a e) (hl:Leaves P fr w' (.returned v))
  (h:ZA Z' n b cs (updO e o.dst v) (.inRegion ops rest :: k) w'):Z' (G fr (b.at a (.inRegion ops (i :: rest) :: k) :: cs)) w':=by
 refine leave_returned hZ' hl ?_
 have hfin:(b.at a (.inRegion ops (i :: rest) :: k)).finish v = b.at (a.put o.dst v) (.inRegion ops rest :: k):=by rw [Frame.finish_at,ho]; rfl
 rw [hfin]
 exact h _ (ha.put hd v)
end
section
variable {P:Program} [Ctx P] {Z:Goroutine->World->Prop} {Q:Exit->Act->World->Prop} {ops:Array Oper} {b:Frame} {k:List Item} {cs:List Frame} {n:Nat} {e:Env} {w:World}
end
section
variable {P:Program} [Ctx P] {Z:Goroutine->World->Prop} {ops:Array Oper} {b c:Frame} {k:List Item} {cs:List Frame} {n:Nat} {e:Env} {w:World} {i:Nat} {rest:List Nat} {dst:Option Nat} {ty:TypeId} {ps:String} {af:Array Edge}
theorem ZA.recoverNo (hZ:Ctx.Zs P Z) (ho:ops[i]? = some ⟨dst,.call { callee:=.builtin .recover,args:=#[],argTypes:=#[] },ty,ps,af,none⟩) (hd:dstB n dst = true) (hk:b.kind = .deferred) (hr:b.roundOf = none) (hc:c.mode = .returning) (h:ZA Z n b (c :: cs) (updO e dst .nilIface) (.inRegion ops rest :: k) w):ZA Z n b (c :: cs) e (.inRegion ops (i :: rest) :: k) w :=
 fun _a ha=>(Ctx.cl Z hZ).ctl rfl rfl (fun _w=>step_recover_no ho hk hr hc) (h _ (ha.put hd _))
theorem ZA.recoverYes (hZ:Ctx.Zs P Z) {v:Value} {older:List PanicEntry} (ho:ops[i]? = some ⟨dst,.call { callee:=.builtin .recover,args:=#[],argTypes:=#[] },ty,ps,af,none⟩) (hd:dstB n dst = true) (hk:b.kind = .deferred) (hr:b.roundOf = none) (hc:c.mode = .panicking ({ v,recovered:=false } :: older)) (h:ZA Z n b ({ c with mode:=.panicking ({ v,recovered:=true } :: older) } :: cs) (updO e dst v) (.inRegion ops rest :: k) w):ZA Z n b (c :: cs) e (.inRegion ops (i :: rest) :: k) w :=
 fun _a ha=>(Ctx.cl Z hZ).ctl rfl rfl (fun _w=>step_recover_yes ho hk hr hc) (h _ (ha.put hd _))
def Saved (c c':Frame):Prop:=(c.mode = .returning/\c' = c)\/∃ v older,older.dropWhile (!·.goexit) = []/\c' = { c with mode:=.panicking ({ v,recovered:=true } :: older) }
theorem ZA.recover (hZ:Ctx.Zs P Z) (ho:ops[i]? = some ⟨dst,.call { callee:=.builtin .recover,args:=#[],argTypes:=#[] },ty,ps,af,none⟩) (hd:dstB n dst = true) (hk:b.kind = .deferred) (hr:b.roundOf = none) (hc:c.mode = .returning\/∃ v older,c.mode = .panicking ({ v,recovered:=false } :: older)/\older.dropWhile (!·.goexit) = [])
  (h:∀ c' v,Saved c c'->ZA Z n b (c' :: cs) (updO e dst v) (.inRegion ops rest :: k) w):ZA Z n b (c :: cs) e (.inRegion ops (i :: rest) :: k) w:=by
 rcases hc with hc | ⟨v,older,hc,ho'⟩
 ·exact ZA.recoverNo hZ ho hd hk hr hc (h c _ (.inl ⟨hc,rfl⟩))
 ·exact ZA.recoverYes hZ ho hd hk hr hc (h _ _ (.inr ⟨v,older,ho',rfl⟩))
theorem ZA.region (hZ:Ctx.Zs P Z) {id:Nat} (h:ZA Z n b cs e (.inRegion ops (List.range ops.size) :: k) w):ZA Z n b cs e (.code (.region id ops false) :: k) w:=ZA.c hZ (fun _ _=>stepG_region) h
def ZD (Z:Goroutine->World->Prop) (n:Nat) (b:Frame) (cs:List Frame) (ds:List Deferred) (e:Env) (todo:List Item) (w:World):Prop:=∀ a,RepD n a e ds->Z (G (b.at a todo) cs) w
variable {ds:List Deferred}
theorem ZA.zd (h:ZD Z n b cs [] e k w):ZA Z n b cs e k w:=fun a ha=>h a (repDr ha) where repDr {n:Nat} {a:Act} {e:Env} (h:Rep n a e):RepD n a e []:=⟨h.size,h.defers,h.get⟩
theorem ZD.ctl (hZ:Ctx.Zs P Z) {todo todo':List Item} (hs:∀ a w,stepG P (Ctx.main P) (G (b.at a todo) cs) w = .go (G (b.at a todo') cs) w #[]) (h:ZD Z n b cs ds e todo' w):ZD Z n b cs ds e todo w:=fun a ha=>(Ctx.cl Z hZ).ctl rfl rfl (hs a) (h a ha)
theorem ZD.seq (hZ:Ctx.Zs P Z) {x y:Code} (h:ZD Z n b cs ds e (.code x :: .code y :: k) w):ZD Z n b cs ds e (.code (.seq x y) :: k) w:=ZD.ctl hZ (fun _ _=>stepG_seq) h
theorem ZD.region (hZ:Ctx.Zs P Z) {id:Nat} (h:ZD Z n b cs ds e (.inRegion ops (List.range ops.size) :: k) w):ZD Z n b cs ds e (.code (.region id ops false) :: k) w:=ZD.ctl hZ (fun _ _=>stepG_region) h
theorem ZD.endRegion (hZ:Ctx.Zs P Z) (h:ZD Z n b cs ds e k w):ZD Z n b cs ds e (.inRegion ops [] :: k) w:=ZD.ctl hZ (fun _ _=>stepG_region_end) h
variable {op:Op} {d:Nat} {v:Value} {w':World}
theorem ZD.va (hZ:Ctx.Zs P Z) (hb:b.kind ≠ .early) (ho:ops[i]? = some ⟨some d,op,ty,ps,af,none⟩) (hd:dstB n (some d) = true) (hr:Does P (execOp (ev e) ⟨some d,op,ty,ps,af,none⟩) w (.val v) w') (h:ZD Z n b cs ds (upd e d v) (.inRegion ops rest :: k) w'):ZD Z n b cs ds e (.inRegion ops (i :: rest) :: k) w:=by
 intro a ha
 refine z_oper (Q:=fun _ _ _=>False) hZ hb (fun _ _ _ hx=>hx.elim) ho ?_
 show opwp P _ a w _ _
 refine opwp_does (r:=.val v) (w':=w') (by rw [ha.eval]; exact hr) ?_
 exact h _ (ha.put hd v)
theorem ZD.st (hZ:Ctx.Zs P Z) (hb:b.kind ≠ .early) (ho:ops[i]? = some ⟨none,op,ty,ps,af,none⟩) (hr:Does P (execOp (ev e) ⟨none,op,ty,ps,af,none⟩) w .skip w') (h:ZD Z n b cs ds e (.inRegion ops rest :: k) w'):ZD Z n b cs ds e (.inRegion ops (i :: rest) :: k) w:=by
 intro a ha
 refine z_oper (Q:=fun _ _ _=>False) hZ hb (fun _ _ _ hx=>hx.elim) ho ?_
 show opwp P _ a w _ _
 refine opwp_does (r:=.skip) (w':=w') (by rw [ha.eval]; exact hr) ?_
 exact h _ ha
theorem ZD.defer (hZ:Ctx.Zs P Z) (hb:b.kind ≠ .early) {f:FuncId} {asx:Array Operand} {ats:Array TypeId} {vs:Array Value} (ho:ops[i]? = some ⟨none,.defer { callee:=.value (.func f),args:=asx,argTypes:=ats },ty,ps,af,none⟩) (hv:asx.map (ev e) = vs) (h:ZD Z n b cs (dcall f vs :: ds) e (.inRegion ops rest :: k) w):ZD Z n b cs ds e (.inRegion ops (i :: rest) :: k) w:=by
 intro a ha
 refine (Ctx.cl Z hZ).ctl rfl rfl (fun w=>stepG_defer ho rfl hb rfl) ?_
 rw [ha.eval,hv,ha.defers]
 exact h _ ⟨ha.size,rfl,ha.get⟩
theorem ZD.deferV (hZ:Ctx.Zs P Z) (hb:b.kind ≠ .early) {f:FuncId} {caps:Array Value} {x:Operand} (ho:ops[i]? = some ⟨none,.defer { callee:=.value x,args:=#[],argTypes:=#[] },ty,ps,af,none⟩) (hx:ev e x = .func (.func f) #[] caps) (h:ZD Z n b cs ({ target:=.fn (.func f) caps,args:=#[] } :: ds) e (.inRegion ops rest :: k) w):ZD Z n b cs ds e (.inRegion ops (i :: rest) :: k) w:=by
 intro a ha
 refine (Ctx.cl Z hZ).ctl rfl rfl (fun w=>step_deferV ho hb (by rw [ha.eval]; exact hx)) ?_
 rw [ha.defers]
 exact h _ ⟨ha.size,rfl,ha.get⟩
theorem ZD.call (hZ:Ctx.Zs P Z) (hb:b.kind ≠ .early) {f:FuncId} {args:Array Value} (ho:ops[i]? = some ⟨dst,op,ty,ps,af,none⟩) (hr:Does P (execOp (ev e) ⟨dst,op,ty,ps,af,none⟩) w (.enter f args) w)
  (h:∀ a,RepD n a e ds->Z (G (Frame.enter P f args .normal) (b.at a (.inRegion ops (i :: rest) :: k) :: cs)) w):ZD Z n b cs ds e (.inRegion ops (i :: rest) :: k) w:=by
 intro a ha
 refine (Ctx.cl Z hZ).own _ _ rfl fun τ d=>?_
 refine ⟨_,onT w τ d,w.drawn,⟨rfl,fun ρ x hx=>?_⟩,h a ha⟩
 obtain ⟨h1,x',es,h2,h3,h4⟩:=hr.go τ d ρ x hx
 rw [Sem.runT_eq] at h2
 obtain ⟨h5,h6⟩:=Prod.mk.inj h2
 refine ⟨h1,x',seen P b.fn es,?_,h3,fun e he=>h4 e (mem_seen he)⟩
 have h5':(execOp a.eval ⟨dst,op,ty,ps,af,none⟩).run P x = .ok (.enter f args) x':=by rw [ha.eval]; exact h5
 rw [stepG_enter ho rfl hb h5',listed,ha.eval,h6]
end
section
variable {P:Program} {Post:Value->World->Prop} {X:Gh} {h:Nat} {H:Hid} {u:World}
theorem fin_zs:@Ctx.Zs P (baseCtx P (h == 0)) (Fin P Post X h):=⟨fin_cl P Post X h,fin_ign⟩
theorem finH_zs:@Ctx.Zs P (baseCtx P (h == 0)) (FinH P Post X h H):=⟨finH_cl H,fun _g _u hz hH=>fin_ign _ _ fun hv=>hz (noView_under hH hv) hH⟩
theorem fin_see (V:Nat->Prop) [DecidablePred V] {g:Goroutine} {U:World} (hf:FinH P Post X h (hidOf V U) g (seeOf V U)):Fin P Post X h g U :=
 fin_ign _ _ fun hv=>by have:=hf (hidOf_ok hv); rwa [over_see] at this
theorem At.endRegion {main:Bool} {ok:Event->Prop} {Y:Nat->Nat->Goroutine->Prop} {ft n d:Nat} {b:Frame} {cs:List Frame} {ds:List Deferred} {e:Env} {k:List Item} {ops:Array Oper} (hY:HF P main ok Y) (h:At Y ft n b cs ds d e k):At Y (ft + 1) n b cs ds d e (.inRegion ops [] :: k):=At.c hY (fun _ _=>stepG_region_end) h
theorem rep_args {n:Nat} (args:Array Value) (m:Nat) (hn:args.size + (m - args.size) = n):Rep n { tmps:=args ++ Array.replicate (m - args.size) undef,defers:=[] } (Vc.argE args):=by
 have:=repD_args args m hn
 exact ⟨this.size,this.defers,this.get⟩
theorem repD_rep {n:Nat} {a:Act} {e:Env} (h:Rep n a e):RepD n a e []:=⟨h.size,h.defers,h.get⟩
variable {n ft:Nat} {b:Frame} {cs:List Frame} {e:Env} {k:List Item} {ops:Array Oper} {i:Nat} {rest:List Nat} {ty:TypeId} {ps:String} {af:Array Edge} {x y:Operand} {v:Value} {w:World}
theorem ZA.more [Ctx P] {Z:Goroutine->World->Prop} (hZ:Ctx.Zs P Z) (hb:b.kind ≠ .early) {l:List Oper} (i:Nat) (hB:regB n l = true) (h:L P n l.toArray (thenE (fun e' w'=>ZA Z n b cs e' k w') fun _ _ _=>False) (l.drop i) e w):ZA Z n b cs e (.inRegion l.toArray (List.range' i (l.drop i).length) :: k) w:=by
 intro a ha
 have h1:=h (fun o ho=>List.all_eq_true.1 hB o (List.mem_of_mem_drop ho)) a ha
 have h2:=wpOps_take (l.drop i) i a w (fun j _=>by rw [List.getElem?_drop]; simp) h1
 have:=z_ops_pre (Z:=Z) (b:=b) (k:=k) (cs:=cs) (suf:=[]) hZ hb (fun ch a' w' hx=>by obtain ⟨_,_,hx⟩:=hx; exact hx.elim) (fun a' w' hx=>by
  obtain ⟨e',r,hq⟩:=hx
  exact ZA.endRegion hZ hq a' r) _ a w h2
 rwa [List.append_nil] at this
theorem ZA.give {j:Nat} {s:Seat1} {st:Stays} {K:Seat1->Prop} (hb:b.kind ≠ .early) (ho:ops[i]? = some ⟨none,.send x y,ty,ps,af,none⟩) (hx:ev e x = .chan (some s.ch)) (hy:ev e y = v) (hj:X.seat j = some s) (hjh:j ≠ h) (hdn:X.dn = 0) (hst:X.stay h = st)
  (hway:At (YS P (h == 0) st K) ft n b cs [] 0 e (.inRegion ops rest :: k)) (hsh:∀ s',K s'->X.chs s'.ch/\∀ i s2,i ≠ j->X.seat i = some s2->s2.ch ≠ s'.ch)
  (hF:∀ s',K s'->Fin P Post (X.pass h j (some s')) j (Go.Conc.served s.me v) w):ZA (Fin P Post X h) n b cs e (.inRegion ops (i :: rest) :: k) w:=by
 intro a ha
 have hput:a.put none undef = a:=rfl
 obtain ⟨s',hK,hw⟩:=hway a (repD_rep ha)
 refine Fin.give (a₂:=G (b.at a (.inRegion ops (i :: rest) :: k)) cs) (s:=s) (j:=j) (nh:=ft) (v:=v) (z':=.tuple #[]) rfl hj hjh hdn (send_comm hb ho (by rw [ha.eval]; exact hx) (by rw [ha.eval]; exact hy)) (some s') (fun s2 e2=>by cases e2; exact hsh s' hK) ?_ (hF s' hK)
 unfold Behind
 rw [served_at ho,hst]
 exact hw
theorem ZA.giveLast {j:Nat} {s:Seat1} {gr:Grp} (hb:b.kind ≠ .early) (ho:ops[i]? = some ⟨none,.send x y,ty,ps,af,none⟩) (hx:ev e x = .chan (some s.ch)) (hy:ev e y = v) (hj:X.seat j = some s) (hjh:j ≠ h) (hdn:X.dn = 0) (hh:0 < h) (hgr:X.grp = some gr)
  (hway:At (YLt P gr) ft n b cs [] 0 e (.inRegion ops rest :: k)) (hF:Fin P Post (X.pass h j none) j (Go.Conc.served s.me v) w):ZA (Fin P Post X h) n b cs e (.inRegion ops (i :: rest) :: k) w:=by
 intro a ha
 refine Fin.give (a₂:=G (b.at a (.inRegion ops (i :: rest) :: k)) cs) (s:=s) (j:=j) (nh:=ft) (v:=v) (z':=.tuple #[]) rfl hj hjh hdn (send_comm hb ho (by rw [ha.eval]; exact hx) (by rw [ha.eval]; exact hy)) none (fun s2 e2=>by cases e2) ?_ hF
 unfold Behind
 rw [served_at ho]
 exact ⟨hh,gr,hgr,hway a (repD_rep ha)⟩
theorem ZA.spawn {f:FuncId} {asx:Array Operand} {ats:Array TypeId} {st:Stays} {K:Seat1->Prop} {vs:Array Value} {gr:Grp} (hb:b.kind ≠ .early) (ho:ops[i]? = some ⟨none,.go { callee:=.value (.func f),args:=asx,argTypes:=ats },ty,ps,af,none⟩) (hvs:asx.map (ev e) = vs) (hdn:X.dn = 0) (hp:X.pend = 1) (hgr:X.grp = some gr) (hst:X.stay 0 = st)
  (hway:At (YS P true st K) ft n b cs [] 0 e (.inRegion ops rest :: k)) (hsh:∀ s',K s'->X.chs s'.ch/\∀ i s2,X.seat i = some s2->s2.ch ≠ s'.ch)
  (hF:∀ s',K s'->Fin P Post (X.hire s') X.n (born P (dcall f vs)) w):ZA (Fin P Post X 0) n b cs e (.inRegion ops (i :: rest) :: k) w:=by
 intro a ha
 have hput:a.put none undef = a:=rfl
 obtain ⟨s',hK,hw⟩:=hway a (repD_rep ha)
 refine Fin.spawn (g':=G (b.at (a.put none undef) (.inRegion ops rest :: k)) cs) (child:=born P (dcall f vs)) (s:=s') (nh:=ft) (G:=gr) rfl hdn hp hgr (fun w=>?_) (hsh s' hK).1 (hsh s' hK).2 (by rw [hst]; exact hw) (hF s' hK)
 rw [go_spawn hb ho,ha.eval,hvs]
theorem AtR.saved {Y:Nat->Nat->Goroutine->Prop} {main:Bool} {ok:Event->Prop} (hY:HF P main ok Y) {c c':Frame} {fn:Func} {todo:List Item} {d:Nat} (hs:Saved c c') (hn:b.kind = .deferred) (hf:P.funcs[b.fn]? = some fn) (hr:fn.results = #[]) (h:Y ft d (G { c with mode:=.returning } cs)):AtR Y (ft + 1) n b (c' :: cs) [] d e todo:=by
 intro a ha
 rcases hs with ⟨hc,rfl⟩ | ⟨v,older,ho,rfl⟩
 ·have:({ c' with mode:=.returning }:Frame) = c':=by rw [<- hc]
  rw [this] at h
  exact hY.c rfl rfl (fun w=>stepG_leave_deferred hn ha.defers hf (results_none hr _ P w) (events_results_none hr _ _) hc) h
 ·refine hY.c rfl rfl (fun w=>?_) h
  exact step_leave_saved hn ha.defers hf (results_none hr _ P w) (events_results_none hr _ _) rfl ho
end
end Go.Vy
end
/- A client's Step: up to its seat, and from there on. -/
section
namespace Go.Vy.Sc
open Go Go.Conc Go.Yc Go.RowKit Go.Proofs Go.Proofs.Ytfmoeemolgjodaa
open Go.Vc Go.Wg
structure StepMe (cs:List Frame) (cb:Nat) (df:Value) (me:Goroutine):Prop where
 yes:∀ (C0:Ctx Try.prog) (Z:Goroutine->World->Prop),@Ctx.Zs Try.prog C0 Z->∀ (u:World) (K:World->Prop),DoOk Try.prog C0 df u K->(∀ u2 fr,K u2->fr.fn = 18->Leaves Try.prog fr u2 (.returned (.tuple #[]))->Z (G fr cs) u2)->Z (Go.Conc.served me (.bool true)) u
 no:∀ Z,@Ctx.Zs Try.prog (baseCtx Try.prog false) Z->∀ (u:World) (S:Nat->Prop) (B:Nat) (w0:World) (Bs:Nat) (R:Rn) (i:Nat) (c:CB),Rg S B w0 u Bs R->R.cl[i]? = some c->c.cb = cb->(∀ u2 fr ch,Rg S B w0 u2 Bs { R with cl:=R.cl.set i { c with st:=true } }->fr.fn = 18->Raised ch->Leaves Try.prog fr u2 (.panicked ch)->Z (G fr cs) u2)->Z (Go.Conc.served me (.bool false)) u
theorem leaves_panic {f:FuncId} {fn:Func} {n:Nat} {a:Act} {e:Env} {todo:List Item} {ch:List PanicEntry} {w:World} (hf:Try.prog.funcs[f]? = some fn) (ha:Rep n a e):Leaves Try.prog { (base f).at a todo with mode:=.panicking ch } w (.panicked ch) :=
 ⟨rfl,ha.defers,by simp [Frame.catches,Frame.at,base,hf]⟩
theorem buT_0:Try.prog.built 78 [] = some #[]:=by kernel_rfl
theorem set_at {l:List CB} {i:Nat} {c c':CB} (h:l[i]? = some c):(l.set i c')[i]? = some c':=by
 have:=(List.getElem?_eq_some_iff.1 h).1
 simp [this]
theorem set_one {S:Nat->Prop} {B:Nat} {w0 w:World} {Bs:Nat} {R:Rn} {i:Nat} {c1 c2 c3 c4:CB} (h:Rg S B w0 w Bs { R with cl:=(((R.cl.set i c1).set i c2).set i c3).set i c4 }):Rg S B w0 w Bs { R with cl:=R.cl.set i c4 }:=by
 simpa using h
set_option maxRecDepth 20000 in
theorem step_fin {Post:Value->World->Prop} {X:Gh} {g:Nat} {S:Nat->Prop} {B:Nat} {w0:World} {Bs:Nat} {R:Rn} {w:World} {i:Nat} {c:CB} {s:Stp} {rf df:Value} {cs:List Frame} {z0:Value} {me0:Goroutine}
  (hg:Rg S B w0 w Bs R) (hc:R.cl[i]? = some c) (hst0:c.st = false) (hrf:rf.cells = #[rf]/\rf.oneCell' = true) (hdf:df.cells = #[df]/\df.oneCell' = true)
  (hg0:g ≠ 0) (hX0:X.seat 0 = some ⟨R.yb,z0,me0⟩) (hdn:X.dn = 0) (hst:X.stay g = [(⟨c.cb,2,none⟩,.chan (some c.rc))]) (hsh:X.chs c.rc/\∀ i s2,i ≠ 0->X.seat i = some s2->s2.ch ≠ c.rc)
  (hmain:∀ w' me,Rg S B w0 w' Bs { R with cl:=R.cl.set i { c with sp:=s,rf:=rf,df:=df,wt:=true } }->StepMe cs c.cb df me->Fin Try.prog Post (X.pass g 0 (some ⟨c.rc,.bool false,me⟩)) 0 (Go.Conc.served me0 (.int .i64 (i:Int))) w') :
  Fin Try.prog Post X g (G (Frame.enter Try.prog 18 #[.pointer (some ⟨c.cb,0,none⟩),stepV s,rf,df] .normal) cs) w:=by
 letI:Ctx Try.prog:=baseCtx Try.prog (g == 0)
 rw [enter_at _ Try.func18 rfl]
 refine (?_:ZA (Fin Try.prog Post X g) 63 (base 18) cs (Vc.argE #[.pointer (some ⟨c.cb,0,none⟩),stepV s,rf,df]) [.code (Try.f18.body.getD .skip)] w) _ (rep_args _ _ rfl)
 have hZ:Ctx.Zs Try.prog (Fin Try.prog Post X g):=fin_zs
 have hb:=bkn 18
 refine ZA.seq hZ ?_
 refine ZA.W hZ hb ?_
 refine W.region rfl ?_
 refine L.box (cs:=#[.int .i64 (s.kind),.int .i64 (s.obj),.int .i64 (s.num)]) rfl rfl (fun w b5 F5=>?_)
 have hg:=hg.keep F5.below
 have hB5:=F5.blk
 refine L.nil ?_
 refine T.nrm ?_
 show ZA _ _ _ _ _ _ _
 refine ZA.seq hZ ?_
 refine ZA.seq hZ ?_
 refine ZA.W hZ hb ?_
 refine W.region rfl ?_
 refine L.va (x_mvP rfl) ?_
 refine L.va (x_eqPtrNil rfl rfl Try.underlying50) ?_
 refine L.nil ?_
 refine T.nrm ?_
 show ZA _ _ _ _ _ _ _
 refine ZA.condF hZ rfl ?_
 refine ZA.skip hZ ?_
 refine ZA.seq hZ ?_
 refine ZA.seq hZ ?_
 refine ZA.W hZ hb ?_
 refine W.region rfl ?_
 refine L.va (x_mvP rfl) ?_
 refine L.va (x_nilCheck rfl) ?_
 refine L.va (x_field rfl Try.underlying76 rfl sz4 (by decide)) ?_
 refine L.va (x_load rfl Try.underlying4 rfl ((hg.m.blk i c hc).cellAt 10 (v:=.bool (c.st)) rfl)) ?_
 refine L.nil ?_
 refine T.nrm ?_
 show ZA _ _ _ _ _ _ _
 refine ZA.condF hZ (rb hst0) ?_
 refine ZA.skip hZ ?_
 refine ZA.seq hZ ?_
 refine ZA.W hZ hb ?_
 refine W.region rfl ?_
 refine L.va (x_mvP rfl) ?_
 refine L.va (x_mvP rfl) ?_
 refine L.va (x_mvP rfl) ?_
 refine L.va (x_mvP rfl) ?_
 refine L.va (x_loadAgg (cs:=[.int .i64 (s.kind),.int .i64 (s.obj),.int .i64 (s.num)]) rfl Try.underlying43 rfl sz43 rfl (hB5.aggAt rfl)) ?_
 refine L.va x_move ?_
 refine L.va x_move ?_
 refine L.va (x_nilCheck rfl) ?_
 refine L.va (x_field rfl Try.underlying76 rfl sz43 (by decide)) ?_
 refine L.stC (i:=i) (o:=3) (vs:=[.int .i64 (s.kind),.int .i64 (s.obj),.int .i64 (s.num)]) hg { c with sp:=s } hc rfl rfl rfl rfl sz43 rfl rfl (by decide) rfl (fun w hg hgr=>?_)
 try clear hgr
 refine L.va (x_nilCheck rfl) ?_
 refine L.va (x_field rfl Try.underlying76 rfl sz24 (by decide)) ?_
 refine L.stC (i:=i) (o:=6) (vs:=[rf]) hg { { c with sp:=s } with rf:=rf } (set_at hc) rfl rfl rfl (congrArg Array.toList hrf.1) sz24 rfl (by simp [hrf.2]) (by decide) rfl (fun w hg hgr=>?_)
 try clear hgr
 refine L.va (x_nilCheck rfl) ?_
 refine L.va (x_field rfl Try.underlying76 rfl sz1 (by decide)) ?_
 refine L.stC (i:=i) (o:=7) (vs:=[df]) hg { { { c with sp:=s } with rf:=rf } with df:=df } (set_at (set_at hc)) rfl rfl rfl (congrArg Array.toList hdf.1) sz1 rfl (by simp [hdf.2]) (by decide) rfl (fun w hg hgr=>?_)
 try clear hgr
 refine L.va (x_nilCheck rfl) ?_
 refine L.va (x_field rfl Try.underlying76 rfl sz4 (by decide)) ?_
 refine L.stC (i:=i) (o:=9) (vs:=[.bool true]) hg { { { { c with sp:=s } with rf:=rf } with df:=df } with wt:=true } (set_at (set_at (set_at hc))) rfl rfl rfl rfl sz4 rfl rfl (by decide) rfl (fun w hg hgr=>?_)
 try clear hgr
 refine L.nil ?_
 refine T.nrm ?_
 show ZA _ _ _ _ _ _ _
 refine ZA.seq hZ ?_
 refine ZA.lastL hZ hb 11 (fun w'=>Below w.heap.size w w') (by kernel_rfl) (by kernel_rfl) (by kernel_rfl) (by kernel_rfl) (Below.refl w.heap.size w).drew ?_
 refine D.va (fun w' hw'=>(x_mvP rfl)) ?_
 refine D.va (fun w' hw'=>(x_nilCheck rfl)) ?_
 refine D.va (fun w' hw'=>(x_field rfl Try.underlying76 rfl sz73 (by decide))) ?_
 refine D.va (fun w' hw'=>(x_load rfl Try.underlying73 rfl (((hg.m.blk i _ (set_at (set_at (set_at (set_at hc))))).keep hw').cellAt 1 (v:=.pointer (some ⟨R.rb,0,none⟩)) rfl))) ?_
 refine D.va (fun w' hw'=>(x_nilCheck rfl)) ?_
 refine D.va (fun w' hw'=>(x_field rfl Try.underlying91 rfl sz80 (by decide))) ?_
 refine D.va (fun w' hw'=>(x_load rfl Try.underlying80 rfl ((hg.m.run.keep hw').cellAt 7 (v:=.chan (some R.yb)) rfl))) ?_
 refine D.va (fun w' hw'=>(x_mvP rfl)) ?_
 refine D.va (fun w' hw'=>(x_nilCheck rfl)) ?_
 refine D.va (fun w' hw'=>(x_field rfl Try.underlying76 rfl sz3 (by decide))) ?_
 refine D.va (fun w' hw'=>(x_load rfl Try.underlying3 rfl (((hg.m.blk i _ (set_at (set_at (set_at (set_at hc))))).keep hw').cellAt 0 (v:=.int .i64 (i:Int)) rfl))) ?_
 refine D.nil (fun w hbw=>?_)
 have hg:=hg.keep hbw
 clear hbw
 refine ZA.give (i:=11) (rest:=[]) (s:=⟨R.yb,z0,me0⟩) (st:=[(⟨c.cb,2,none⟩,.chan (some c.rc))]) (K:=fun s=>s.ch = c.rc/\s.z = .bool false/\StepMe cs c.cb df s.me) (ft:=60) hb rfl rfl rfl hX0 hg0.symm hdn hst ?_ ?_ ?_
 ·have hg0b:(g == 0) = false:=by simpa using hg0
  rw [hg0b]
  have hY:=hf_way (P:=Try.prog) (main:=false) (l:=[((⟨c.cb,2,none⟩:Addr),Value.chan (some c.rc))]) (K:=fun s=>s.ch = c.rc/\s.z = .bool false/\StepMe cs c.cb df s.me)
  refine At.endRegion hY ?_
  refine At.seq hY ?_
  refine At.seq hY ?_
  refine At.region hY ?_
  refine AtL.val hY hb rfl (v:=.pointer (some ⟨c.cb,0,none⟩)) (pu_move rfl) ?_
  refine AtL.val hY hb rfl (pu_nilCheck rfl) ?_
  refine AtL.val hY hb rfl (pu_field rfl Try.underlying76 rfl sz74 (by decide)) ?_
  refine AtL.stay (v:=.chan (some c.rc)) hb rfl (by simp) rfl Try.underlying74 rfl ?_
  refine AtL.seat (E:=4) (z:=.bool false) hb Try.underlying74 zr4 rfl (fun me hs=>⟨rfl,rfl,⟨?_,?_⟩⟩) rfl
  ·intro C0 Z hZ w K hdo hK
   refine hs.go ?_
   letI:Ctx Try.prog:=C0
   refine ZA.more hZ hb 5 rfl ?_
   show L _ _ _ _ _ _ _
   refine L.va (x_asB rfl) ?_
   refine L.nil ?_
   refine T.nrm ?_
   show ZA _ _ _ _ _ _ _
   refine ZA.seq hZ ?_
   refine ZA.W hZ hb ?_
   refine W.region rfl ?_
   refine L.va (x_mvB rfl) ?_
   refine L.va (x_not rfl) ?_
   refine L.nil ?_
   refine T.nrm ?_
   show ZA _ _ _ _ _ _ _
   refine ZA.condF hZ rfl ?_
   refine ZA.skip hZ ?_
   refine ZA.seq hZ ?_
   rcases hdo with ⟨h1,h2⟩ | ⟨f,caps,⟨h1,fn,hf,hbd,hnm⟩,hcall⟩
   all_goals subst h1
   ·refine ZA.W hZ hb ?_
    refine W.region rfl ?_
    refine L.va x_move ?_
    refine L.va (x_neqFnNil (v:=.nilFunc) (b:=false) rfl (.inl ⟨rfl,rfl⟩) rfl Try.underlying1 ⟨_,_,_,rfl⟩) ?_
    refine L.nil ?_
    refine T.nrm ?_
    show ZA _ _ _ _ _ _ _
    refine ZA.condF hZ rfl ?_
    refine ZA.skip hZ ?_
    refine ZA.done hZ ?_
    exact ZA.leaves (fn:=Try.f18) (f:=18) rfl Try.func18 rfl (fun fr h8 h9=>hK _ fr h2 h8 h9)
   ·refine ZA.W hZ hb ?_
    refine W.region rfl ?_
    refine L.va x_move ?_
    refine L.va (x_neqFnNil (v:=.func (.func f) #[] caps) (b:=true) rfl (.inr ⟨_,_,_,rfl,rfl⟩) rfl Try.underlying1 ⟨_,_,_,rfl⟩) ?_
    refine L.nil ?_
    refine T.nrm ?_
    show ZA _ _ _ _ _ _ _
    refine ZA.condT hZ rfl ?_
    refine ZA.W hZ hb ?_
    refine W.region rfl ?_
    refine L.va x_move ?_
    refine L.call (x_callV0 rfl hf hbd hnm) hcall ?_
    rintro _ w h2
    refine L.nil ?_
    refine T.nrm ?_
    show ZA _ _ _ _ _ _ _
    refine ZA.done hZ ?_
    exact ZA.leaves (fn:=Try.f18) (f:=18) rfl Try.func18 rfl (fun fr h8 h9=>hK _ fr h2 h8 h9)
  ·intro Z hZ w S B w0 Bs R i c2 hg hc hcb hK
   refine hs.go ?_
   letI:Ctx Try.prog:=baseCtx Try.prog false
   skip
   refine ZA.more hZ hb 5 rfl ?_
   show L _ _ _ _ _ _ _
   refine L.va (x_asB rfl) ?_
   refine L.nil ?_
   refine T.nrm ?_
   show ZA _ _ _ _ _ _ _
   refine ZA.seq hZ ?_
   refine ZA.W hZ hb ?_
   refine W.region rfl ?_
   refine L.va (x_mvB rfl) ?_
   refine L.va (x_not rfl) ?_
   refine L.nil ?_
   refine T.nrm ?_
   show ZA _ _ _ _ _ _ _
   refine ZA.condT hZ rfl ?_
   refine ZA.seq hZ ?_
   refine ZA.W hZ hb ?_
   refine W.region rfl ?_
   refine L.va (x_mvP rfl) ?_
   refine L.va (x_nilCheck rfl) ?_
   refine L.va (x_field rfl Try.underlying76 rfl sz4 (by decide)) ?_
   refine L.stC (i:=i) (o:=10) (vs:=[.bool true]) hg { c2 with st:=true } hc rfl (by rw [hcb]; rfl) rfl rfl sz4 rfl rfl (by decide) rfl (fun w hg hgr=>?_)
   try clear hgr
   refine L.nil ?_
   refine T.nrm ?_
   show ZA _ _ _ _ _ _ _
   refine ZA.panics hZ hb ?_
   refine W.region rfl ?_
   refine L.va (x_build (parts:=[]) rfl buT_0) ?_
   refine L.va (x_makeIface (v:=.agg #[]) rfl Try.underlying78 rfl) ?_
   refine L.panicI rfl ⟨_,rfl,fun a todo ha=>?_⟩
   exact hK _ _ _ hg rfl ⟨_,_,rfl,rfl⟩ (leaves_panic Try.func18 ha)
 ·rintro s2 ⟨h1,_,_⟩; rw [h1]; exact hsh
 ·rintro ⟨ch,z,me⟩ ⟨h1,h2,h3⟩; cases h1; cases h2; exact hmain _ me (set_one hg) h3
end Go.Vy.Sc
end
/- A client's end. -/
section
namespace Go.Vy.Sc
open Go Go.Conc Go.Yc Go.RowKit Go.Proofs Go.Proofs.Ytfmoeemolgjodaa
open Go.Vc Go.Wg
attribute [local irreducible] KK
abbrev caps2 (a b:Nat):Array Value:=#[.pointer (some ⟨a,0,none⟩),.pointer (some ⟨b,0,none⟩)]
theorem lt_body (gr:Grp) {n:Nat} {a:Act} {todo:List Item} (hd:a.defers = [dcall 63 #[.pointer (some ⟨gr.blk,gr.off,none⟩)]]):∃ m,Lt Try.prog gr m 0 (G { (baseD 45).at a todo with mode:=.returning } [bornF Try.prog]):=by
 have hq:QuitsD Try.prog 2 0 (G { (baseD 45).at ⟨a.tmps,[]⟩ todo with mode:=.returning } [bornF Try.prog]):=by
  refine .inr ⟨rfl,_,#[],fun e he=>by simp at he,fun w=>step_home (fn:=Try.f45) rfl rfl Try.func45 (results_none rfl _ _ w) (events_results_none rfl _ _),?_⟩
  refine .inr ⟨rfl,_,#[],fun e he=>by simp at he,fun w=>step_dead,?_⟩
  exact ⟨rfl,rfl⟩
 obtain ⟨m,hm⟩:=done_lt gr (c:={ (baseD 45).at ⟨a.tmps,[]⟩ todo with mode:=.returning }) rfl hq
 refine ⟨m + 1,?_⟩
 exact (hf_lt Try.prog gr).c rfl rfl (fun w=>step_enterD (f:=63) (fn:=Try.f63) (caps:=#[]) (args:=#[.pointer (some ⟨gr.blk,gr.off,none⟩)]) (by simp) hd Try.func63 nm63 rfl) hm
theorem buU_0:Try.prog.built 78 [] = some #[]:=by kernel_rfl
set_option maxRecDepth 20000 in
theorem step_again {Z:Goroutine->World->Prop} (hZ:@Ctx.Zs Try.prog (baseCtx Try.prog false) Z) {rb0 i:Nat} {c:CB} {w0:World} (hC:BlkF w0 c.cb (c.cells rb0 i) 76 (0,3)) (hst:c.st = true) {s:Stp} {rf df:Value} {cs:List Frame}
  (hK:∀ w' fr ch,Below w0.heap.size w0 w'->fr.fn = 18->Raised ch->Leaves Try.prog fr w' (.panicked ch)->Z (G fr cs) w'):Z (G (Frame.enter Try.prog 18 #[.pointer (some ⟨c.cb,0,none⟩),stepV s,rf,df] .normal) cs) w0:=by
 letI:Ctx Try.prog:=baseCtx Try.prog false
 rw [enter_at _ Try.func18 rfl]
 refine (?_:ZA Z 63 (base 18) cs (Vc.argE #[.pointer (some ⟨c.cb,0,none⟩),stepV s,rf,df]) [.code (Try.f18.body.getD .skip)] w0) _ (rep_args _ _ rfl)
 have hb:=bkn 18
 have hb0:Below w0.heap.size w0 w0:=Below.refl _ _
 refine ZA.seq hZ ?_
 refine ZA.W hZ hb ?_
 refine W.region rfl ?_
 refine L.box (cs:=#[.int .i64 (s.kind),.int .i64 (s.obj),.int .i64 (s.num)]) rfl rfl (fun w b5 F5=>?_)
 have hb0:=cl_step hb0 F5.below
 have hC:=hC.keep F5.below
 have hB5:=F5.blk
 refine L.nil ?_
 refine T.nrm ?_
 show ZA _ _ _ _ _ _ _
 refine ZA.seq hZ ?_
 refine ZA.seq hZ ?_
 refine ZA.W hZ hb ?_
 refine W.region rfl ?_
 refine L.va (x_mvP rfl) ?_
 refine L.va (x_eqPtrNil rfl rfl Try.underlying50) ?_
 refine L.nil ?_
 refine T.nrm ?_
 show ZA _ _ _ _ _ _ _
 refine ZA.condF hZ rfl ?_
 refine ZA.skip hZ ?_
 refine ZA.seq hZ ?_
 refine ZA.seq hZ ?_
 refine ZA.W hZ hb ?_
 refine W.region rfl ?_
 refine L.va (x_mvP rfl) ?_
 refine L.va (x_nilCheck rfl) ?_
 refine L.va (x_field rfl Try.underlying76 rfl sz4 (by decide)) ?_
 refine L.va (x_load rfl Try.underlying4 rfl (hC.cellAt 10 (v:=.bool (c.st)) rfl)) ?_
 refine L.nil ?_
 refine T.nrm ?_
 show ZA _ _ _ _ _ _ _
 refine ZA.condT hZ (rb hst) ?_
 refine ZA.panics hZ hb ?_
 refine W.region rfl ?_
 refine L.va (x_build (parts:=[]) rfl buU_0) ?_
 refine L.va (x_makeIface (v:=.agg #[]) rfl Try.underlying78 rfl) ?_
 refine L.panicI rfl ⟨_,rfl,fun a todo ha=>?_⟩
 exact hK _ _ _ hb0 rfl ⟨_,_,rfl,rfl⟩ (leaves_panic Try.func18 ha)
set_option maxRecDepth 20000 in
theorem end0_fin {Post:Value->World->Prop} {X:Gh} {g:Nat} {S:Nat->Prop} {B:Nat} {w0:World} {Bs:Nat} {R:Rn} {w:World} {i:Nat} {c:CB} {z0:Value} {me0:Goroutine} {ab0 eb0:Nat} {en:Bool} {a45:Act} {todo45:List Item} {md:FrameMode}
  (hg:Rg S B w0 w Bs R) (hc:R.cl[i]? = some c) (hst:c.st = true) (hA:BlkF w ab0 #[.pointer (some ⟨c.cb,0,none⟩)] 50 (0,0)) (hE:BlkF w eb0 #[.bool en] 4 (0,0)) (hg0:0 < g) (hX0:X.seat 0 = some ⟨R.yb,z0,me0⟩) (hdn:X.dn = 0) (hgr0:X.grp = some ⟨R.rb,8⟩)
  (hmd:md = .returning\/∃ v older,md = .panicking ({ v,recovered:=false } :: older)/\older.dropWhile (!·.goexit) = []) (hd45:a45.defers = [dcall 63 #[.pointer (some ⟨R.rb,8,none⟩)]])
  (hmain:∀ w',Rg S B w0 w' Bs { R with ends:=R.ends.set i 0,cl:=R.cl.set i { c with wt:=false } }->Fin Try.prog Post (X.pass g 0 none) 0 (Go.Conc.served me0 (.int .i64 (i:Int))) w') :
  Fin Try.prog Post X g (G ((baseD 64).at { tmps:=((#[]:Array Value) ++ caps2 ab0 eb0) ++ Array.replicate (Try.f64.ntmps - ((#[]:Array Value) ++ caps2 ab0 eb0).size) undef,defers:=[] } [.code (Try.f64.body.getD .skip)]) [{ (baseD 45).at a45 todo45 with mode:=md },bornF Try.prog]) w:=by
 letI:Ctx Try.prog:=baseCtx Try.prog (g == 0)
 refine (?_:ZA (Fin Try.prog Post X g) 63 (baseD 64) [{ (baseD 45).at a45 todo45 with mode:=md },bornF Try.prog] (Vc.argE ((#[]:Array Value) ++ caps2 ab0 eb0)) [.code (Try.f64.body.getD .skip)] w) _ (rep_args _ _ rfl)
 have hZ:Ctx.Zs Try.prog (Fin Try.prog Post X g):=fin_zs
 have hb:=bkd 64
 have hi:i < R.m:=Nat.lt_of_lt_of_le (List.getElem?_eq_some_iff.1 hc).1 hg.m.lcl
 refine ZA.seq hZ ?_
 refine ZA.region hZ ?_
 refine ZA.recover hZ (i:=0) (rest:=[]) rfl rfl rfl rfl hmd (fun c45 v hsv=>?_)
 refine ZA.endRegion hZ ?_
 refine ZA.seq hZ ?_
 refine ZA.block hZ ?_
 refine ZA.seq hZ ?_
 refine ZA.W hZ hb ?_
 refine W.region rfl ?_
 refine L.va (x_load rfl Try.underlying50 rfl (hA.cellAt 0 (v:=.pointer (some ⟨c.cb,0,none⟩)) rfl)) ?_
 refine L.va (x_nilCheck rfl) ?_
 refine L.va (x_field rfl Try.underlying76 rfl sz4 (by decide)) ?_
 refine L.va (x_load rfl Try.underlying4 rfl ((hg.m.blk i c hc).cellAt 10 (v:=.bool (c.st)) rfl)) ?_
 refine L.va (x_asB rfl) ?_
 refine L.nil ?_
 refine T.nrm ?_
 show ZA _ _ _ _ _ _ _
 refine ZA.condT hZ (rb hst) ?_
 refine ZA.W hZ hb ?_
 have hR:=hg.m.run
 have hC:=(hg.m.blk i c hc)
 refine W.lastL 13 (fun w'=>Below w.heap.size w w') (by kernel_rfl) (by kernel_rfl) (by kernel_rfl) (by kernel_rfl) ((Below.refl w.heap.size w).drew) ?_
 refine D.va (fun w' hw'=>(x_load rfl Try.underlying50 rfl ((hA.keep hw').cellAt 0 (v:=.pointer (some ⟨c.cb,0,none⟩)) rfl))) ?_
 refine D.va (fun w' hw'=>(x_nilCheck rfl)) ?_
 refine D.va (fun w' hw'=>(x_field rfl Try.underlying76 rfl sz73 (by decide))) ?_
 refine D.va (fun w' hw'=>(x_load rfl Try.underlying73 rfl ((hC.keep hw').cellAt 1 (v:=.pointer (some ⟨R.rb,0,none⟩)) rfl))) ?_
 refine D.va (fun w' hw'=>(x_nilCheck rfl)) ?_
 refine D.va (fun w' hw'=>(x_field rfl Try.underlying91 rfl sz31 (by decide))) ?_
 refine D.va (fun w' hw'=>(x_field rfl Try.underlying31 rfl sz26 (by decide))) ?_
 refine D.va (fun w' hw'=>(x_load rfl Try.underlying26 rfl ((hR.keep hw').cellAt 3 (v:=.slice (some ⟨R.eb,0,none⟩) (R.m) (R.m)) rfl))) ?_
 refine D.va (fun w' hw'=>(x_load rfl Try.underlying50 rfl ((hA.keep hw').cellAt 0 (v:=.pointer (some ⟨c.cb,0,none⟩)) rfl))) ?_
 refine D.va (fun w' hw'=>(x_nilCheck rfl)) ?_
 refine D.va (fun w' hw'=>(x_field rfl Try.underlying76 rfl sz3 (by decide))) ?_
 refine D.va (fun w' hw'=>(x_load rfl Try.underlying3 rfl ((hC.keep hw').cellAt 0 (v:=.int .i64 (i:Int)) rfl))) ?_
 refine D.va (fun w' hw'=>x_index (i:=i) rfl rfl Try.underlying26 sz3 hi) ?_
 refine D.nil (fun w hbw=>?_)
 have hA:=hA.keep hbw
 have hE:=hE.keep hbw
 have hg:=hg.keep hbw
 have hR:=hR.keep hbw
 have hC:=hC.keep hbw
 clear hbw
 have neA:=BlkF.ne hA hg.m.ends (by decide)
 have neE:=BlkF.ne hE hg.m.ends (by decide)
 refine L.stE (i:=i) hg hi rfl rfl sz3 (fun w hg hgr=>?_)
 have hA:=hA.other hgr neA
 have hE:=hE.other hgr neE
 clear neA neE hgr
 have hc:(Rn.cl { R with ends:=R.ends.set i 0 })[i]? = some c:=hc
 refine L.nil ?_
 try clear hR
 try clear hC
 refine T.nrm ?_
 show ZA _ _ _ _ _ _ _
 refine ZA.inBlock hZ ?_
 refine ZA.seq hZ ?_
 refine ZA.W hZ hb ?_
 refine W.region rfl ?_
 refine L.va (x_load rfl Try.underlying50 rfl (hA.cellAt 0 (v:=.pointer (some ⟨c.cb,0,none⟩)) rfl)) ?_
 refine L.va (x_nilCheck rfl) ?_
 refine L.va (x_field rfl Try.underlying76 rfl sz4 (by decide)) ?_
 have neA:=BlkF.ne hA (hg.m.blk i c hc) (by decide)
 refine L.stC (i:=i) (o:=9) (vs:=[.bool false]) hg { c with wt:=false } hc rfl rfl rfl rfl sz4 rfl rfl (by decide) rfl (fun w hg hgr=>?_)
 have hA:=hA.other hgr neA
 refine L.nil ?_
 refine T.nrm ?_
 show ZA _ _ _ _ _ _ _
 refine ZA.lastL hZ hb 11 (fun w'=>Below w.heap.size w w') (by kernel_rfl) (by kernel_rfl) (by kernel_rfl) (by kernel_rfl) (Below.refl w.heap.size w).drew ?_
 refine D.va (fun w' hw'=>(x_load rfl Try.underlying50 rfl ((hA.keep hw').cellAt 0 (v:=.pointer (some ⟨c.cb,0,none⟩)) rfl))) ?_
 refine D.va (fun w' hw'=>(x_nilCheck rfl)) ?_
 refine D.va (fun w' hw'=>(x_field rfl Try.underlying76 rfl sz73 (by decide))) ?_
 refine D.va (fun w' hw'=>(x_load rfl Try.underlying73 rfl (((hg.m.blk i _ (set_at hc)).keep hw').cellAt 1 (v:=.pointer (some ⟨R.rb,0,none⟩)) rfl))) ?_
 refine D.va (fun w' hw'=>(x_nilCheck rfl)) ?_
 refine D.va (fun w' hw'=>(x_field rfl Try.underlying91 rfl sz80 (by decide))) ?_
 refine D.va (fun w' hw'=>(x_load rfl Try.underlying80 rfl ((hg.m.run.keep hw').cellAt 7 (v:=.chan (some R.yb)) rfl))) ?_
 refine D.va (fun w' hw'=>(x_load rfl Try.underlying50 rfl ((hA.keep hw').cellAt 0 (v:=.pointer (some ⟨c.cb,0,none⟩)) rfl))) ?_
 refine D.va (fun w' hw'=>(x_nilCheck rfl)) ?_
 refine D.va (fun w' hw'=>(x_field rfl Try.underlying76 rfl sz3 (by decide))) ?_
 refine D.va (fun w' hw'=>(x_load rfl Try.underlying3 rfl (((hg.m.blk i _ (set_at hc)).keep hw').cellAt 0 (v:=.int .i64 (i:Int)) rfl))) ?_
 refine D.nil (fun w hbw=>?_)
 have hg:=hg.keep hbw
 have hA:=hA.keep hbw
 clear hbw
 obtain ⟨m,hm⟩:=lt_body ⟨R.rb,8⟩ (n:=0) (a:=a45) (todo:=todo45) hd45
 refine ZA.giveLast (i:=11) (rest:=[]) (s:=⟨R.yb,z0,me0⟩) (gr:=⟨R.rb,8⟩) (ft:=m + 3) hb rfl rfl rfl hX0 (Nat.ne_of_lt hg0) hdn hg0 hgr0 ?_ ?_
 ·refine At.endRegion (hf_lt _ _) ?_
  refine At.done (hf_lt _ _) (fun _=>?_)
  exact AtR.saved (hf_lt _ _) hsv rfl Try.func64 rfl hm
 ·exact hmain _ hg
set_option maxRecDepth 20000 in
theorem end1_fin {Post:Value->World->Prop} {X:Gh} {g:Nat} {S:Nat->Prop} {B:Nat} {w0:World} {Bs:Nat} {R:Rn} {w:World} {i:Nat} {c:CB} {z0:Value} {me0:Goroutine} {ab0 eb0:Nat} {en:Bool} {a45:Act} {todo45:List Item} {md:FrameMode}
  (hg:Rg S B w0 w Bs R) (hc:R.cl[i]? = some c) (hst:c.st = false) (hA:BlkF w ab0 #[.pointer (some ⟨c.cb,0,none⟩)] 50 (0,0)) (hE:BlkF w eb0 #[.bool true] 4 (0,0)) (hg0:0 < g) (hX0:X.seat 0 = some ⟨R.yb,z0,me0⟩) (hdn:X.dn = 0) (hgr0:X.grp = some ⟨R.rb,8⟩)
  (hmd:md = .returning\/∃ v older,md = .panicking ({ v,recovered:=false } :: older)/\older.dropWhile (!·.goexit) = []) (hd45:a45.defers = [dcall 63 #[.pointer (some ⟨R.rb,8,none⟩)]])
  (hmain:∀ w',Rg S B w0 w' Bs { R with ends:=R.ends.set i 1,cl:=R.cl.set i { c with wt:=false } }->Fin Try.prog Post (X.pass g 0 none) 0 (Go.Conc.served me0 (.int .i64 (i:Int))) w') :
  Fin Try.prog Post X g (G ((baseD 64).at { tmps:=((#[]:Array Value) ++ caps2 ab0 eb0) ++ Array.replicate (Try.f64.ntmps - ((#[]:Array Value) ++ caps2 ab0 eb0).size) undef,defers:=[] } [.code (Try.f64.body.getD .skip)]) [{ (baseD 45).at a45 todo45 with mode:=md },bornF Try.prog]) w:=by
 letI:Ctx Try.prog:=baseCtx Try.prog (g == 0)
 refine (?_:ZA (Fin Try.prog Post X g) 63 (baseD 64) [{ (baseD 45).at a45 todo45 with mode:=md },bornF Try.prog] (Vc.argE ((#[]:Array Value) ++ caps2 ab0 eb0)) [.code (Try.f64.body.getD .skip)] w) _ (rep_args _ _ rfl)
 have hZ:Ctx.Zs Try.prog (Fin Try.prog Post X g):=fin_zs
 have hb:=bkd 64
 have hi:i < R.m:=Nat.lt_of_lt_of_le (List.getElem?_eq_some_iff.1 hc).1 hg.m.lcl
 refine ZA.seq hZ ?_
 refine ZA.region hZ ?_
 refine ZA.recover hZ (i:=0) (rest:=[]) rfl rfl rfl rfl hmd (fun c45 v hsv=>?_)
 refine ZA.endRegion hZ ?_
 refine ZA.seq hZ ?_
 refine ZA.block hZ ?_
 refine ZA.seq hZ ?_
 refine ZA.W hZ hb ?_
 refine W.region rfl ?_
 refine L.va (x_load rfl Try.underlying50 rfl (hA.cellAt 0 (v:=.pointer (some ⟨c.cb,0,none⟩)) rfl)) ?_
 refine L.va (x_nilCheck rfl) ?_
 refine L.va (x_field rfl Try.underlying76 rfl sz4 (by decide)) ?_
 refine L.va (x_load rfl Try.underlying4 rfl ((hg.m.blk i c hc).cellAt 10 (v:=.bool (c.st)) rfl)) ?_
 refine L.va (x_asB rfl) ?_
 refine L.nil ?_
 refine T.nrm ?_
 show ZA _ _ _ _ _ _ _
 refine ZA.condF hZ (rb hst) ?_
 refine ZA.seq hZ ?_
 refine ZA.W hZ hb ?_
 refine W.region rfl ?_
 refine L.va (x_load rfl Try.underlying4 rfl (hE.cellAt 0 (v:=.bool true) rfl)) ?_
 refine L.va (x_asB rfl) ?_
 refine L.nil ?_
 refine T.nrm ?_
 show ZA _ _ _ _ _ _ _
 refine ZA.condT hZ rfl ?_
 refine ZA.W hZ hb ?_
 have hR:=hg.m.run
 have hC:=(hg.m.blk i c hc)
 refine W.lastL 13 (fun w'=>Below w.heap.size w w') (by kernel_rfl) (by kernel_rfl) (by kernel_rfl) (by kernel_rfl) ((Below.refl w.heap.size w).drew) ?_
 refine D.va (fun w' hw'=>(x_load rfl Try.underlying50 rfl ((hA.keep hw').cellAt 0 (v:=.pointer (some ⟨c.cb,0,none⟩)) rfl))) ?_
 refine D.va (fun w' hw'=>(x_nilCheck rfl)) ?_
 refine D.va (fun w' hw'=>(x_field rfl Try.underlying76 rfl sz73 (by decide))) ?_
 refine D.va (fun w' hw'=>(x_load rfl Try.underlying73 rfl ((hC.keep hw').cellAt 1 (v:=.pointer (some ⟨R.rb,0,none⟩)) rfl))) ?_
 refine D.va (fun w' hw'=>(x_nilCheck rfl)) ?_
 refine D.va (fun w' hw'=>(x_field rfl Try.underlying91 rfl sz31 (by decide))) ?_
 refine D.va (fun w' hw'=>(x_field rfl Try.underlying31 rfl sz26 (by decide))) ?_
 refine D.va (fun w' hw'=>(x_load rfl Try.underlying26 rfl ((hR.keep hw').cellAt 3 (v:=.slice (some ⟨R.eb,0,none⟩) (R.m) (R.m)) rfl))) ?_
 refine D.va (fun w' hw'=>(x_load rfl Try.underlying50 rfl ((hA.keep hw').cellAt 0 (v:=.pointer (some ⟨c.cb,0,none⟩)) rfl))) ?_
 refine D.va (fun w' hw'=>(x_nilCheck rfl)) ?_
 refine D.va (fun w' hw'=>(x_field rfl Try.underlying76 rfl sz3 (by decide))) ?_
 refine D.va (fun w' hw'=>(x_load rfl Try.underlying3 rfl ((hC.keep hw').cellAt 0 (v:=.int .i64 (i:Int)) rfl))) ?_
 refine D.va (fun w' hw'=>x_index (i:=i) rfl rfl Try.underlying26 sz3 hi) ?_
 refine D.nil (fun w hbw=>?_)
 have hA:=hA.keep hbw
 have hE:=hE.keep hbw
 have hg:=hg.keep hbw
 have hR:=hR.keep hbw
 have hC:=hC.keep hbw
 clear hbw
 have neA:=BlkF.ne hA hg.m.ends (by decide)
 have neE:=BlkF.ne hE hg.m.ends (by decide)
 refine L.stE (i:=i) hg hi rfl rfl sz3 (fun w hg hgr=>?_)
 have hA:=hA.other hgr neA
 have hE:=hE.other hgr neE
 clear neA neE hgr
 have hc:(Rn.cl { R with ends:=R.ends.set i 1 })[i]? = some c:=hc
 refine L.nil ?_
 try clear hR
 try clear hC
 refine T.nrm ?_
 show ZA _ _ _ _ _ _ _
 refine ZA.inBlock hZ ?_
 refine ZA.seq hZ ?_
 refine ZA.W hZ hb ?_
 refine W.region rfl ?_
 refine L.va (x_load rfl Try.underlying50 rfl (hA.cellAt 0 (v:=.pointer (some ⟨c.cb,0,none⟩)) rfl)) ?_
 refine L.va (x_nilCheck rfl) ?_
 refine L.va (x_field rfl Try.underlying76 rfl sz4 (by decide)) ?_
 have neA:=BlkF.ne hA (hg.m.blk i c hc) (by decide)
 refine L.stC (i:=i) (o:=9) (vs:=[.bool false]) hg { c with wt:=false } hc rfl rfl rfl rfl sz4 rfl rfl (by decide) rfl (fun w hg hgr=>?_)
 have hA:=hA.other hgr neA
 refine L.nil ?_
 refine T.nrm ?_
 show ZA _ _ _ _ _ _ _
 refine ZA.lastL hZ hb 11 (fun w'=>Below w.heap.size w w') (by kernel_rfl) (by kernel_rfl) (by kernel_rfl) (by kernel_rfl) (Below.refl w.heap.size w).drew ?_
 refine D.va (fun w' hw'=>(x_load rfl Try.underlying50 rfl ((hA.keep hw').cellAt 0 (v:=.pointer (some ⟨c.cb,0,none⟩)) rfl))) ?_
 refine D.va (fun w' hw'=>(x_nilCheck rfl)) ?_
 refine D.va (fun w' hw'=>(x_field rfl Try.underlying76 rfl sz73 (by decide))) ?_
 refine D.va (fun w' hw'=>(x_load rfl Try.underlying73 rfl (((hg.m.blk i _ (set_at hc)).keep hw').cellAt 1 (v:=.pointer (some ⟨R.rb,0,none⟩)) rfl))) ?_
 refine D.va (fun w' hw'=>(x_nilCheck rfl)) ?_
 refine D.va (fun w' hw'=>(x_field rfl Try.underlying91 rfl sz80 (by decide))) ?_
 refine D.va (fun w' hw'=>(x_load rfl Try.underlying80 rfl ((hg.m.run.keep hw').cellAt 7 (v:=.chan (some R.yb)) rfl))) ?_
 refine D.va (fun w' hw'=>(x_load rfl Try.underlying50 rfl ((hA.keep hw').cellAt 0 (v:=.pointer (some ⟨c.cb,0,none⟩)) rfl))) ?_
 refine D.va (fun w' hw'=>(x_nilCheck rfl)) ?_
 refine D.va (fun w' hw'=>(x_field rfl Try.underlying76 rfl sz3 (by decide))) ?_
 refine D.va (fun w' hw'=>(x_load rfl Try.underlying3 rfl (((hg.m.blk i _ (set_at hc)).keep hw').cellAt 0 (v:=.int .i64 (i:Int)) rfl))) ?_
 refine D.nil (fun w hbw=>?_)
 have hg:=hg.keep hbw
 have hA:=hA.keep hbw
 clear hbw
 obtain ⟨m,hm⟩:=lt_body ⟨R.rb,8⟩ (n:=0) (a:=a45) (todo:=todo45) hd45
 refine ZA.giveLast (i:=11) (rest:=[]) (s:=⟨R.yb,z0,me0⟩) (gr:=⟨R.rb,8⟩) (ft:=m + 3) hb rfl rfl rfl hX0 (Nat.ne_of_lt hg0) hdn hg0 hgr0 ?_ ?_
 ·refine At.endRegion (hf_lt _ _) ?_
  refine At.done (hf_lt _ _) (fun _=>?_)
  exact AtR.saved (hf_lt _ _) hsv rfl Try.func64 rfl hm
 ·exact hmain _ hg
set_option maxRecDepth 20000 in
theorem end2_fin {Post:Value->World->Prop} {X:Gh} {g:Nat} {S:Nat->Prop} {B:Nat} {w0:World} {Bs:Nat} {R:Rn} {w:World} {i:Nat} {c:CB} {z0:Value} {me0:Goroutine} {ab0 eb0:Nat} {en:Bool} {a45:Act} {todo45:List Item} {md:FrameMode}
  (hg:Rg S B w0 w Bs R) (hc:R.cl[i]? = some c) (hst:c.st = false) (hA:BlkF w ab0 #[.pointer (some ⟨c.cb,0,none⟩)] 50 (0,0)) (hE:BlkF w eb0 #[.bool false] 4 (0,0)) (hg0:0 < g) (hX0:X.seat 0 = some ⟨R.yb,z0,me0⟩) (hdn:X.dn = 0) (hgr0:X.grp = some ⟨R.rb,8⟩)
  (hmd:md = .returning\/∃ v older,md = .panicking ({ v,recovered:=false } :: older)/\older.dropWhile (!·.goexit) = []) (hd45:a45.defers = [dcall 63 #[.pointer (some ⟨R.rb,8,none⟩)]])
  (hmain:∀ w',Rg S B w0 w' Bs { R with ends:=R.ends.set i 2,cl:=R.cl.set i { c with wt:=false } }->Fin Try.prog Post (X.pass g 0 none) 0 (Go.Conc.served me0 (.int .i64 (i:Int))) w') :
  Fin Try.prog Post X g (G ((baseD 64).at { tmps:=((#[]:Array Value) ++ caps2 ab0 eb0) ++ Array.replicate (Try.f64.ntmps - ((#[]:Array Value) ++ caps2 ab0 eb0).size) undef,defers:=[] } [.code (Try.f64.body.getD .skip)]) [{ (baseD 45).at a45 todo45 with mode:=md },bornF Try.prog]) w:=by
 letI:Ctx Try.prog:=baseCtx Try.prog (g == 0)
 refine (?_:ZA (Fin Try.prog Post X g) 63 (baseD 64) [{ (baseD 45).at a45 todo45 with mode:=md },bornF Try.prog] (Vc.argE ((#[]:Array Value) ++ caps2 ab0 eb0)) [.code (Try.f64.body.getD .skip)] w) _ (rep_args _ _ rfl)
 have hZ:Ctx.Zs Try.prog (Fin Try.prog Post X g):=fin_zs
 have hb:=bkd 64
 have hi:i < R.m:=Nat.lt_of_lt_of_le (List.getElem?_eq_some_iff.1 hc).1 hg.m.lcl
 refine ZA.seq hZ ?_
 refine ZA.region hZ ?_
 refine ZA.recover hZ (i:=0) (rest:=[]) rfl rfl rfl rfl hmd (fun c45 v hsv=>?_)
 refine ZA.endRegion hZ ?_
 refine ZA.seq hZ ?_
 refine ZA.block hZ ?_
 refine ZA.seq hZ ?_
 refine ZA.W hZ hb ?_
 refine W.region rfl ?_
 refine L.va (x_load rfl Try.underlying50 rfl (hA.cellAt 0 (v:=.pointer (some ⟨c.cb,0,none⟩)) rfl)) ?_
 refine L.va (x_nilCheck rfl) ?_
 refine L.va (x_field rfl Try.underlying76 rfl sz4 (by decide)) ?_
 refine L.va (x_load rfl Try.underlying4 rfl ((hg.m.blk i c hc).cellAt 10 (v:=.bool (c.st)) rfl)) ?_
 refine L.va (x_asB rfl) ?_
 refine L.nil ?_
 refine T.nrm ?_
 show ZA _ _ _ _ _ _ _
 refine ZA.condF hZ (rb hst) ?_
 refine ZA.seq hZ ?_
 refine ZA.W hZ hb ?_
 refine W.region rfl ?_
 refine L.va (x_load rfl Try.underlying4 rfl (hE.cellAt 0 (v:=.bool false) rfl)) ?_
 refine L.va (x_asB rfl) ?_
 refine L.nil ?_
 refine T.nrm ?_
 show ZA _ _ _ _ _ _ _
 refine ZA.condF hZ rfl ?_
 refine ZA.W hZ hb ?_
 have hR:=hg.m.run
 have hC:=(hg.m.blk i c hc)
 refine W.lastL 13 (fun w'=>Below w.heap.size w w') (by kernel_rfl) (by kernel_rfl) (by kernel_rfl) (by kernel_rfl) ((Below.refl w.heap.size w).drew) ?_
 refine D.va (fun w' hw'=>(x_load rfl Try.underlying50 rfl ((hA.keep hw').cellAt 0 (v:=.pointer (some ⟨c.cb,0,none⟩)) rfl))) ?_
 refine D.va (fun w' hw'=>(x_nilCheck rfl)) ?_
 refine D.va (fun w' hw'=>(x_field rfl Try.underlying76 rfl sz73 (by decide))) ?_
 refine D.va (fun w' hw'=>(x_load rfl Try.underlying73 rfl ((hC.keep hw').cellAt 1 (v:=.pointer (some ⟨R.rb,0,none⟩)) rfl))) ?_
 refine D.va (fun w' hw'=>(x_nilCheck rfl)) ?_
 refine D.va (fun w' hw'=>(x_field rfl Try.underlying91 rfl sz31 (by decide))) ?_
 refine D.va (fun w' hw'=>(x_field rfl Try.underlying31 rfl sz26 (by decide))) ?_
 refine D.va (fun w' hw'=>(x_load rfl Try.underlying26 rfl ((hR.keep hw').cellAt 3 (v:=.slice (some ⟨R.eb,0,none⟩) (R.m) (R.m)) rfl))) ?_
 refine D.va (fun w' hw'=>(x_load rfl Try.underlying50 rfl ((hA.keep hw').cellAt 0 (v:=.pointer (some ⟨c.cb,0,none⟩)) rfl))) ?_
 refine D.va (fun w' hw'=>(x_nilCheck rfl)) ?_
 refine D.va (fun w' hw'=>(x_field rfl Try.underlying76 rfl sz3 (by decide))) ?_
 refine D.va (fun w' hw'=>(x_load rfl Try.underlying3 rfl ((hC.keep hw').cellAt 0 (v:=.int .i64 (i:Int)) rfl))) ?_
 refine D.va (fun w' hw'=>x_index (i:=i) rfl rfl Try.underlying26 sz3 hi) ?_
 refine D.nil (fun w hbw=>?_)
 have hA:=hA.keep hbw
 have hE:=hE.keep hbw
 have hg:=hg.keep hbw
 have hR:=hR.keep hbw
 have hC:=hC.keep hbw
 clear hbw
 have neA:=BlkF.ne hA hg.m.ends (by decide)
 have neE:=BlkF.ne hE hg.m.ends (by decide)
 refine L.stE (i:=i) hg hi rfl rfl sz3 (fun w hg hgr=>?_)
 have hA:=hA.other hgr neA
 have hE:=hE.other hgr neE
 clear neA neE hgr
 have hc:(Rn.cl { R with ends:=R.ends.set i 2 })[i]? = some c:=hc
 refine L.nil ?_
 try clear hR
 try clear hC
 refine T.nrm ?_
 show ZA _ _ _ _ _ _ _
 refine ZA.inBlock hZ ?_
 refine ZA.seq hZ ?_
 refine ZA.W hZ hb ?_
 refine W.region rfl ?_
 refine L.va (x_load rfl Try.underlying50 rfl (hA.cellAt 0 (v:=.pointer (some ⟨c.cb,0,none⟩)) rfl)) ?_
 refine L.va (x_nilCheck rfl) ?_
 refine L.va (x_field rfl Try.underlying76 rfl sz4 (by decide)) ?_
 have neA:=BlkF.ne hA (hg.m.blk i c hc) (by decide)
 refine L.stC (i:=i) (o:=9) (vs:=[.bool false]) hg { c with wt:=false } hc rfl rfl rfl rfl sz4 rfl rfl (by decide) rfl (fun w hg hgr=>?_)
 have hA:=hA.other hgr neA
 refine L.nil ?_
 refine T.nrm ?_
 show ZA _ _ _ _ _ _ _
 refine ZA.lastL hZ hb 11 (fun w'=>Below w.heap.size w w') (by kernel_rfl) (by kernel_rfl) (by kernel_rfl) (by kernel_rfl) (Below.refl w.heap.size w).drew ?_
 refine D.va (fun w' hw'=>(x_load rfl Try.underlying50 rfl ((hA.keep hw').cellAt 0 (v:=.pointer (some ⟨c.cb,0,none⟩)) rfl))) ?_
 refine D.va (fun w' hw'=>(x_nilCheck rfl)) ?_
 refine D.va (fun w' hw'=>(x_field rfl Try.underlying76 rfl sz73 (by decide))) ?_
 refine D.va (fun w' hw'=>(x_load rfl Try.underlying73 rfl (((hg.m.blk i _ (set_at hc)).keep hw').cellAt 1 (v:=.pointer (some ⟨R.rb,0,none⟩)) rfl))) ?_
 refine D.va (fun w' hw'=>(x_nilCheck rfl)) ?_
 refine D.va (fun w' hw'=>(x_field rfl Try.underlying91 rfl sz80 (by decide))) ?_
 refine D.va (fun w' hw'=>(x_load rfl Try.underlying80 rfl ((hg.m.run.keep hw').cellAt 7 (v:=.chan (some R.yb)) rfl))) ?_
 refine D.va (fun w' hw'=>(x_load rfl Try.underlying50 rfl ((hA.keep hw').cellAt 0 (v:=.pointer (some ⟨c.cb,0,none⟩)) rfl))) ?_
 refine D.va (fun w' hw'=>(x_nilCheck rfl)) ?_
 refine D.va (fun w' hw'=>(x_field rfl Try.underlying76 rfl sz3 (by decide))) ?_
 refine D.va (fun w' hw'=>(x_load rfl Try.underlying3 rfl (((hg.m.blk i _ (set_at hc)).keep hw').cellAt 0 (v:=.int .i64 (i:Int)) rfl))) ?_
 refine D.nil (fun w hbw=>?_)
 have hg:=hg.keep hbw
 have hA:=hA.keep hbw
 clear hbw
 obtain ⟨m,hm⟩:=lt_body ⟨R.rb,8⟩ (n:=0) (a:=a45) (todo:=todo45) hd45
 refine ZA.giveLast (i:=11) (rest:=[]) (s:=⟨R.yb,z0,me0⟩) (gr:=⟨R.rb,8⟩) (ft:=m + 3) hb rfl rfl rfl hX0 (Nat.ne_of_lt hg0) hdn hg0 hgr0 ?_ ?_
 ·refine At.endRegion (hf_lt _ _) ?_
  refine At.done (hf_lt _ _) (fun _=>?_)
  exact AtR.saved (hf_lt _ _) hsv rfl Try.func64 rfl hm
 ·exact hmain _ hg
end Go.Vy.Sc
end
/- A client's body: from its first step to its end. -/
section
namespace Go.Vy.Sc
open Go Go.Conc Go.Yc Go.RowKit Go.Proofs Go.Proofs.Ytfmoeemolgjodaa
open Go.Vc Go.Wg
attribute [local irreducible] KK
theorem Rg.side {S:Nat->Prop} {B:Nat} {w0 w:World} {Bs:Nat} {R:Rn} (h:Rg S B w0 w Bs R) {b:Nat} {cs cs':Array Value} {T:TypeId} {f:Nat × Nat} (hb:BlkF w b cs T f) (hT:T ≠ 91/\T ≠ 50/\T ≠ 45/\T ≠ 47/\T ≠ 3/\T ≠ 43/\T ≠ 76) (hS:S b\/B <= b):Rg S B w0 (setBlkF w b cs' T f) Bs R:=by
 have hgr:=setBlkF_grown w b cs' T f
 have hr:∀ T':TypeId,T' ≠ T->∀ r,some b = some r->∃ cs' T'' f',BlkF w r cs' T'' f'/\T' ≠ T'':=fun T' hT r e=>by cases e; exact ⟨_,_,_,hb,hT⟩
 have hm:RunM (setBlkF w b cs' T f) Bs R:=⟨apartF h.m.run hgr (hr _ (Ne.symm hT.1)),apartO h.m.cls hgr (hr _ (Ne.symm hT.2.1)),apartO h.m.evs hgr (hr _ (Ne.symm hT.2.2.1)),apartO h.m.nts hgr (hr _ (Ne.symm hT.2.2.2.1)),apartF h.m.ends hgr (hr _ (Ne.symm hT.2.2.2.2.1)),apartF h.m.wts hgr (hr _ (Ne.symm hT.2.2.2.2.2.1)),h.m.lend,h.m.lwts,h.m.lcl,fun i c hc=>apartF (h.m.blk i c hc) hgr (hr _ (Ne.symm hT.2.2.2.2.2.2))⟩
 exact ⟨hm,h.md.grown hgr h.le (fun r e=>by cases e; exact hS),h.fp,by rw [setBlkF_size]; exact h.le⟩
def EndX (c:CB) (x:Int):Ending->Prop
 | .returned _=>(c.st = true/\x = 0)\/(c.st = false/\x = 1)
 | .panicked ch=>Raised ch/\((c.st = true/\x = 0)\/(c.st = false/\x = 2))
 | .outgrown=>False
structure TopOk (top:List Frame) (ab0 eb0 rb cb:Nat):Prop where
 leave:∀ {Post:Value->World->Prop} {X:Gh} {g:Nat} {S:Nat->Prop} {B:Nat} {w0:World} {Bs:Nat} {R:Rn} {w:World} {i:Nat} {c:CB} {z0:Value} {me0:Goroutine} {fr:Frame} {e:Ending} (x:Int),Rg S B w0 w Bs R->R.rb = rb->R.cl[i]? = some c->c.cb = cb ->
  BlkF w ab0 #[.pointer (some ⟨cb,0,none⟩)] 50 (0,0)->BlkF w eb0 #[.bool false] 4 (0,0)->(S eb0\/B <= eb0)->EndX c x e->0 < g->X.seat 0 = some ⟨R.yb,z0,me0⟩->X.dn = 0->X.grp = some ⟨rb,8⟩ ->
  (∀ w',Rg S B w0 w' Bs { R with ends:=R.ends.set i x,cl:=R.cl.set i { c with wt:=false } }->(∃ en,BlkF w' eb0 #[.bool en] 4 (0,0))->Fin Try.prog Post (X.pass g 0 none) 0 (Go.Conc.served me0 (.int .i64 (i:Int))) w') ->
  Leaves Try.prog fr w e->Fin Try.prog Post X g (G fr top) w
theorem RunM.fp_ne {w:World} {Bs:Nat} {R:Rn} (h:RunM w Bs R) {b:Nat} {cs:Array Value} {T:TypeId} {f:Nat × Nat} (hb:BlkF w b cs T f) (hT:T ≠ 91/\T ≠ 50/\T ≠ 45/\T ≠ 47/\T ≠ 3/\T ≠ 43/\T ≠ 76):¬ R.fp b:=by
 intro hk
 have own:∀ {E:TypeId} {s n c:Nat} {a:Option Addr} {xs:List Value},Own w Bs E s a n c xs->a ≠ none->b = ab a->T ≠ E->False:=fun ho ha e hne=>by
  obtain ⟨cur,hB,_⟩:=ho.row ha
  exact BlkF.ne (f:=(0,0)) hB hb (Ne.symm hne) e.symm
 rcases hk with rfl | rfl | rfl | ⟨ha,e⟩ | ⟨ha,e⟩ | ⟨ha,e⟩ | ⟨i,c,hc,rfl⟩
 ·exact BlkF.ne hb h.run hT.1 rfl
 ·exact BlkF.ne hb h.ends hT.2.2.2.2.1 rfl
 ·exact BlkF.ne hb h.wts hT.2.2.2.2.2.1 rfl
 ·exact own h.cls ha e hT.2.1
 ·exact own h.evs ha e hT.2.2.1
 ·exact own h.nts ha e hT.2.2.2.1
 ·exact BlkF.ne hb (h.blk i c hc) hT.2.2.2.2.2.2 rfl
theorem Rg.then {S:Nat->Prop} {B:Nat} {w0 w w':World} {Bs:Nat} {R R':Rn} (h:Rg S B w0 w Bs R) (h':Rg R.fp w.heap.size w w' Bs R'):Rg S B w0 w' Bs R' :=
 ⟨h'.m,⟨h'.md.os.trans h.md.os,h'.md.tape.trans h.md.tape,h'.md.output.trans h.md.output,Nat.le_trans h.md.size h'.md.size,fun k hk hs=>(h'.md.block k (Nat.lt_of_lt_of_le hk h.le) fun z=>(h.fp k z).elim hs (Nat.not_le_of_lt hk)).trans (h.md.block k hk hs)⟩,fun k hk=>by
  rcases h'.fp k hk with z | z
  ·exact h.fp k z
  ·exact .inr (Nat.le_trans h.le z),Nat.le_trans h.le h'.md.size⟩
theorem ends_fin {Post:Value->World->Prop} {X:Gh} {g:Nat} {S:Nat->Prop} {B:Nat} {w0:World} {Bs:Nat} {R:Rn} {w:World} {i:Nat} {c:CB} {z0:Value} {me0:Goroutine} {ab0 eb0:Nat} {en:Bool} {a45:Act} {todo45:List Item} {md:FrameMode} {x:Int}
  (hg:Rg S B w0 w Bs R) (hc:R.cl[i]? = some c) (hx:(c.st = true/\x = 0)\/(c.st = false/\en = true/\x = 1)\/(c.st = false/\en = false/\x = 2)) (hA:BlkF w ab0 #[.pointer (some ⟨c.cb,0,none⟩)] 50 (0,0)) (hE:BlkF w eb0 #[.bool en] 4 (0,0)) (hg0:0 < g) (hX0:X.seat 0 = some ⟨R.yb,z0,me0⟩) (hdn:X.dn = 0) (hgr0:X.grp = some ⟨R.rb,8⟩)
  (hmd:md = .returning\/∃ v older,md = .panicking ({ v,recovered:=false } :: older)/\older.dropWhile (!·.goexit) = []) (hd45:a45.defers = { target:=.fn (.func 64) (caps2 ab0 eb0),args:=#[] } :: [dcall 63 #[.pointer (some ⟨R.rb,8,none⟩)]])
  (hmain:∀ w',Rg S B w0 w' Bs { R with ends:=R.ends.set i x,cl:=R.cl.set i { c with wt:=false } }->Fin Try.prog Post (X.pass g 0 none) 0 (Go.Conc.served me0 (.int .i64 (i:Int))) w') :
  Fin Try.prog Post X g (G { (baseD 45).at a45 todo45 with mode:=md } [bornF Try.prog]) w:=by
 refine (fin_cl Try.prog Post X g).ctl rfl rfl (fun w=>step_enterD (f:=64) (fn:=Try.f64) (caps:=caps2 ab0 eb0) (args:=#[]) (ds:=[dcall 63 #[.pointer (some ⟨R.rb,8,none⟩)]]) (by rcases hmd with rfl | ⟨_,_,rfl,_⟩ <;> simp) hd45 Try.func64 nm64 rfl) ?_
 rcases hx with ⟨h1,rfl⟩ | ⟨h1,rfl,rfl⟩ | ⟨h1,rfl,rfl⟩
 ·exact end0_fin hg hc h1 hA hE hg0 hX0 hdn hgr0 hmd rfl hmain
 ·exact end1_fin (en:=true) hg hc h1 hA hE hg0 hX0 hdn hgr0 hmd rfl hmain
 ·exact end2_fin (en:=false) hg hc h1 hA hE hg0 hX0 hdn hgr0 hmd rfl hmain
theorem ends_fin' {Post:Value->World->Prop} {X:Gh} {g:Nat} {S:Nat->Prop} {B:Nat} {w0:World} {Bs:Nat} {R:Rn} {w:World} {i:Nat} {c:CB} {z0:Value} {me0:Goroutine} {ab0 eb0:Nat} {en:Bool} {a45:Act} {todo45:List Item} {md:FrameMode} {x:Int}
  (hg:Rg S B w0 w Bs R) (hc:R.cl[i]? = some c) (hx:(c.st = true/\x = 0)\/(c.st = false/\en = true/\x = 1)\/(c.st = false/\en = false/\x = 2)) (hA:BlkF w ab0 #[.pointer (some ⟨c.cb,0,none⟩)] 50 (0,0)) (hE:BlkF w eb0 #[.bool en] 4 (0,0)) (hg0:0 < g) (hX0:X.seat 0 = some ⟨R.yb,z0,me0⟩) (hdn:X.dn = 0) (hgr0:X.grp = some ⟨R.rb,8⟩)
  (hmd:md = .returning\/∃ v older,md = .panicking ({ v,recovered:=false } :: older)/\older.dropWhile (!·.goexit) = []) (hd45:a45.defers = { target:=.fn (.func 64) (caps2 ab0 eb0),args:=#[] } :: [dcall 63 #[.pointer (some ⟨R.rb,8,none⟩)]])
  (hmain:∀ w',Rg S B w0 w' Bs { R with ends:=R.ends.set i x,cl:=R.cl.set i { c with wt:=false } }->(∃ en,BlkF w' eb0 #[.bool en] 4 (0,0))->Fin Try.prog Post (X.pass g 0 none) 0 (Go.Conc.served me0 (.int .i64 (i:Int))) w') :
  Fin Try.prog Post X g (G { (baseD 45).at a45 todo45 with mode:=md } [bornF Try.prog]) w:=by
 refine ends_fin hg.m.rg hc hx hA hE hg0 hX0 hdn hgr0 hmd hd45 fun w' hg'=>hmain w' (hg.then hg') ⟨en,?_⟩
 exact (hg'.md.block eb0 hE.lt (hg.m.fp_ne hE (by decide))).trans hE
set_option maxRecDepth 20000 in
theorem body_fin {Post:Value->World->Prop} {X:Gh} {g:Nat} {w:World} {Bs:Nat} {R:Rn} {i:Nat} {c:CB} {f:FuncId} {fn:Func} {caps:Array Value} (hf:Try.prog.funcs[f]? = some fn) (hbd:fn.body.isSome = true) (hnm:(fn.name == "runtime.NumGoroutine") = false)
  (hM:RunM w Bs R) (hc:R.cl[i]? = some c)
  (hrun:∀ w1 top ab0 eb0,Below w.heap.size w w1->w.heap.size <= ab0->w.heap.size <= eb0->BlkF w1 ab0 #[.pointer (some ⟨c.cb,0,none⟩)] 50 (0,0)->BlkF w1 eb0 #[.bool false] 4 (0,0)->TopOk top ab0 eb0 R.rb c.cb->Fin Try.prog Post X g (G (Frame.enter Try.prog f (#[] ++ #[.pointer (some ⟨c.cb,0,none⟩)] ++ caps) .normal) top) w1) :
  Fin Try.prog Post X g (born Try.prog (dcall 45 #[.pointer (some ⟨c.cb,0,none⟩),.func (.func f) #[] caps])) w:=by
 refine (fin_cl Try.prog Post X g).ctl rfl rfl (fun w=>step_born Try.func45 nm45 rfl) ?_
 letI:Ctx Try.prog:=baseCtx Try.prog (g == 0)
 have hZ:Ctx.Zs Try.prog (Fin Try.prog Post X g):=fin_zs
 have hb:=bkd 45
 refine (?_:ZA (Fin Try.prog Post X g) 15 (baseD 45) [bornF Try.prog] (Vc.argE #[.pointer (some ⟨c.cb,0,none⟩),.func (.func f) #[] caps]) [.code (Try.f45.body.getD .skip)] w) _ (rep_args _ _ rfl)
 refine ZA.seq hZ ?_
 refine ZA.W hZ hb ?_
 refine W.region rfl ?_
 refine L.box (cs:=#[.pointer (some ⟨c.cb,0,none⟩)]) rfl rfl (fun w1 ab0 FA=>?_)
 refine L.nil ?_
 refine T.nrm ?_
 show ZA _ _ _ _ _ _ _
 refine ZA.seq hZ ?_
 refine ZA.W hZ hb ?_
 refine W.region rfl ?_
 refine L.alloc (cs:=#[.bool false]) zr4 rfl (fun w2 eb0 FE=>?_)
 refine L.put (b:=eb0) (o:=0) (vs:=[.bool false]) #[.bool false] rfl rfl rfl sz4 rfl rfl FE.blk (Nat.le_of_ble_eq_true rfl) rfl (fun w3 hE hgr hsz=>?_)
 refine L.nil ?_
 refine T.nrm ?_
 show ZA _ _ _ _ _ _ _
 have hb1:Below w.heap.size w w1:=FA.below
 have lA:w.heap.size <= ab0:=by have:=FA.here; omega
 have lE:w.heap.size <= eb0:=by have:=FE.here; have:=hb1.size; omega
 have hb2:Below w.heap.size w w2:=cl_step hb1 FE.below
 have hb3:Below w.heap.size w w3:=below_gr hb2 hb2.size hgr lE
 have hA:BlkF w3 ab0 #[.pointer (some ⟨c.cb,0,none⟩)] 50 (0,0):=(blkF_of (FA.blk.keep FE.below)).other hgr (BlkF.ne (blkF_of (FA.blk.keep FE.below)) (blkF_of FE.blk) (by decide))
 have hM3:=hM.keep hb3
 refine ZA.zd ?_
 refine ZD.seq hZ ?_
 refine ZD.region hZ ?_
 refine ZD.va hZ hb (i:=0) (rest:=[1,2,3,4,5,6]) rfl rfl (x_load rfl Try.underlying50 rfl (hA.cellAt 0 (v:=.pointer (some ⟨c.cb,0,none⟩)) rfl)) ?_
 refine ZD.va hZ hb (i:=1) rfl rfl (x_nilCheck rfl) ?_
 refine ZD.va hZ hb (i:=2) rfl rfl (x_field rfl Try.underlying76 rfl sz73 (by decide)) ?_
 refine ZD.va hZ hb (i:=3) rfl rfl (x_load rfl Try.underlying73 rfl ((hM3.blk i c hc).cellAt 1 (v:=.pointer (some ⟨R.rb,0,none⟩)) rfl)) ?_
 refine ZD.va hZ hb (i:=4) rfl rfl (x_nilCheck rfl) ?_
 refine ZD.va hZ hb (i:=5) rfl rfl (x_field rfl Try.underlying91 rfl sz89 (by decide)) ?_
 refine ZD.defer hZ hb (i:=6) (vs:=#[.pointer (some ⟨R.rb,8,none⟩)]) rfl (Wg.map_list (vl:=[.pointer (some ⟨R.rb,8,none⟩)]) rfl) ?_
 refine ZD.endRegion hZ ?_
 refine ZD.seq hZ ?_
 refine ZD.region hZ ?_
 refine ZD.va hZ hb (i:=0) (rest:=[1]) rfl rfl (x_makeFuncL (l:=[.tmp 2,.tmp 4]) (vs:=[.pointer (some ⟨ab0,0,none⟩),.pointer (some ⟨eb0,0,none⟩)]) rfl) ?_
 refine ZD.deferV hZ hb (i:=1) (caps:=caps2 ab0 eb0) rfl rfl ?_
 refine ZD.endRegion hZ ?_
 refine ZD.seq hZ ?_
 refine ZD.region hZ ?_
 refine ZD.va hZ hb (i:=0) (rest:=[1,2]) rfl rfl (x_mvF rfl) ?_
 refine ZD.va hZ hb (i:=1) rfl rfl (x_load rfl Try.underlying50 rfl (hA.cellAt 0 (v:=.pointer (some ⟨c.cb,0,none⟩)) rfl)) ?_
 refine ZD.call hZ hb (i:=2) rfl (x_call (first:=#[]) (cap:=caps) (args:=#[.pointer (some ⟨c.cb,0,none⟩)]) rfl (Wg.map_list (vl:=[.pointer (some ⟨c.cb,0,none⟩)]) rfl) hf hbd hnm) (fun a ha=>?_)
 refine hrun w3 _ ab0 eb0 hb3 lA lE hA hE ⟨?_⟩
 clear hrun hb3 hb2 hb1 hM3 hA hE hgr hsz FA FE
 intro Post X g S B w0 Bs R' w i c' z0 me0 fr e x hg hRb hc hcb hA hE hS hx hg0 hX0 hdn hgr hmain hl
 rw [<- hcb] at hA
 have hgr':X.grp = some ⟨R'.rb,8⟩:=by rw [hRb]; exact hgr
 letI:Ctx Try.prog:=baseCtx Try.prog (g == 0)
 have hZ:Ctx.Zs Try.prog (Fin Try.prog Post X g):=fin_zs
 cases e with
 | outgrown=>exact hx.elim
 | panicked ch =>
  obtain ⟨⟨v,older,rfl,ho⟩,hx⟩:=hx
  refine leave_panicked (fin_cl _ _ _ _) hl ?_
  rw [Frame.raise_at]
  exact ends_fin' (en:=false) hg hc (by rcases hx with h | h; exact .inl h; exact .inr (.inr ⟨h.1,rfl,h.2⟩)) hA hE hg0 hX0 hdn hgr' (.inr ⟨v,older,rfl,ho⟩) (by rw [hRb]; exact ha.defers) hmain
 | returned v =>
  refine leave_returned (fin_cl _ _ _ _) hl ?_
  have hfin:∀ (ops:Array Oper) (k:List Item) (o:Oper),ops[2]? = some o->((baseD 45).at a (.inRegion ops [2] :: k)).finish v = (baseD 45).at (a.put o.dst v) (.inRegion ops [] :: k):=fun ops k o ho=>by rw [Frame.finish_at,ho]; rfl
  rw [hfin _ _ _ rfl]
  refine (?_:ZD (Fin Try.prog Post X g) 15 (baseD 45) [bornF Try.prog] _ _ _ w) _ (ha.put rfl v)
  refine ZD.endRegion hZ ?_
  refine ZD.region hZ ?_
  refine ZD.st hZ hb (i:=0) (rest:=[]) rfl (x_store (v:=.bool true) (p:=⟨eb0,0,none⟩) (v0:=.bool false) rfl rfl sz4 rfl (hE.cellAt 0 rfl) (by rw [hE.frozen]; rfl)) ?_
  rw [setCell_setBlkF hE]
  refine ZD.endRegion hZ ?_
  intro a5 ha5
  refine (fin_cl Try.prog Post X g).ctl rfl rfl (fun _=>stepG_end) ?_
  exact ends_fin' (en:=true) (hg.side hE (by decide) hS) hc (by rcases hx with h | h; exact .inl h; exact .inr (.inl ⟨h.1,rfl,h.2⟩)) (hA.other (setBlkF_grown _ _ _ _ _) (BlkF.ne hA hE (by decide))) (setBlkF_self hE _ _ _) hg0 hX0 hdn hgr' (.inl rfl) (by rw [hRb]; exact ha5.defers) hmain
end Go.Vy.Sc
end
