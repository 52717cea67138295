/- What the claim leans on, part 3. Laws. -/
import Derived.Test.YtinppmaojmdmhaaGreatKE2
import Derived.Test.YtinppmaojmdmhaaGreatRows
import Derived.KernelRfl
import Derived.Conc.SmallLaws
set_option linter.unusedVariables false
section
namespace Go.Vy
open Go Go.Conc Go.Yc Go.RowKit
open Go.Vc
section
variable {P:Program}[Ctx P]{Z:Goroutine->World->Prop}{Q:Exit->Act->World->Prop}{ops:Array Oper}{b:Frame}{k:List Item}{cs:List Frame}
theorem Ep0 (hZ:Ctx.Zs P Z) (hb:b.kind≠.early) (hk:∀ch a' w',Q (.panic ch) a' w'->Dz0 Z b k cs (.panic ch) a' w') {i:Nat} {rest:List Nat} {o:Oper} {a:Act} {w:World} (ho:ops[i]? =some o)
  (h:if Region.wanted o (yielded ops a.tmps) then ry0 P o a w (fun a w=>Z (G (b.at a (.inRegion ops rest::k)) cs) w) Q else Z (G (b.at (a.put o.dst undef) (.inRegion ops rest::k)) cs) w):Z (G (b.at a (.inRegion ops (i::rest)::k)) cs) w:=by
 cases hw:Region.wanted o (yielded ops a.tmps)with
 |false=>
  rw[hw]at h;exact(Ctx.cl Z hZ).ctl rfl rfl (fun w=>stepG_unwanted ho hw) h
 |true=>
  rw[hw,if_pos rfl]at h;have dc0:∀v,(b.at a (.inRegion ops (i::rest)::k)).finish v=b.at (a.put o.dst v) (.inRegion ops rest::k):=by
   intro v;rw[Frame.finish_at,ho];rfl
  have Lv0:(b.kind==CallKind.early)=false:=by simpa using hb
  refine(Ctx.cl Z hZ).own _ _ rfl fun τ d=>?_;obtain⟨r,w',hr,hK⟩:=h τ d;have fol:∀g',g'.status= .running->(∀x x' es,(execOp a.eval o).runT P x #[]=(r.res x',es)->stepG P (Ctx.main P) (G (b.at a (.inRegion ops (i::rest)::k)) cs) x= .go g' x' (seen P b.fn es))->G6 P (Ctx.main P) (G (b.at a (.inRegion ops (i::rest)::k)) cs) (T2 w τ d) g' w':=by
   intro g' hg' hs;refine⟨hg',fun ρ x hx=>?_⟩;obtain⟨h1,x',es,h2,h3,h4⟩:=hr ρ x hx;exact⟨h1,x',_,hs x x' es h2,h3,fun e he=>h4 e (mem_seen he)⟩
  have split:∀x x' es,(execOp a.eval o).runT P x #[]=(r.res x',es)->(execOp a.eval o).run P x=r.res x'/\(execOp a.eval o).events P x #[]=es:=fun x x' es h=>by
   rw[Sem.runT_eq]at h;exact Prod.mk.inj h
  cases r with
  |val v=>
   refine⟨G (b.at (a.put o.dst v) (.inRegion ops rest::k)) cs,w',w.drawn,fol _ rfl fun x x' es h=>?_,hK⟩;obtain⟨h1,h2⟩:=split x x' es h;rw[stepG_value ho hw hb h1,listed,h2]
  |skip=>
   refine⟨G (b.at (a.put o.dst undef) (.inRegion ops rest::k)) cs,w',w.drawn,fol _ rfl fun x x' es h=>?_,hK⟩;obtain⟨h1,h2⟩:=split x x' es h;rw[stepG_none ho hw hb h1,listed,h2]
  |enter f args=>
   refine⟨G (Frame.enter P f args .normal) (b.at a (.inRegion ops (i::rest)::k)::cs),w',w.drawn,fol _ rfl fun x x' es h=>?_,hK Z hZ _ fun e w'' fr he hf hl=>?_⟩
   ·obtain⟨h1,h2⟩:=split x x' es h;rw[stepG_enter ho hw hb h1,listed,h2]
   ·cases e with
    |returned v=>
     refine U508 ?_;exact he
    |panicked chain=>
     refine U495 ?_;exact hk _ _ _ he _
    |outgrown=>exact he.elim
  |panic v=>
   refine⟨G {b.at a (.inRegion ops (i::rest)::k)with mode:=.panicking [{v,recovered:=false}]} cs,w',w.drawn,fol _ rfl fun x x' es h=>?_,hk _ _ _ hK _⟩;obtain⟨h1,h2⟩:=split x x' es h;have h1':(execOp a.eval o).run P x= .halt (.panic v) x':=h1;rw[stepG_oper ho hw];simp[stepG.apply,h1',h2,G,Frame.at,Lv0,GStep.after,Frame.raise]
theorem ix0 (hZ:Ctx.Zs P Z) (hb:b.kind≠.early) {suf:List Nat} (hk:∀ch a' w',Q (.panic ch) a' w'->Dz0 Z b k cs (.panic ch) a' w') (hn:∀a' w',Q .normal a' w'->Z (G (b.at a' (.inRegion ops suf::k)) cs) w') :
  ∀(pre:List Nat) (a:Act) (w:World),wpOps P ops Q pre a w->Z (G (b.at a (.inRegion ops (pre++suf)::k)) cs) w
 | [],a,w,h=>hn a w h
 |i::pre,a,w,h=>by
  unfold wpOps at h;cases ho:ops[i]? with
  |none=>rw[ho]at h;exact h.elim
  |some o=>
   rw[ho]at h;simp only at h;refine Ep0 hZ hb hk ho ?_;show if _ then ry0 P o a w (fun a w=>Z (G (b.at a (.inRegion ops (pre++suf)::k)) cs) w) Q else _
   by_cases hw:Region.wanted o (yielded ops a.tmps)=true
   ·rw[if_pos hw]at h⊢;exact it0 (fun a w h=>ix0 hZ hb hk hn pre a w h) (fun _ _ _ z=>z) h
   ·rw[if_neg hw]at h⊢;exact ix0 hZ hb hk hn pre _ _ h
def ZA [Go.Vc.j4] (Z:Goroutine->World->Prop) (n:Nat) (b:Frame) (cs:List Frame) (e:Env) (todo:List Item) (w:World):Prop:=∀a,Rep n a e->Z (G (b.at a todo) cs) w
variable {n:Nat}{e:Env}{w:World}
theorem ZA.c [Go.Vc.j4] (hZ:Ctx.Zs P Z) {todo nk0:List Item} (hs:∀a w,stepG P (Ctx.main P) (G (b.at a todo) cs) w= .go (G (b.at a nk0) cs) w #[]) (h:ZA Z n b cs e nk0 w):ZA Z n b cs e todo w :=
 fun a ha=>(Ctx.cl Z hZ).ctl rfl rfl (hs a) (h a ha)
theorem ZA.seq [Go.Vc.j4] (hZ:Ctx.Zs P Z) {x y:Code} (h:ZA Z n b cs e (.code x :: .code y::k) w):ZA Z n b cs e (.code (.seq x y)::k) w:=ZA.c hZ (fun _ _=>stepG_seq) h
theorem ZA.skip [Go.Vc.j4] (hZ:Ctx.Zs P Z) (h:ZA Z n b cs e k w):ZA Z n b cs e (.code .skip::k) w:=ZA.c hZ (fun _ _=>stepG_skip) h
theorem ZA.block [Go.Vc.j4] (hZ:Ctx.Zs P Z) {id:Nat} {c:Code} (h:ZA Z n b cs e (.code c :: .inBlock id::k) w):ZA Z n b cs e (.code (.block id c)::k) w:=ZA.c hZ (fun _ _=>stepG_block) h
theorem ZA.loop [Go.Vc.j4] (hZ:Ctx.Zs P Z) {c:Code} (h:ZA Z n b cs e (.code c :: .inLoop c::k) w):ZA Z n b cs e (.code (.loop c)::k) w:=ZA.c hZ (fun _ _=>stepG_loop) h
theorem ZA.inBlock [Go.Vc.j4] (hZ:Ctx.Zs P Z) {id:Nat} (h:ZA Z n b cs e k w):ZA Z n b cs e (.inBlock id::k) w:=ZA.c hZ (fun _ _=>stepG_inBlock) h
theorem ZA.inLoop [Go.Vc.j4] (hZ:Ctx.Zs P Z) {c:Code} (h:ZA Z n b cs e (.code c :: .inLoop c::k) w):ZA Z n b cs e (.inLoop c::k) w:=ZA.c hZ (fun _ _=>stepG_inLoop) h
theorem ZA.exit [Go.Vc.j4] (hZ:Ctx.Zs P Z) {id:Nat} {k':List Item} (hk:exitTo id k=some k') (h:ZA Z n b cs e k' w):ZA Z n b cs e (.code (.exit id)::k) w:=ZA.c hZ (fun _ _=>stepG_exit hk) h
theorem ZA.cond [Go.Vc.j4] (hZ:Ctx.Zs P Z) {c:Operand} {x y:Code} {t:Bool} (hc:ev e c= .bool t) (h:ZA Z n b cs e (.code (if t then x else y)::k) w):ZA Z n b cs e (.code (.cond c x y)::k) w :=
 fun a ha=>(Ctx.cl Z hZ).ctl rfl rfl (fun _=>stepG_cond (by rw[ha.eval];exact hc)) (h a ha)
theorem ZA.M4 [Go.Vc.j4] (hZ:Ctx.Zs P Z) (h:ZA Z n b cs e k w):ZA Z n b cs e (.inRegion ops []::k) w:=ZA.c hZ (fun _ _=>stepG_region_end) h
def ZR [Go.Vc.j4] (Z:Goroutine->World->Prop) (n:Nat) (b:Frame) (cs:List Frame) (e:Env) (w:World):Prop:=∀todo,∀a,Rep n a e->Z (G {b.at a todo with mode:=.returning} cs) w
theorem ZA.ret [Go.Vc.j4] (hZ:Ctx.Zs P Z) (h:ZR Z n b cs e w):ZA Z n b cs e (.code .ret::k) w:=fun a ha=>(Ctx.cl Z hZ).ctl rfl rfl (fun _=>stepG_ret') (h _ a ha)
theorem ZA.done [Go.Vc.j4] (hZ:Ctx.Zs P Z) (h:ZR Z n b cs e w):ZA Z n b cs e [] w:=fun a ha=>(Ctx.cl Z hZ).ctl rfl rfl (fun _=>stepG_end) (h _ a ha)
theorem ZA.piece [Go.Vc.j4] (hZ:Ctx.Zs P Z) (hb:b.kind≠.early) {c:Code} {R:Env->World->Prop} (h:W P n c (dp0 R fun _ _ _=>False) e w) (hk:∀e' w',R e' w'->ZA Z n b cs e' k w'):ZA Z n b cs e (.code c::k) w:=by
 intro a ha;refine h a ha Z hZ b k cs hb fun x a' w' hx=>?_;obtain⟨e',r,hq⟩:=hx;cases x with
 |normal=>exact hk e' w' hq a' r
 |exit _=>exact hq.elim
 |goto _=>exact hq.elim
 |ret=>exact hq.elim
 |panic _=>exact hq.elim
 |outgrown=>exact hq.elim
theorem jx0:∀(l:List Oper) (k:Nat) (a:Act) (w:World),(∀j,j<l.length->l[j]? =ops[k+j]?)->wpList P ops Q l a w->wpOps P ops Q (List.range' k l.length) a w
 | [],_,_,_,_,h=>h
 |o::l,k,a,w,hj,h=>by
  have h0:ops[k]? =some o:=by simpa using(hj 0 (by simp)).symm
  have ih:=fun a w=>jx0 l (k+1) a w (fun j hl=>by have:=hj (j+1) (by simpa using hl);simpa [Nat.add_assoc,Nat.add_comm 1 j]using this);rw[List.length_cons,List.range'_succ];unfold wpOps;rw[h0];unfold wpList at h;by_cases hw:Region.wanted o (yielded ops a.tmps)=true
  ·simp only[if_pos hw]at h⊢;exact it0 ih (fun _ _ _ z=>z) h
  ·simp only[if_neg hw]at h⊢;exact ih _ _ h
theorem ZA.upto [Go.Vc.j4] (hZ:Ctx.Zs P Z) (hb:b.kind≠.early) (kk:Nat) {id:Nat} {l:List Oper} {R:Env->World->Prop} (hB:Ts0 n l=true) (hkl:Nat.ble kk l.length=true) (h:L P n l.toArray (dp0 R fun _ _ _=>False) (l.take kk) e w)
  (hk:∀e' w',R e' w'->ZA Z n b cs e' (.inRegion l.toArray (List.range' kk (l.length-kk))::k) w'):ZA Z n b cs e (.code (.region id l.toArray false)::k) w:=by
 intro a ha;have hle:kk <=l.length:=Nat.le_of_ble_eq_true hkl;refine(Ctx.cl Z hZ).ctl rfl rfl (fun _=>stepG_region) ?_;have h1:=h (fun o ho=>List.all_eq_true.1 hB o (List.mem_of_mem_take ho)) a ha;have h2:=jx0 (l.take kk) 0 a w (fun j hj=>by
  rw[List.getElem?_take_of_lt (by simp at hj;omega)];simp) h1
 have h3:(l.take kk).length=kk:=by simp;omega
 rw[h3]at h2;have h4:List.range l.toArray.size=List.range' 0 kk++List.range' kk (l.length-kk):=by
  have:=List.range'_append_1 (s:=0) (m:=kk) (n:=l.length-kk);rw[Nat.zero_add]at this;rw[List.range_eq_range',List.size_toArray,this];congr 1;omega
 rw[h4];exact ix0 hZ hb (fun ch a' w' hx=>by obtain⟨_,_,hx⟩:=hx;exact hx.elim) (fun a' w' hx=>by
  obtain⟨e',r,hq⟩:=hx;exact hk e' w' hq a' r) _ a w h2
theorem bn1 [Go.Vc.j4] {V:(Nat->Bool)->Prop} {J:(Nat->Bool)->World->Prop} (WP:List Nat->Act->World->Prop) (ig1:∀i σ o a w,ops[i]? =some o->(if Region.wanted o (yielded ops a.tmps) then ry0 P o a w (WP σ) Q else WP σ (a.put o.dst undef) w)->WP (i::σ) a w) (h:Ord n ops) {e0:Env} {vals:Nat->Value} {k:Nat} (hk:k<ops.size) (Mo0:∀i o,i<k->ops[i]? =some o->Loc P ops V J i o (EE e0 ops.toList vals i) (vals i))
  (dd0:∀D,V D->∀i,k <=i->i<ops.size->D i=true->∀j,j<i->D j=true)
  (hQ:∀a w D,Rep n a (EE e0 ops.toList vals k)->(∀i,i<k->D i=true)->J D w->WP (List.range' k (ops.size-k)) a w) :
  ∀{listed:Array Bool} {σ:List Nat},Lin ops listed σ->(∀τ ρ,σ=τ++ρ->V (fun j=>listed.getD j false ||τ.contains j)) ->
   ∀(a:Act) (e:Env) (w:World),listed.size=ops.size->(∀j,k <=j->listed.getD j false=false)->Rep n a e->Mid ops e0 vals listed e->J (fun j=>listed.getD j false) w->WP σ a w:=by
 intro listed σ D5
 induction D5 with
 | @nil listed hr=>
  intro _ a e w hs hkf ha hm hJ;have:=iv0 h hs hr k (by omega);rw[hkf k (Nat.le_refl _)]at this;cases this
 | @cons listed i σ hi hl ih=>
  intro hV a e w hs hkf ha hm hJ;have hi0:=hi;obtain⟨h1,o,ho,y6⟩:=mem_ready.1 hi;have hio:i<ops.size:=(Array.getElem?_eq_some_iff.1 ho).1;have Y7:i<listed.size:=by omega
  have hDi:(fun j=>listed.getD j false) i=false:=by
   show listed.getD i false=false;simp only[Array.getD_eq_getD_getElem?,Y7,Array.getElem?_eq_getElem,Option.getD_some]at h1⊢;exact h1
  have hVD:V (fun j=>listed.getD j false):=by
   have:=hV [] (i::σ) rfl;have e1:(fun j=>listed.getD j false ||([]:List Nat).contains j)=fun j=>listed.getD j false:=funext fun j=>by simp
   rw[e1]at this;exact this
  have hVD:V (fun j=>listed.getD j false)/\V (u6 (fun j=>listed.getD j false) i):=by
   refine⟨hVD,?_⟩;have:=hV [i] σ rfl;have e1:(fun j=>listed.getD j false ||([i]:List Nat).contains j)=u6 (fun j=>listed.getD j false) i:=funext fun j=>by
    unfold u6;by_cases hj:j=i
    ·simp[hj]
    ·simp[hj]
   rw[e1]at this;exact this
  by_cases hik:k <=i
  ·have R9:∀j,j<i->listed.getD j false=true:=fun j hj=>by
    have:=dd0 _ hVD.2 i hik hio (by simp[u6]) j hj;unfold u6 at this;rw[if_neg (by omega)]at this;exact this
   have hki:i=k:=by
    rcases Nat.lt_or_ge k i with h3|h3
    ·have:=R9 k h3;rw[hkf k (Nat.le_refl _)]at this;cases this
    ·omega
   subst hki;refine U491 ?_;intro hσ;have he:e=EE e0 ops.toList vals i:=by
    funext t;have hlz:∀j:Nat,ops.toList[j]? =ops[j]?:=fun j=>by rw[Array.getElem?_toList]
    by_cases hex:∃(j:Nat) (p:Oper),j<i/\ops[j]? =some p/\p.dst=some t
    ·obtain⟨j,p,hj,hp,hd⟩:=hex;exact U377
    ·rw[hm.pc0 t (fun j p hp hd=>by
      rcases Nat.lt_or_ge j i with h3|h3
      ·exact absurd ⟨j,p,h3,hp,hd⟩ hex
      ·exact hkf j h3)]
     exact(ko0 e0 ops.toList vals t _ (fun j p hj hp hd=>hex ⟨j,p,hj,by rw[<- hlz];exact hp,hd⟩)).symm
   subst he;exact hQ a w _ ha R9 hJ
  ·have hlk:=pd0 h hm ho y6;refine U319 ?_;intro hex hwa;have hV':∀τ ρ,σ=τ++ρ->V (fun j=>(listed.setIfInBounds i true).getD j false ||τ.contains j):=by
    intro τ ρ hσ;have:=hV (i::τ) ρ (by rw[hσ];rfl);have e1:(fun j=>listed.getD j false ||(i::τ).contains j)=fun j=>(listed.setIfInBounds i true).getD j false ||τ.contains j:=by
     funext j;by_cases hj:i=j
     ·subst hj;simp[Y7]
     ·rw[getD_set_ne false hj];simp[Ne.symm hj]
    rw[e1]at this;exact this
   have next:∀w',J (u6 (fun j=>listed.getD j false) i) w'->WP σ (a.put o.dst (vals i)) w':=by
    intro w' hJ';refine ih hV' _ _ w' (by simp[hs]) (fun j hj=>by rw[getD_set_ne false (by omega)];exact hkf j hj) (ha.put (h.dst i o ho) (vals i)) (hm.step h ho Y7) ?_;rw[kp0 Y7];exact hJ'
   refine ig1 i σ o a w ho ?_;rw[O5 ha,hwa];rcases Mo0 i o (by omega) ho with⟨hw,hl⟩|⟨hw,hv,hl⟩
   ·rw[if_pos hw];have J7:=hl (fun j=>listed.getD j false) w hDi hVD y6 hJ;rw[<- hex,<- ha.eval]at J7;exact pm0 J7 next
   ·rw[if_neg (by rw[hw];simp)];exact U473
theorem ZA.Mp0 [Go.Vc.j4] (hZ:Ctx.Zs P Z) (hb:b.kind≠.early) {k':List Item} {id:Nat} {l:List Oper} (k:Nat) (hm:P.follows .mixedOrders=true) (hB:Ao0 n l.toArray=true) (hA:pi0 l k=true) (hk:Nat.blt k l.length=true)
  (h:∀V:(Nat->Bool)->Prop,(∀D D',V D->V D'->(∀k,D k=true->D' k=true)\/(∀k,D' k=true->D k=true))->(∀D,V D->∀i o,l[i]? =some o->D i=true->w6 o D) ->
   ∃J:(Nat->Bool)->World->Prop,J (fun _=>false) w.drew/\JL P l.toArray V J (fun e'=>∀D w',(∀i,i<k->D i=true)->J D w'->ZA Z n b cs e' (.inRegion l.toArray (List.range' k (l.length-k))::k') w') 0 (l.take k) e):ZA Z n b cs e (.code (.region id l.toArray true)::k') w:=by
 intro a ha;have ho:=Eb0 hB;have hkl:k<l.length:=by rw[Nat.blt_eq]at hk;exact hk
 refine(Ctx.cl Z hZ).own _ _ rfl fun τ d=>?_;refine⟨G (b.at a (.inRegion l.toArray (Region.schedule (P.follows .mixedOrders) l.toArray (τ d (.order b.fn id)))::k')) cs,{T2 w τ d with drawn:=d+1},w.drawn+1,⟨rfl,fun ρ x hx=>⟨⟨Nat.le_refl _,fun _ o ho=>⟨o,ho,H4.refl o⟩⟩,{x with drawn:=x.drawn+1},#[],?_,?_,fun e he=>by simp at he⟩⟩,?_⟩
 ·rw[stepG_region_draw,hx.tape,hx.drawn];rfl
 ·exact⟨hx.os,hx.output,hx.tape,by show x.drawn+1=d+1;rw[hx.drawn];rfl,hx.size,hx.obj,hx.new,hx.J8⟩
 show Z (G (b.at a (.inRegion l.toArray (Region.schedule (P.follows .mixedOrders) l.toArray (τ d (.order b.fn id)))::k')) cs) w.drew;generalize τ d (.order b.fn id)=t;simp only[Region.schedule,hm,Bool.true_or,if_true];have D5:=jq0 l.toArray l.toArray.size t (Array.replicate l.toArray.size false) (by simp) (by simp);unfold Region.linearise;generalize Region.linearise.go .any l.toArray l.toArray.size t (Array.replicate l.toArray.size false) []=σ at D5⊢;have gb0:=fw0 D5 (fun i o _ hi=>by rw[J0]at hi;cases hi) (by simp);have dv0:∀D,Pre σ D->∀i o,l[i]? =some o->D i=true->w6 o D:=by
  rintro D ⟨τ,ρ,hσ,hD⟩ i o hi hDi x hx hb;have:=gb0 τ ρ hσ i o (by simpa using hi) (.inr ((hD i).1 hDi)) x hx hb;rcases this with h1|h1
  ·rw[J0]at h1;cases h1
  ·exact(hD _).2 h1
 obtain⟨J,hJ,hjl⟩:=h (Pre σ) (fun D D' h1 h2=>h1.chain h2) dv0;obtain⟨vals,h1,h2⟩:=JL.collect (l.take k) 0 e hjl;have hEE:∀j,j <=k->EE e (l.take k) vals j=EE e l vals j:=by
  intro j
  induction j with
  |zero=>intro _;rfl
  |succ j ih=>
   intro hj;simp only[EE,ih (by omega)];rw[List.getElem?_take_of_lt (by omega)]
 have I1:(l.take k).length=k:=by simp;omega
 refine bn1 (Q:=fun _ _ _=>False) (fun σ a w=>Z (G (b.at a (.inRegion l.toArray σ::k')) cs) w) (fun i σ o a w ho h=>Ep0 hZ hb (fun _ _ _ hx=>hx.elim) ho h) (V:=Pre σ) (J:=J) ho (e0:=e) (vals:=vals) (k:=k) (by simpa using hkl) (fun i o' hi ho'=>?_) (fun D hD i hki Y7=>pj0 hA dv0 hD i hki (by simpa using Y7)) (fun a' w' D ha' hD hJ'=>?_) D5 ?_ a e _ (by simp) (fun j _=>J0 _ _) ha ⟨fun j o t _ _ hl=>?_,fun t _=>rfl⟩ ?_
 ·have:=h1 i o' (by rw[List.getElem?_take_of_lt hi];simpa using ho');rw[hEE i (by omega)]at this;simpa using this
 ·rw[I1,hEE k (Nat.le_refl _)]at h2;have h6:l.toArray.size-k=l.length-k:=by simp
  rw[h6];exact h2 D w' hD hJ' a' (by simpa using ha')
 ·intro τ ρ hσ;exact⟨τ,ρ,hσ,fun k=>by show((Array.replicate l.toArray.size false).getD k false ||τ.contains k)=true↔_;rw[J0];simp⟩
 ·rw[J0]at hl;cases hl
 ·have:(fun k=>(Array.replicate l.toArray.size false).getD k false)=fun _=>false:=funext fun k=>J0 _ _;rw[this];exact hJ
theorem ZA.nh0 [Go.Vc.j4] (hZ:Ctx.Zs P Z) (hb:b.kind≠.early) {k':List Item} {id:Nat} {l:List Oper} (k:Nat) (Cl:World->Prop) (hm:P.follows .mixedOrders=true) (hB:Ao0 n l.toArray=true) (hA:pi0 l k=true) (hk:Nat.blt k l.length=true)
  (hC:Cl w.drew) (h:QL P l.toArray Cl (fun e'=>∀w',Cl w'->ZA Z n b cs e' (.inRegion l.toArray (List.range' k (l.length-k))::k') w') 0 (l.take k) e):ZA Z n b cs e (.code (.region id l.toArray true)::k') w:=by
 refine ZA.Mp0 hZ hb k hm hB hA hk fun V _ _=>⟨fun _=>Cl,hC,?_⟩
 have mono:∀(l':List Oper) (i:Nat) (e:Env),JL P l.toArray V (fun _=>Cl) (fun e'=>∀w',Cl w'->ZA Z n b cs e' (.inRegion l.toArray (List.range' k (l.length-k))::k') w') i l' e->JL P l.toArray V (fun _=>Cl) (fun e'=>∀(D:Nat->Bool) w',(∀i,i<k->D i=true)->Cl w'->ZA Z n b cs e' (.inRegion l.toArray (List.range' k (l.length-k))::k') w') i l' e:=by
  intro l'
  induction l' with
  |nil=>exact fun i e h _ w' _ hw=>h w' hw
  |cons o l' ih=>exact fun i e ⟨v,h1,h2⟩=>⟨v,h1,ih _ _ h2⟩
 exact mono _ 0 e (h V)
end
def M1 (w:World) (b:Nat) (cs:Array Value) (T:TypeId) (f:Nat×Nat):Prop:=w.heap[b]? =some (.cells cs T f)
section
variable {w w':World}{b o:Nat}{cs:Array Value}{T:TypeId}{f:Nat×Nat}{v:Value}
theorem L3 (h:K0 w b cs T):M1 w b cs T (0,0):=h
theorem M1.lt (h:M1 w b cs T f):b<w.heap.size:=(Array.getElem?_eq_some_iff.1 h).1
theorem M1.cell (h:M1 w b cs T f) (hv:cs[o]? =some v):w.cell? ⟨b,o,none⟩=some v:=by
 unfold M1 at h;simp[World.cell?,h,hv]
theorem M1.q0 (h:M1 w b cs T f) (o:Nat) {v:Value} (hv:cs[o]? =some v):w.cell? ⟨b,o,none⟩=some v:=h.cell hv
theorem M1.L6 (h:M1 w b cs T f) {o:Nat} {l:List Value} (hl:(cs.toList.drop o).take l.length=l):∀(j:Nat) (v:Value),l[j]? =some v->w.cell? ⟨b,o+j,none⟩=some v:=by
 intro j v hj;refine h.cell ?_;have I1:j<l.length:=(List.getElem?_eq_some_iff.1 hj).1;rw[<- hl,List.getElem?_take_of_lt I1,List.getElem?_drop]at hj;simpa using hj
theorem M1.frozen (h:M1 w b cs T f) (o:Nat):w.frozen? ⟨b,o,none⟩=(decide (f.1 <=o)&&decide (o<f.2)):=by
 unfold M1 at h;obtain⟨lo,hi⟩:=f;simp[World.frozen?,h]
theorem M1.j0 (h:M1 w b cs T f) (hb:Below w.heap.size w w'):M1 w' b cs T f:=(hb.block b h.lt).trans h
theorem M1.other {b':Nat} (h:M1 w b cs T f) (hg:w.grownBy w' (some b')) (X3:b≠b'):M1 w' b cs T f:=(hg.block b h.lt (by simpa using X3)).trans h
theorem M1.grown {row:Option Nat} (h:M1 w b cs T f) (hg:w.grownBy w' row) (X3:some b≠row):M1 w' b cs T f:=(hg.block b h.lt X3).trans h
theorem M1.ne {b':Nat} {Z6:Array Value} {T':TypeId} {f':Nat×Nat} (h:M1 w b cs T f) (h':M1 w b' Z6 T' f') (hT:T≠T'):b≠b':=by
 intro hb;subst hb;unfold M1 at h h';rw[h]at h';exact hT (by cases h';rfl)
end
def O1 (w:World) (b:Nat) (cs:Array Value) (T:TypeId) (f:Nat×Nat):World:={w with heap:=w.heap.setIfInBounds b (.cells cs T f)}
section
variable {w:World}{b:Nat}{cs Z6:Array Value}{T T':TypeId}{f:Nat×Nat}
theorem M6:(O1 w b cs T f).heap.size=w.heap.size:=by simp[O1]
theorem z5 (h:M1 w b cs T f) (Z6:Array Value) (T':TypeId) (f':Nat×Nat):M1 (O1 w b Z6 T' f') b Z6 T' f':=by
 have:=h.lt;simp[M1,O1,this]
theorem X8 {k:Nat} (h:k≠b):(O1 w b cs T f).heap[k]? =w.heap[k]?:=by
 simp only[O1];rw[Array.getElem?_setIfInBounds_ne (Ne.symm h)]
theorem A2 (w:World) (b:Nat) (cs:Array Value) (T:TypeId) (f:Nat×Nat):w.grownBy (O1 w b cs T f) (some b) :=
 ⟨rfl,rfl,rfl,Nat.le_of_eq M6.symm,fun k _ hk=>X8 (fun e=>hk (by rw[e]))⟩
theorem gt0 {o:Nat} (h:M1 w b cs T f) (v:Value):w.setCell ⟨b,o,none⟩ v=O1 w b (cs.setIfInBounds o v) T f:=by
 have hl:=h.lt;have hg:w.heap[b]= .cells cs T f:=by have:=h;unfold M1 at this;rw[Array.getElem?_eq_getElem hl]at this;exact Option.some.inj this
 simp only[World.setCell,O1];congr 1;apply Array.ext_getElem?;intro i;by_cases hi:i=b
 ·subst hi;rw[Array.getElem?_modify,if_pos rfl,Array.getElem?_eq_getElem hl,hg];simp[hl]
 ·rw[Array.getElem?_modify,Array.getElem?_setIfInBounds_ne (Ne.symm hi),if_neg (Ne.symm hi)]
theorem sq0 (w:World) (b:Nat) (cs Z6:Array Value) (T:TypeId) (f:Nat×Nat):O1 (O1 w b cs T f) b Z6 T f=O1 w b Z6 T f:=by
 simp[O1]
theorem ys0 (h:M1 w b cs T f):O1 w b cs T f=w:=by
 have hl:=h.lt;have hg:w.heap[b]= .cells cs T f:=by have:=h;unfold M1 at this;rw[Array.getElem?_eq_getElem hl]at this;exact Option.some.inj this
 have:w.heap.setIfInBounds b (.cells cs T f)=w.heap:=by
  apply Array.ext_getElem?;intro i;by_cases hi:i=b
  ·subst hi;simp[hl,hg]
  ·rw[Array.getElem?_setIfInBounds_ne (Ne.symm hi)]
 simp only[O1,this]
end
theorem bt0 {P:Program} (b:Nat) (T:TypeId) (f:Nat×Nat):∀(vs:List Value) (o i:Nat) (cs:Array Value) (w:World),M1 w b cs T f->o+i+vs.length <=cs.size->(o+i+vs.length <=f.1\/f.2 <=o+i)->(∀v∈vs,v.oneCell'=true) ->
  (storeCells ⟨b,o,none⟩ vs i).run P w= .ok () (O1 w b (setRow cs (o+i) vs) T f)
 | [],o,i,cs,w,h,_,_,_=>by simp[storeCells,setRow,ys0 h]
 |v::vs,o,i,cs,w,h,hl,hf,h1=>by
  have ha:Addr.add ⟨b,o,none⟩ i=⟨b,o+i,none⟩:=by
   unfold Addr.add;split
   ·rename_i h0;simp[]
   ·rfl
  have I1:o+i<cs.size:=by simp only[List.length_cons]at hl;omega
  have hc:=h.cell (Array.getElem?_eq_getElem I1);have hfr:w.frozen? ⟨b,o+i,none⟩=false:=by
   rw[h.frozen];simp only[List.length_cons]at hf;rw[Bool.and_eq_false_iff];rcases hf with hf|hf
   ·exact .inl (decide_eq_false (by omega))
   ·exact .inr (decide_eq_false (by omega))
  have ih:=bt0 (P:=P) b T f vs o (i+1) (cs.setIfInBounds (o+i) v) (O1 w b (cs.setIfInBounds (o+i) v) T f) (z5 h _ _ _) (by simp only[List.length_cons]at hl;simp;omega) (by simp only[List.length_cons]at hf;omega) (fun u hu=>h1 u (List.mem_cons_of_mem _ hu));rw[sq0]at ih;simp only[storeCells,Sem.run_bind,ha,run_store P w _ v .plain (h1 v List.mem_cons_self),hc,hfr,Bool.false_eq_true,if_false,Result.andThen_ok,gt0 h v];rw[ih];rfl
section
variable {P:Program}[Ctx P]{n:Nat}{ops:Array Oper}{Q:Exit->Env->World->Prop}{rest:List Oper}{e:Env}{w:World}{ty:TypeId}{ps:String}{af:Array Edge}{x y:Operand}{T:TypeId}
theorem L.Eq0 [Go.Vc.j4] {b o s:Nat} {cs:Array Value} {vs:List Value} {E:TypeId} {f:Nat×Nat} {v:Value} (Z6:Array Value) (hx:ev e x= .pointer (some ⟨b,o,none⟩)) (hy:ev e y=v) (hvs:v.cells.toList=vs) (hs:(P.info? T).map (·.size)=some s) (hl:vs.length=s) (h1:vs.all Value.oneCell'=true) (hB:M1 w b cs E f) (ho:o+s <=cs.size) (hf:o+s <=f.1\/f.2 <=o) (hcs:setRow cs o vs=Z6)
  (k:L P n ops Q rest e (O1 w b Z6 E f)):L P n ops Q (⟨none,.store T x y,ty,ps,af,none⟩::rest) e w:=by
 have ay1:v.cells=vs.toArray:=by rw[<- hvs]
 have h1':∀u∈vs,u.oneCell'=true:=fun u hu=>List.all_eq_true.1 h1 u hu;rw[<- hcs]at k;refine L.st (w':=O1 w b (setRow cs o vs) E f) (.O0 (V1 rfl _) rfl rfl fun τ d=>?_) k;have:=bt0 (P:=P) b E f vs o 0 cs (T2 w τ d) hB (by simp;omega) (by simp;omega) h1';show _=Result.ok Next.skip (O1 (T2 w τ d) b (setRow cs o vs) E f);simp[execOp,Instr.storeAt,hx,hy,Instr.sureAddr,storeVar,Go.Vc.run_sizeOf hs,ay1,hl,this]
end
section
variable {P:Program}[Ctx P]{n:Nat}{Q:Exit->Env->World->Prop}{e:Env}{w:World}{ops:Array Oper}{rest:List Oper}
variable {d:Nat}{ty:TypeId}{ps:String}{af:Array Edge}{T E:TypeId}{x y:Operand}
theorem L.gi0 [Go.Vc.j4] {B s bytes m c':Nat} {a:Option Addr} {k c:Nat} {xs news:List Value} {zv:Value} {ad:Addr} (hx:ev e x= .slice a k c) (hy:ev e y= .slice (some ad) m c') (hT:P.underlying T=some (.slice E))
  (hi:(P.info? E).map (fun i=>(i.zero,i.size,i.bytes))=some (some zv,s,bytes)) (hz:zv.cells.size=s) (hs:0<s) (bx0:Own w B E s a k c xs)
  (hl:news.length=m*s) (dx0:∀(j:Nat) u,news[j]? =some u->w.cell? (ad.add j)=some u) (h1:∀u∈news,u.oneCell'=true) (Bd0:k+m <=9223372036854775807) (hb:(k+m)*bytes <=140737488355328) (hB:B <=w.heap.size)
  (h:∀a' c2 w',Own w' B E s a' (k+m) c2 (xs++news)->w.grownBy w' (Value.ownBlock (.slice a k c))->(a'≠none->(a≠none/\ab a'=ab a)\/w.heap.size <=ab a')->L P n ops Q rest (upd e d (.slice a' (k+m) c2)) w') :
  L P n ops Q (⟨some d,.call ⟨.builtin .append,#[x,y],#[T,T]⟩,ty,ps,af,none⟩::rest) e w:=by
 cases a with
 |none=>
  have h0:k=0/\c=0/\xs=[]:=by
   have hln:=bx0.1;rcases bx0.2 with⟨hv,h0⟩|⟨g,cap,cur,hv,_⟩
   ·cases hv;exact⟨rfl,rfl,by
     rw[Nat.zero_mul]at hln;exact List.eq_nil_of_length_eq_zero hln⟩
   ·cases hv
  obtain⟨rfl,rfl,rfl⟩:=h0;refine L.M7 hx hy hT hi hz hs (Own.nil w w.heap.size E s) (fun h=>by cases h) hl (fun ad' e=>by cases e;exact dx0) h1 Bd0 hb (Nat.le_refl _) fun a' c2 w' hO hg _ _=>?_;refine h a' c2 w' (hO.down hB) hg fun ha=>.inr ?_;exact(hO.row ha).choose_spec.2.1
 |some a0=>
  have ha0:∃b,a0=⟨b,0,none⟩:=by
   rcases bx0.2 with⟨hv,_⟩|⟨g,cap,cur,hv,_⟩
   ·cases hv
   ·cases hv;exact⟨g,rfl⟩
  obtain⟨b,rfl⟩:=ha0;refine L.Tz0 hx hy hT hi hz hs bx0 hl dx0 h1 Bd0 hb hB fun b' c2 w' hO hg hw=>?_;refine h _ c2 w' hO hg fun _=>?_;rcases hw with⟨rfl,_⟩|⟨rfl,_⟩
  ·exact .inl ⟨by simp,rfl⟩
  ·exact .inr (Nat.le_refl _)
end
structure jy0 (S:Nat->Prop) (B:Nat) (w w':World):Prop where
 os:w'.os=w.os
 tape:w'.tape=w.tape
 output:w'.output=w.output
 size:w.heap.size <=w'.heap.size
 block:∀k,k<B->¬S k->w'.heap[k]? =w.heap[k]?
section
variable {S:Nat->Prop}{B:Nat}{w w1 w2:World}
theorem jy0.refl (S:Nat->Prop) (B:Nat) (w:World):jy0 S B w w:=⟨rfl,rfl,rfl,Nat.le_refl _,fun _ _ _=>rfl⟩
theorem jy0.trans (h:jy0 S B w w1) (h':jy0 S B w1 w2):jy0 S B w w2:=⟨h'.os.trans h.os,h'.tape.trans h.tape,h'.output.trans h.output,Nat.le_trans h.size h'.size,fun k hk hs=>(h'.block k hk hs).trans (h.block k hk hs)⟩
theorem jy0.below (h:jy0 S B w w1) (hb:Below w1.heap.size w1 w2) (hB:B <=w1.heap.size):jy0 S B w w2:=h.trans ⟨hb.os,hb.tape,hb.output,hb.size,fun k hk _=>hb.block k (by omega)⟩
theorem jy0.grown {row:Option Nat} (h:jy0 S B w w1) (hg:w1.grownBy w2 row) (hB:B <=w1.heap.size) (hr:∀r,row=some r->S r\/B <=r):jy0 S B w w2 :=
 h.trans ⟨hg.os,hg.tape,hg.output,hg.size,fun k hk hs=>hg.block k (by omega) (fun e=>by rcases hr k e.symm with z|z;exact hs z;omega)⟩
theorem Own.congr {E:TypeId} {s n c:Nat} {a:Option Addr} {xs:List Value} (h:Own w B E s a n c xs) (he:a≠none->w1.heap[ab a]? =w.heap[ab a]?):Own w1 B E s a n c xs:=by
 refine⟨h.1,?_⟩;rcases h.2 with h1|⟨g,cap,cur,hv,hb,hg,h2⟩
 ·exact .inl h1
 ·refine .inr ⟨g,cap,cur,hv,hb,?_,h2⟩;cases hv;exact(he (by simp)).trans hg
end
end Go.Vy
end
section
namespace Go.Proofs.YtinppmaojmdmhaaGreat
theorem sz1:(Tryz.prog.info? 1).map (·.size)=some 1:=by kernel_rfl
theorem sz2:(Tryz.prog.info? 2).map (·.size)=some 1:=by kernel_rfl
theorem zr2:(Tryz.prog.info? 2).bind (·.zero)=some (.int .i64 0):=by kernel_rfl
theorem sz3:(Tryz.prog.info? 3).map (·.size)=some 1:=by kernel_rfl
theorem zr3:(Tryz.prog.info? 3).bind (·.zero)=some (.int .i64 0):=by kernel_rfl
theorem in3:(Tryz.prog.info? 3).map (fun i=>(i.zero,i.size,i.bytes))=some (some (.int .i64 0),1,8):=by kernel_rfl
theorem sz4:(Tryz.prog.info? 4).map (·.size)=some 1:=by kernel_rfl
theorem zr4:(Tryz.prog.info? 4).bind (·.zero)=some (.bool false):=by kernel_rfl
theorem sz5:(Tryz.prog.info? 5).map (·.size)=some 1:=by kernel_rfl
theorem zr5:(Tryz.prog.info? 5).bind (·.zero)=some (.int .u8 0):=by kernel_rfl
theorem sz9:(Tryz.prog.info? 9).map (·.size)=some 1:=by kernel_rfl
theorem bo1:(Tryz.prog.info? 22).map (·.size)=some 1:=by kernel_rfl
theorem Uj0:(Tryz.prog.info? 27).map (·.size)=some 1:=by kernel_rfl
theorem ii1:(Tryz.prog.info? 36).map (·.size)=some 1:=by kernel_rfl
theorem nz0:(Tryz.prog.info? 37).map (·.size)=some 1:=by kernel_rfl
theorem Ni0:(Tryz.prog.info? 39).map (·.size)=some 4:=by kernel_rfl
theorem ij1:(Tryz.prog.info? 39).bind (·.zero)=some (.agg #[.int .i64 0,.int .i64 0,.slice none 0 0,.slice none 0 0]):=by kernel_rfl
theorem Uk0:(Tryz.prog.info? 41).map (·.size)=some 1:=by kernel_rfl
theorem bp1:(Tryz.prog.info? 42).map (·.size)=some 1:=by kernel_rfl
theorem bq1:(Tryz.prog.info? 43).map (·.size)=some 1:=by kernel_rfl
theorem jz0:(Tryz.prog.info? 45).map (·.size)=some 6:=by kernel_rfl
theorem Nj0:(Tryz.prog.info? 45).bind (·.zero)=some (.agg #[.slice none 0 0,.slice none 0 0,.slice none 0 0,.slice none 0 0,.bool false,.int .i64 0]):=by kernel_rfl
theorem ik1:(Tryz.prog.info? 57).map (·.size)=some 1:=by kernel_rfl
theorem pb1:(Tryz.prog.info? 59).map (·.size)=some 3:=by kernel_rfl
theorem il1:(Tryz.prog.info? 61).map (·.size)=some 1:=by kernel_rfl
theorem pc1:(Tryz.prog.info? 63).map (·.size)=some 4:=by kernel_rfl
theorem pd1:(Tryz.prog.info? 63).bind (·.zero)=some (.agg #[.int .i64 0,.int .i64 0,.int .i64 0,.string ByteArray.empty]):=by kernel_rfl
theorem pe1:(Tryz.prog.info? 63).map (fun i=>(i.zero,i.size,i.bytes))=some (some (.agg #[.int .i64 0,.int .i64 0,.int .i64 0,.string ByteArray.empty]),4,40):=by kernel_rfl
theorem yt0:(Tryz.prog.info? 65).map (·.size)=some 3:=by kernel_rfl
theorem pf1:(Tryz.prog.info? 65).map (fun i=>(i.zero,i.size,i.bytes))=some (some (.agg #[.int .i64 0,.int .i64 0,.int .i64 0]),3,24):=by kernel_rfl
theorem pg1:(Tryz.prog.info? 67).map (·.size)=some 4:=by kernel_rfl
theorem ph1:(Tryz.prog.info? 67).bind (·.zero)=some (.agg #[.int .i64 0,.int .i64 0,.int .i64 0,.int .i64 0]):=by kernel_rfl
theorem pi1:(Tryz.prog.info? 67).map (fun i=>(i.zero,i.size,i.bytes))=some (some (.agg #[.int .i64 0,.int .i64 0,.int .i64 0,.int .i64 0]),4,32):=by kernel_rfl
theorem la0:(Tryz.prog.info? 71).map (·.size)=some 1:=by kernel_rfl
theorem br1:(Tryz.prog.info? 71).bind (·.zero)=some (.pointer none):=by kernel_rfl
theorem Nk0:(Tryz.prog.info? 71).map (fun i=>(i.zero,i.size,i.bytes))=some (some (.pointer none),1,8):=by kernel_rfl
theorem im1:(Tryz.prog.info? 72).map (·.size)=some 1:=by kernel_rfl
theorem pj1:(Tryz.prog.info? 72).bind (·.zero)=some (.nilFunc):=by kernel_rfl
theorem pk1:(Tryz.prog.info? 72).map (fun i=>(i.zero,i.size,i.bytes))=some (some (.nilFunc),1,8):=by kernel_rfl
theorem Ul0:(Tryz.prog.info? 85).map (·.size)=some 3:=by kernel_rfl
theorem in1:(Tryz.prog.info? 85).bind (·.zero)=some (.agg #[.int .i64 0,.int .i64 0,.string ByteArray.empty]):=by kernel_rfl
theorem pl1:(Tryz.prog.info? 85).map (fun i=>(i.zero,i.size,i.bytes))=some (some (.agg #[.int .i64 0,.int .i64 0,.string ByteArray.empty]),3,32):=by kernel_rfl
theorem bs1:(Tryz.prog.info? 86).map (·.size)=some 1:=by kernel_rfl
theorem io1:(Tryz.prog.info? 86).bind (·.zero)=some (.slice none 0 0):=by kernel_rfl
theorem pm1:(Tryz.prog.info? 86).map (fun i=>(i.zero,i.size,i.bytes))=some (some (.slice none 0 0),1,24):=by kernel_rfl
theorem bt1:(Tryz.prog.info? 87).map (·.size)=some 1:=by kernel_rfl
theorem ip1:(Tryz.prog.info? 88).map (·.size)=some 64:=by kernel_rfl
theorem Nl0:(Tryz.prog.info? 89).map (·.size)=some 1:=by kernel_rfl
theorem iq1:(Tryz.prog.info? 90).map (·.size)=some 64:=by kernel_rfl
theorem pt0:(Tryz.prog.info? 95).map (·.size)=some 1:=by kernel_rfl
theorem r8:(Tryz.prog.info? 97).map (·.size)=some 3:=by kernel_rfl
theorem Er0:(Tryz.prog.info? 97).bind (·.zero)=some (.agg #[.slice none 0 0,.int .i64 0,.int .i64 0]):=by kernel_rfl
theorem Bg0:(Tryz.prog.info? 123).map (·.size)=some 1:=by kernel_rfl
theorem Yi0:(Tryz.prog.info? 123).bind (·.zero)=some (.pointer none):=by kernel_rfl
theorem Nm0:(Tryz.prog.info? 123).map (fun i=>(i.zero,i.size,i.bytes))=some (some (.pointer none),1,8):=by kernel_rfl
theorem ir1:(Tryz.prog.info? 124).map (·.size)=some 1:=by kernel_rfl
theorem Yj0:(Tryz.prog.info? 125).map (·.size)=some 1:=by kernel_rfl
theorem Nn0:(Tryz.prog.info? 127).map (·.size)=some 4:=by kernel_rfl
theorem wl0:(Tryz.prog.info? 140).map (·.size)=some 1:=by kernel_rfl
theorem wm0:(Tryz.prog.info? 142).map (·.size)=some 1:=by kernel_rfl
theorem No0:(Tryz.prog.info? 143).map (·.size)=some 1:=by kernel_rfl
theorem Yk0:(Tryz.prog.info? 145).map (·.size)=some 2:=by kernel_rfl
theorem Yl0:(Tryz.prog.info? 157).map (·.size)=some 1:=by kernel_rfl
theorem pu0:(Tryz.prog.info? 162).map (·.size)=some 2:=by kernel_rfl
theorem is1:(Tryz.prog.info? 166).bind (·.zero)=some (.agg #[.pointer none,.pointer none,.pointer none,.pointer none]):=by kernel_rfl
theorem Hi0:(Tryz.prog.info? 169).map (·.size)=some 1:=by kernel_rfl
theorem Ym0:(Tryz.prog.info? 170).map (·.size)=some 1:=by kernel_rfl
theorem Np0:(Tryz.prog.info? 171).map (·.size)=some 1:=by kernel_rfl
theorem it1:(Tryz.prog.info? 189).map (·.size)=some 1:=by kernel_rfl
theorem fd0:(Tryz.prog.info? 195).map (·.size)=some 1:=by kernel_rfl
theorem iu1:(Tryz.prog.info? 195).bind (·.zero)=some (.slice none 0 0):=by kernel_rfl
theorem nl0:(Tryz.prog.info? 195).map (fun i=>(i.zero,i.size,i.bytes))=some (some (.slice none 0 0),1,24):=by kernel_rfl
theorem Yn0:(Tryz.prog.info? 246).map (·.size)=some 1:=by kernel_rfl
theorem nm0:(Tryz.f0.name== "runtime.NumGoroutine")=false:=by kernel_rfl
theorem nm1:(Tryz.f1.name== "runtime.NumGoroutine")=false:=by kernel_rfl
theorem nm2:(Tryz.f2.name== "runtime.NumGoroutine")=false:=by kernel_rfl
theorem nm3:(Tryz.f3.name== "runtime.NumGoroutine")=false:=by kernel_rfl
theorem iv1:(Tryz.f11.name== "runtime.NumGoroutine")=false:=by kernel_rfl
theorem pn1:(Tryz.f12.name== "runtime.NumGoroutine")=false:=by kernel_rfl
theorem po1:(Tryz.f13.name== "runtime.NumGoroutine")=false:=by kernel_rfl
theorem iw1:(Tryz.f15.name== "runtime.NumGoroutine")=false:=by kernel_rfl
theorem pp1:(Tryz.f16.name== "runtime.NumGoroutine")=false:=by kernel_rfl
theorem pq1:(Tryz.f17.name== "runtime.NumGoroutine")=false:=by kernel_rfl
theorem pr1:(Tryz.f18.name== "runtime.NumGoroutine")=false:=by kernel_rfl
theorem ix1:(Tryz.f19.name== "runtime.NumGoroutine")=false:=by kernel_rfl
theorem ps1:(Tryz.f23.name== "runtime.NumGoroutine")=false:=by kernel_rfl
theorem pt1:(Tryz.f24.name== "runtime.NumGoroutine")=false:=by kernel_rfl
theorem pu1:(Tryz.f25.name== "runtime.NumGoroutine")=false:=by kernel_rfl
theorem iy1:(Tryz.f26.name== "runtime.NumGoroutine")=false:=by kernel_rfl
theorem iz1:(Tryz.f27.name== "runtime.NumGoroutine")=false:=by kernel_rfl
theorem ja1:(Tryz.f28.name== "runtime.NumGoroutine")=false:=by kernel_rfl
theorem pv1:(Tryz.f29.name== "runtime.NumGoroutine")=false:=by kernel_rfl
theorem jb1:(Tryz.f30.name== "runtime.NumGoroutine")=false:=by kernel_rfl
theorem jc1:(Tryz.f31.name== "runtime.NumGoroutine")=false:=by kernel_rfl
theorem pw1:(Tryz.f37.name== "runtime.NumGoroutine")=false:=by kernel_rfl
theorem px1:(Tryz.f38.name== "runtime.NumGoroutine")=false:=by kernel_rfl
theorem Um0:(Tryz.f39.name== "runtime.NumGoroutine")=false:=by kernel_rfl
theorem py1:(Tryz.f40.name== "runtime.NumGoroutine")=false:=by kernel_rfl
theorem pz1:(Tryz.f41.name== "runtime.NumGoroutine")=false:=by kernel_rfl
theorem qa1:(Tryz.f47.name== "runtime.NumGoroutine")=false:=by kernel_rfl
theorem qb1:(Tryz.f48.name== "runtime.NumGoroutine")=false:=by kernel_rfl
theorem qc1:(Tryz.f49.name== "runtime.NumGoroutine")=false:=by kernel_rfl
theorem bu1:(Tryz.f50.name== "runtime.NumGoroutine")=false:=by kernel_rfl
theorem jd1:(Tryz.f51.name== "runtime.NumGoroutine")=false:=by kernel_rfl
theorem je1:(Tryz.f52.name== "runtime.NumGoroutine")=false:=by kernel_rfl
theorem Es0:(Tryz.f53.name== "runtime.NumGoroutine")=false:=by kernel_rfl
theorem jf1:(Tryz.f54.name== "runtime.NumGoroutine")=false:=by kernel_rfl
theorem qd1:(Tryz.f55.name== "runtime.NumGoroutine")=false:=by kernel_rfl
theorem jg1:(Tryz.f56.name== "runtime.NumGoroutine")=false:=by kernel_rfl
theorem qe1:(Tryz.f57.name== "runtime.NumGoroutine")=false:=by kernel_rfl
theorem qf1:(Tryz.f58.name== "runtime.NumGoroutine")=false:=by kernel_rfl
theorem qg1:(Tryz.f59.name== "runtime.NumGoroutine")=false:=by kernel_rfl
theorem jh1:(Tryz.f60.name== "runtime.NumGoroutine")=false:=by kernel_rfl
theorem qh1:(Tryz.f62.name== "runtime.NumGoroutine")=false:=by kernel_rfl
theorem qi1:(Tryz.f64.name== "runtime.NumGoroutine")=false:=by kernel_rfl
theorem qj1:(Tryz.f68.name== "runtime.NumGoroutine")=false:=by kernel_rfl
theorem bv1:(Tryz.f69.name== "runtime.NumGoroutine")=false:=by kernel_rfl
theorem oa0:(Tryz.f70.name== "runtime.NumGoroutine")=false:=by kernel_rfl
theorem Nq0:(Tryz.f71.name== "runtime.NumGoroutine")=false:=by kernel_rfl
theorem qk1:(Tryz.f72.name== "runtime.NumGoroutine")=false:=by kernel_rfl
theorem ql1:(Tryz.f73.name== "runtime.NumGoroutine")=false:=by kernel_rfl
theorem ji1:(Tryz.f74.name== "runtime.NumGoroutine")=false:=by kernel_rfl
theorem jj1:(Tryz.f75.name== "runtime.NumGoroutine")=false:=by kernel_rfl
theorem qm1:(Tryz.f76.name== "runtime.NumGoroutine")=false:=by kernel_rfl
theorem jk1:(Tryz.f77.name== "runtime.NumGoroutine")=false:=by kernel_rfl
theorem qn1:(Tryz.f78.name== "runtime.NumGoroutine")=false:=by kernel_rfl
theorem qo1:(Tryz.f79.name== "runtime.NumGoroutine")=false:=by kernel_rfl
theorem qp1:(Tryz.f80.name== "runtime.NumGoroutine")=false:=by kernel_rfl
theorem jl1:(Tryz.f90.name== "runtime.NumGoroutine")=false:=by kernel_rfl
theorem qq1:(Tryz.f91.name== "runtime.NumGoroutine")=false:=by kernel_rfl
theorem qr1:(Tryz.f92.name== "runtime.NumGoroutine")=false:=by kernel_rfl
theorem Un0:(Tryz.f93.name== "runtime.NumGoroutine")=false:=by kernel_rfl
theorem qs1:(Tryz.f94.name== "runtime.NumGoroutine")=false:=by kernel_rfl
theorem jm1:(Tryz.f96.name== "runtime.NumGoroutine")=false:=by kernel_rfl
theorem jn1:(Tryz.f97.name== "runtime.NumGoroutine")=false:=by kernel_rfl
theorem Nr0:(Tryz.f98.name== "runtime.NumGoroutine")=false:=by kernel_rfl
theorem qt1:(Tryz.f99.name== "runtime.NumGoroutine")=false:=by kernel_rfl
theorem Yo0:(Tryz.f100.name== "runtime.NumGoroutine")=false:=by kernel_rfl
theorem Yp0:(Tryz.f101.name== "runtime.NumGoroutine")=false:=by kernel_rfl
theorem jo1:(Tryz.f102.name== "runtime.NumGoroutine")=false:=by kernel_rfl
theorem Ns0:(Tryz.f103.name== "runtime.NumGoroutine")=false:=by kernel_rfl
theorem jp1:(Tryz.f104.name== "runtime.NumGoroutine")=false:=by kernel_rfl
theorem jq1:(Tryz.f105.name== "runtime.NumGoroutine")=false:=by kernel_rfl
theorem jr1:(Tryz.f106.name== "runtime.NumGoroutine")=false:=by kernel_rfl
theorem js1:(Tryz.f107.name== "runtime.NumGoroutine")=false:=by kernel_rfl
theorem Nt0:(Tryz.f108.name== "runtime.NumGoroutine")=false:=by kernel_rfl
theorem pv0:(Tryz.f109.name== "runtime.NumGoroutine")=false:=by kernel_rfl
theorem Yq0:(Tryz.f110.name== "runtime.NumGoroutine")=false:=by kernel_rfl
theorem Yr0:(Tryz.f114.name== "runtime.NumGoroutine")=false:=by kernel_rfl
theorem jt1:(Tryz.f115.name== "runtime.NumGoroutine")=false:=by kernel_rfl
theorem Nu0:(Tryz.f116.name== "runtime.NumGoroutine")=false:=by kernel_rfl
theorem ju1:(Tryz.f117.name== "runtime.NumGoroutine")=false:=by kernel_rfl
theorem jv1:(Tryz.f119.name== "runtime.NumGoroutine")=false:=by kernel_rfl
theorem jw1:(Tryz.f120.name== "runtime.NumGoroutine")=false:=by kernel_rfl
theorem jx1:(Tryz.f122.name== "runtime.NumGoroutine")=false:=by kernel_rfl
theorem jy1:(Tryz.f123.name== "runtime.NumGoroutine")=false:=by kernel_rfl
theorem jz1:(Tryz.f124.name== "runtime.NumGoroutine")=false:=by kernel_rfl
theorem Nv0:(Tryz.f126.name== "runtime.NumGoroutine")=false:=by kernel_rfl
theorem Ys0:(Tryz.f127.name== "runtime.NumGoroutine")=false:=by kernel_rfl
theorem ka1:(Tryz.f128.name== "runtime.NumGoroutine")=false:=by kernel_rfl
theorem Yt0:(Tryz.f132.name== "runtime.NumGoroutine")=false:=by kernel_rfl
theorem kb1:(Tryz.f134.name== "runtime.NumGoroutine")=false:=by kernel_rfl
theorem kc1:(Tryz.f135.name== "runtime.NumGoroutine")=false:=by kernel_rfl
theorem Yu0:(Tryz.f137.name== "runtime.NumGoroutine")=false:=by kernel_rfl
theorem Nw0:(Tryz.f138.name== "runtime.NumGoroutine")=false:=by kernel_rfl
theorem kd1:(Tryz.f139.name== "runtime.NumGoroutine")=false:=by kernel_rfl
theorem ke1:(Tryz.f140.name== "runtime.NumGoroutine")=false:=by kernel_rfl
theorem Nx0:(Tryz.f150.name== "runtime.NumGoroutine")=false:=by kernel_rfl
theorem kf1:(Tryz.f151.name== "runtime.NumGoroutine")=false:=by kernel_rfl
theorem kg1:(Tryz.f153.name== "runtime.NumGoroutine")=false:=by kernel_rfl
theorem kh1:(Tryz.f154.name== "runtime.NumGoroutine")=false:=by kernel_rfl
theorem Yv0:(Tryz.f206.name== "runtime.NumGoroutine")=false:=by kernel_rfl
theorem ki1:(Tryz.f207.name== "runtime.NumGoroutine")=false:=by kernel_rfl
theorem Yw0:(Tryz.f208.name== "runtime.NumGoroutine")=false:=by kernel_rfl
theorem Ny0:(Tryz.f209.name== "runtime.NumGoroutine")=false:=by kernel_rfl
theorem kj1:(Tryz.f210.name== "runtime.NumGoroutine")=false:=by kernel_rfl
theorem Yx0:(Tryz.f211.name== "runtime.NumGoroutine")=false:=by kernel_rfl
theorem kk1:(Tryz.f212.name== "runtime.NumGoroutine")=false:=by kernel_rfl
theorem Yy0:(Tryz.f213.name== "runtime.NumGoroutine")=false:=by kernel_rfl
theorem Yz0:(Tryz.f214.name== "runtime.NumGoroutine")=false:=by kernel_rfl
theorem Za0:(Tryz.f215.name== "runtime.NumGoroutine")=false:=by kernel_rfl
end Go.Proofs.YtinppmaojmdmhaaGreat
end
section
namespace Go.Proofs.YtinppmaojmdmhaaGreat
open Go.Conc Go.Yc Go.Wg
open Go.Vc (Env upd N3 ev k6 D3)
section
attribute [local irreducible] KK
theorem pw0 (d:Nat):deafBehind d #[(⟨.mark .disable,false,true⟩:Event)]=d+1:=rfl
theorem dz0 (d:Nat):deafBehind (d+1) #[(⟨.mark .enable,false,true⟩:Event)]=d:=rfl
theorem cw0 (d:Nat) {m:Mark} (h:(match m with| .disable| .enable=>false|_=>true)=true):deafBehind d #[(⟨.mark m,false,true⟩:Event)]=d:=by cases m <;> first|rfl|cases h
theorem add1 (v:Nat) (h:v<2147483648):IntKind.u64.wrap (((v*4294967296+0:Nat):Int)+1)=((v*4294967296+1:Nat):Int):=by rw[IntKind.wrap_u64];omega
theorem kl1:Extern.find Tryz.f107=some (Extern.Race.marked .releaseMerge):=by kernel_rfl
theorem km1:Extern.find Tryz.f115=some (Extern.Race.marked .read):=by kernel_rfl
theorem kn1:Extern.find Tryz.f123=some (Extern.Race.marked .write):=by kernel_rfl
theorem ko1:Extern.find Tryz.f120=some (Extern.Race.marked .acquire):=by kernel_rfl
theorem Nz0:Extern.find Tryz.f108=some (fun _=>do mark .disable;pure Extern.Race.none_):=by kernel_rfl
theorem px0:Extern.find Tryz.f109=some (fun _=>do mark .enable;pure Extern.Race.none_):=by kernel_rfl
theorem Zb0:Extern.find Tryz.f110=some (fun _=>pure (.bool false)):=by kernel_rfl
theorem Zc0:Extern.find Tryz.f137=some (Extern.Atomic.update (Op.intArith .add) .u64 true):=by kernel_rfl
theorem Oa0:Extern.find Tryz.f138=some (Extern.Atomic.loadT (.int .u64)):=by kernel_rfl
theorem kp1:Extern.find Tryz.f139=some Extern.Atomic.storeT:=by kernel_rfl
theorem kq1:Extern.find Tryz.f140=some (Extern.Atomic.casT (.int .u64)):=by kernel_rfl
theorem kr1:Extern.find Tryz.f119=some Extern.Sync.semrelease:=by kernel_rfl
theorem ks1:Extern.find Tryz.f124=some Extern.Sync.semacquire:=by kernel_rfl
theorem Zd0:(Tryz.prog.info? 143).map (fun i=>decide (i.size=0))=some false:=by kernel_rfl
theorem Ze0:(Tryz.prog.info? 145).map (fun i=>decide (i.size=0))=some false:=by kernel_rfl
set_option maxRecDepth 20000 in
theorem Uo0 (gr:K7) {c:Frame} {cs:List Frame} (hcm:c.mode= .returning) {N:Nat} (hT:QuitsD Tryz.prog N 0 (Conc.G c cs)):∃n,Lt Tryz.prog gr n 0 (Conc.G ((baseD 62).at {tmps:=#[.pointer (some ⟨gr.blk,gr.off,none⟩)]++Array.replicate (Tryz.f62.ntmps-1) undef,defers:=[]} [.code (Tryz.f62.body.getD .skip)]) (c::cs)):=by
 refine⟨N+500,(?_:At (fun m d g=>Lt Tryz.prog gr m d g) (N+500) 4 (baseD 62) (c::cs) [] 0 (Wg.bp0 #[.pointer (some ⟨gr.blk,gr.off,none⟩)]) [.code (Tryz.f62.body.getD .skip)]) _ (ey0 _ _ rfl)⟩;refine At.region (P3 _ gr) ?_;refine M0.val (P3 _ gr) (bkd _) rfl (v:=.pointer (some ⟨gr.blk,gr.off,none⟩)) (L0 rfl) ?_;refine M0.call (P3 _ gr) (bkd _) [.pointer (some ⟨gr.blk,gr.off,none⟩),.i (-1)] 117 rfl Tryz.func60 jh1 rfl rfl rfl (fun cs1 O7=>?_);refine At.seq (P3 _ gr) ?_;refine At.X7 (P3 _ gr) rfl ?_;refine At.seq (P3 _ gr) ?_;refine U118 ?_;refine M0.val (P3 _ gr) (K1 _) rfl (v:=.i (-1)) (L0 rfl) ?_;refine M0.val (P3 _ gr) (K1 _) rfl (v:=.bool true) (iw0 (r:=true) rfl rfl (by decide)) ?_;refine M0.nil (P3 _ gr) ?_;refine At.X7 (P3 _ gr) rfl ?_;refine At.region (P3 _ gr) ?_;refine M0.val (P3 _ gr) (K1 _) rfl (v:=.pointer (some ⟨gr.blk,gr.off,none⟩)) (L0 rfl) ?_;refine M0.toUnsafe (hu1 _ gr) (K1 _) rfl rfl (.inl rfl) Tryz.underlying203 Tryz.underlying205 Ze0 ?_;refine M0.yr0 (P3 _ gr) (K1 _) .releaseMerge (by simp) rfl rfl Tryz.func107 js1 rfl rfl kl1 rfl ?_;rw[cw0 _ rfl];refine U312 ?_;refine M0.He0 (P3 _ gr) (K1 _) .disable (by simp) rfl rfl Tryz.func108 Nt0 rfl rfl Nz0 ?_;simp only[pw0];refine M0.nil (P3 _ gr) ?_;refine At.region (P3 _ gr) ?_;refine M0.defer (P3 _ gr) (K1 _) [] rfl ?_;refine U312 ?_;refine M0.val (P3 _ gr) (K1 _) rfl (v:=.bool false) (G1 rfl) ?_;refine M0.nil (P3 _ gr) ?_;refine At.seq (P3 _ gr) ?_;refine U118 ?_;refine M0.wi0 (P3 _ gr) (K1 _) (.bool false) rfl Tryz.func110 Yq0 rfl rfl Zb0 ?_;refine M0.nil (P3 _ gr) ?_;refine At.Q6 (P3 _ gr) rfl ?_;refine At.skip (P3 _ gr) ?_;refine U118 ?_;refine U370 ?_;refine M0.val (P3 _ gr) (K1 _) rfl (v:=.pointer (some ⟨gr.blk,gr.off,none⟩)) (v5 (s:=1) gr.off gr.off rfl Tryz.underlying145 rfl wm0 (by decide) rfl) ?_;refine M0.val (P3 _ gr) (K1 _) rfl (v:=.i (-1)) (L0 rfl) ?_;refine M0.val (P3 _ gr) (K1 _) rfl (v:=.int .u64 18446744073709551615) (C4 (r:=18446744073709551615) rfl Tryz.underlying3 Tryz.underlying140 (by decide)) ?_;refine M0.val (P3 _ gr) (K1 _) rfl (v:=.int .u64 18446744069414584320) (Na0 (r:=18446744069414584320) rfl rfl (by decide) (by decide)) ?_;refine M0.call (P3 _ gr) (K1 _) [.pointer (some ⟨gr.blk,gr.off,none⟩),.int .u64 18446744069414584320] 10 rfl Tryz.func114 Yr0 rfl rfl rfl (fun cs2 hb2=>?_);refine U118 ?_;refine M0.val (P3 _ gr) (K1 _) rfl (v:=.int .u64 0) (G1 rfl) ?_;refine U312 ?_;refine U370 ?_;refine M0.val (P3 _ gr) (K1 _) rfl (v:=.pointer (some ⟨gr.blk,gr.off,none⟩)) (v5 (s:=1) gr.off gr.off rfl Tryz.underlying142 rfl wl0 (by decide) rfl) ?_;refine M0.val (P3 _ gr) (K1 _) rfl (v:=.int .u64 18446744069414584320) (L0 rfl) ?_;refine M0.hv1 (K1 _) rfl Tryz.func137 Yu0 rfl rfl Zc0 rfl rfl (fun v wt hwt hv X3=>?_) ?_
 ·by_cases hv0:0<v
  ·have hwc:wt=0\/wt=1:=by omega
   rcases hwc with rfl|rfl
   ·refine M0.val (E0 _) (K1 _) rfl (v:=.int .u64 (((v*4294967296+0:Nat):Int))) (G1 rfl) ?_;refine M0.nil (E0 _) ?_;refine At.ret (E0 _) (fun _=>?_);refine AtR.leave1 (E0 _) hb2 rfl Tryz.func114 rfl (.int .u64 (((v*4294967296+0:Nat):Int))) rfl ?_;refine M0.val (E0 _) (K1 _) rfl (v:=.int .u64 (((v*4294967296+0:Nat):Int))) (G1 rfl) ?_;refine U83 ?_;refine M0.val (E0 _) (K1 _) rfl (v:=.int .u64 (((v*4294967296+0:Nat):Int))) (L0 rfl) ?_;refine M0.val (E0 _) (K1 _) rfl (v:=.int .u64 0) (K8 (r:=0) rfl rfl (pr0 v 0 (by omega) (by omega))) ?_;refine U112 ?_;refine U195 ?_;refine U430 ?_;refine M0.val (E0 _) (K1 _) rfl (v:=.int .u64 (((v:Nat):Int))) (in0 (r:=((v:Nat):Int)) rfl rfl (by decide) (ps0 v 0 (by omega))) ?_;refine U358 ?_;refine M0.nil (E0 _) ?_;refine U430 ?_;refine M0.val (E0 _) (K1 _) rfl (v:=.int .u64 0) (K8 (r:=0) rfl rfl (jw0 v 0 (by omega) (by omega))) ?_;refine U368 ?_;refine U83 ?_;refine U232 ?_;refine U230 ?_;refine U416 ?_;refine U278 ?_;refine U112 ?_;refine U244 ?_;refine U230 ?_;refine U383 ?_;refine U457 ?_;refine U289 ?_;refine At.ret (E0 _) (fun _=>?_);refine AtR.mark (E0 _) .enable (by simp) rfl Tryz.func109 pv0 rfl rfl px0 ?_;simp only[dz0];refine U172 ?_;refine At.done (E0 _) (fun _=>?_);exact U171
   ·refine M0.val (E0 _) (K1 _) rfl (v:=.int .u64 (((v*4294967296+1:Nat):Int))) (G1 rfl) ?_;refine M0.nil (E0 _) ?_;refine At.ret (E0 _) (fun _=>?_);refine AtR.leave1 (E0 _) hb2 rfl Tryz.func114 rfl (.int .u64 (((v*4294967296+1:Nat):Int))) rfl ?_;refine M0.val (E0 _) (K1 _) rfl (v:=.int .u64 (((v*4294967296+1:Nat):Int))) (G1 rfl) ?_;refine U83 ?_;refine M0.val (E0 _) (K1 _) rfl (v:=.int .u64 (((v*4294967296+1:Nat):Int))) (L0 rfl) ?_;refine M0.val (E0 _) (K1 _) rfl (v:=.int .u64 0) (K8 (r:=0) rfl rfl (pr0 v 1 (by omega) (by omega))) ?_;refine U112 ?_;refine U195 ?_;refine U431 ?_;refine M0.val (E0 _) (K1 _) rfl (v:=.int .u64 (((v:Nat):Int))) (in0 (r:=((v:Nat):Int)) rfl rfl (by decide) (ps0 v 1 (by omega))) ?_;refine U358 ?_;refine M0.nil (E0 _) ?_;refine U431 ?_;refine M0.val (E0 _) (K1 _) rfl (v:=.int .u64 1) (K8 (r:=1) rfl rfl (jw0 v 1 (by omega) (by omega))) ?_;refine M0.val (E0 _) (K1 _) rfl (v:=.int .u32 1) (C4 (r:=1) rfl Tryz.underlying140 Tryz.underlying143 (by decide)) ?_;refine M0.val (E0 _) (K1 _) rfl (v:=.int .u32 1) (G1 rfl) ?_;refine U83 ?_;refine U232 ?_;refine U230 ?_;refine U416 ?_;refine U113 ?_;refine M0.val (E0 _) (K1 _) rfl (v:=.int .u32 1) (L0 rfl) ?_;refine M0.val (E0 _) (K1 _) rfl (v:=.bool true) (W9 (r:=true) rfl rfl (by decide)) ?_;refine U232 ?_;refine U230 ?_;refine U383 ?_;refine U457 ?_;refine U289 ?_;refine At.ret (E0 _) (fun _=>?_);refine AtR.mark (E0 _) .enable (by simp) rfl Tryz.func109 pv0 rfl rfl px0 ?_;simp only[dz0];refine U172 ?_;refine At.done (E0 _) (fun _=>?_);exact U171
  ·obtain rfl:v=0:=by omega
   obtain rfl:wt=0:=by omega
   refine M0.val (E0 _) (K1 _) rfl (v:=.int .u64 (((0*4294967296+0:Nat):Int))) (G1 rfl) ?_;refine M0.nil (E0 _) ?_;refine At.ret (E0 _) (fun _=>?_);refine AtR.leave1 (E0 _) hb2 rfl Tryz.func114 rfl (.int .u64 (((0*4294967296+0:Nat):Int))) rfl ?_;refine M0.val (E0 _) (K1 _) rfl (v:=.int .u64 (((0*4294967296+0:Nat):Int))) (G1 rfl) ?_;refine U83 ?_;refine M0.val (E0 _) (K1 _) rfl (v:=.int .u64 (((0*4294967296+0:Nat):Int))) (L0 rfl) ?_;refine M0.val (E0 _) (K1 _) rfl (v:=.int .u64 0) (K8 (r:=0) rfl rfl (pr0 0 0 (by omega) (by omega))) ?_;refine U112 ?_;refine U195 ?_;refine U432 ?_;refine M0.val (E0 _) (K1 _) rfl (v:=.int .u64 (((0:Nat):Int))) (in0 (r:=((0:Nat):Int)) rfl rfl (by decide) (ps0 0 0 (by omega))) ?_;refine M0.val (E0 _) (K1 _) rfl (v:=.int .i32 (((0:Nat):Int))) (C4 (r:=((0:Nat):Int)) rfl Tryz.underlying140 Tryz.underlying21 (fa0 0 (by omega))) ?_;refine M0.val (E0 _) (K1 _) rfl (v:=.int .i32 (((0:Nat):Int))) (G1 rfl) ?_;refine M0.nil (E0 _) ?_;refine U432 ?_;refine M0.val (E0 _) (K1 _) rfl (v:=.int .u64 0) (K8 (r:=0) rfl rfl (jw0 0 0 (by omega) (by omega))) ?_;refine U368 ?_;refine U83 ?_;refine U232 ?_;refine U304 ?_;refine U448 ?_;refine M0.val (E0 _) (K1 _) rfl (v:=.bool false) (iw0 (r:=false) rfl rfl (by decide)) ?_;refine U252 ?_;refine U278 ?_;refine U112 ?_;refine U244 ?_;refine U304 ?_;refine U448 ?_;refine M0.val (E0 _) (K1 _) rfl (v:=.bool false) (gh0 (r:=false) rfl rfl (by decide)) ?_;refine M0.val (E0 _) (K1 _) rfl (v:=.bool false) (L0 rfl) ?_;refine M0.ei0 (E0 _) (K1 _) rfl rfl (v:=.int .u32 0) (L0 rfl) ?_;refine M0.ei0 (E0 _) (K1 _) rfl rfl (v:=.bool true) (dy0 (r:=true) rfl rfl (by decide)) ?_;refine M0.val (E0 _) (K1 _) rfl (v:=.bool true) (ez0 rfl rfl) ?_;refine U289 ?_;refine At.ret (E0 _) (fun _=>?_);refine AtR.mark (E0 _) .enable (by simp) rfl Tryz.func109 pv0 rfl rfl px0 ?_;simp only[dz0];refine U172 ?_;refine At.done (E0 _) (fun _=>?_);exact U171
 ·refine M0.val (S0 _ gr 2) (K1 _) rfl (v:=.int .u64 (((0*4294967296+1:Nat):Int))) (G1 rfl) ?_;refine M0.nil (S0 _ gr 2) ?_;refine At.ret (S0 _ gr 2) (fun _=>?_);refine AtR.leave1 (S0 _ gr 2) hb2 rfl Tryz.func114 rfl (.int .u64 (((0*4294967296+1:Nat):Int))) rfl ?_;refine M0.val (S0 _ gr 2) (K1 _) rfl (v:=.int .u64 (((0*4294967296+1:Nat):Int))) (G1 rfl) ?_;refine M0.nil (S0 _ gr 2) ?_;refine At.seq (S0 _ gr 2) ?_;refine U265 ?_;refine M0.val (S0 _ gr 2) (K1 _) rfl (v:=.int .u64 0) (K8 (r:=0) rfl rfl (pr0 0 1 (by omega) (by omega))) ?_;refine M0.val (S0 _ gr 2) (K1 _) rfl (v:=.bool false) (W9 (r:=false) rfl rfl (by decide)) ?_;refine U276 ?_;refine U167 ?_;refine U120 ?_;refine U265 ?_;refine M0.val (S0 _ gr 2) (K1 _) rfl (v:=.int .u64 (((0:Nat):Int))) (in0 (r:=((0:Nat):Int)) rfl rfl (by decide) (ps0 0 1 (by omega))) ?_;refine M0.val (S0 _ gr 2) (K1 _) rfl (v:=.int .i32 (((0:Nat):Int))) (C4 (r:=((0:Nat):Int)) rfl Tryz.underlying140 Tryz.underlying21 (fa0 0 (by omega))) ?_;refine M0.val (S0 _ gr 2) (K1 _) rfl (v:=.int .i32 (((0:Nat):Int))) (G1 rfl) ?_;refine M0.nil (S0 _ gr 2) ?_;refine U265 ?_;refine M0.val (S0 _ gr 2) (K1 _) rfl (v:=.int .u64 1) (K8 (r:=1) rfl rfl (jw0 0 1 (by omega) (by omega))) ?_;refine M0.val (S0 _ gr 2) (K1 _) rfl (v:=.int .u32 1) (C4 (r:=1) rfl Tryz.underlying140 Tryz.underlying143 (by decide)) ?_;refine M0.val (S0 _ gr 2) (K1 _) rfl (v:=.int .u32 1) (G1 rfl) ?_;refine M0.nil (S0 _ gr 2) ?_;refine U192 ?_;refine U402 ?_;refine U384 ?_;refine U276 ?_;refine U259 ?_;refine U167 ?_;refine U120 ?_;refine U447 ?_;refine M0.val (S0 _ gr 2) (K1 _) rfl (v:=.bool false) (iw0 (r:=false) rfl rfl (by decide)) ?_;refine M0.nil (S0 _ gr 2) ?_;refine U120 ?_;refine U192 ?_;refine M0.val (S0 _ gr 2) (K1 _) rfl (v:=.int .u32 1) (L0 rfl) ?_;refine M0.val (S0 _ gr 2) (K1 _) rfl (v:=.bool true) (W9 (r:=true) rfl rfl (by decide)) ?_;refine U402 ?_;refine U384 ?_;refine U276 ?_;refine U259 ?_;refine U167 ?_;refine U120 ?_;refine U447 ?_;refine M0.val (S0 _ gr 2) (K1 _) rfl (v:=.bool false) (gh0 (r:=false) rfl rfl (by decide)) ?_;refine M0.val (S0 _ gr 2) (K1 _) rfl (v:=.bool false) (L0 rfl) ?_;refine M0.ei0 (S0 _ gr 2) (K1 _) rfl rfl (v:=.int .u32 1) (L0 rfl) ?_;refine M0.ei0 (S0 _ gr 2) (K1 _) rfl rfl (v:=.bool false) (dy0 (r:=false) rfl rfl (by decide)) ?_;refine U167 ?_;refine U120 ?_;refine U192 ?_;refine U366 ?_;refine M0.val (S0 _ gr 2) (K1 _) rfl (v:=.pointer (some ⟨gr.blk,gr.off,none⟩)) (v5 (s:=1) gr.off gr.off rfl Tryz.underlying145 rfl wm0 (by decide) rfl) ?_;refine M0.call (S0 _ gr 2) (K1 _) [.pointer (some ⟨gr.blk,gr.off,none⟩)] 7 rfl Tryz.func116 Nu0 rfl rfl rfl (fun cs3 hb3=>?_);refine U152 ?_;refine M0.val (S0 _ gr 2) (K1 _) rfl (v:=.int .u64 0) (G1 rfl) ?_;refine M0.nil (S0 _ gr 2) ?_;refine U152 ?_;refine U366 ?_;refine M0.val (S0 _ gr 2) (K1 _) rfl (v:=.pointer (some ⟨gr.blk,gr.off,none⟩)) (v5 (s:=1) gr.off gr.off rfl Tryz.underlying142 rfl wl0 (by decide) rfl) ?_;refine M0.Uh0 (K1 _) rfl Tryz.func138 Nw0 rfl rfl Oa0 rfl ?_;refine M0.val (S0 _ gr 1) (K1 _) rfl (v:=.int .u64 1) (G1 rfl) ?_;refine M0.nil (S0 _ gr 1) ?_;refine At.ret (S0 _ gr 1) (fun _=>?_);refine AtR.leave1 (S0 _ gr 1) hb3 rfl Tryz.func116 rfl (.int .u64 1) rfl ?_;refine M0.val (S0 _ gr 1) (K1 _) rfl (v:=.int .u64 (((0*4294967296+1:Nat):Int))) (L0 rfl) ?_;refine M0.val (S0 _ gr 1) (K1 _) rfl (v:=.bool false) (W9 (r:=false) rfl rfl (by decide)) ?_;refine M0.nil (S0 _ gr 1) ?_;refine At.Q6 (S0 _ gr 1) rfl ?_;refine At.skip (S0 _ gr 1) ?_;refine At.seq (S0 _ gr 1) ?_;refine At.region (S0 _ gr 1) ?_;refine U367 ?_;refine M0.val (S0 _ gr 1) (K1 _) rfl (v:=.pointer (some ⟨gr.blk,gr.off,none⟩)) (v5 (s:=1) gr.off gr.off rfl Tryz.underlying145 rfl wm0 (by decide) rfl) ?_;refine M0.call (S0 _ gr 1) (K1 _) [.pointer (some ⟨gr.blk,gr.off,none⟩),.int .u64 0] 9 rfl Tryz.func117 ju1 rfl rfl rfl (fun cs4 hb4=>?_);refine At.region (S0 _ gr 1) ?_;refine U367 ?_;refine M0.val (S0 _ gr 1) (K1 _) rfl (v:=.pointer (some ⟨gr.blk,gr.off,none⟩)) (v5 (s:=1) gr.off gr.off rfl Tryz.underlying142 rfl wl0 (by decide) rfl) ?_;refine M0.val (S0 _ gr 1) (K1 _) rfl (v:=.int .u64 0) (L0 rfl) ?_;refine M0.Nd0 (K1 _) rfl Tryz.func139 kd1 rfl rfl kp1 rfl rfl ?_;refine M0.nil (S0 _ gr 0) ?_;refine At.done (S0 _ gr 0) (fun _=>?_);refine AtR.leave0 (S0 _ gr 0) hb4 rfl Tryz.func117 rfl ?_;refine M0.nil (S0 _ gr 0) ?_;refine At.seq (S0 _ gr 0) ?_;refine U497 ?_;refine M0.val (S0 _ gr 0) (K1 _) rfl (v:=.bool false) (L0 rfl) ?_;refine M0.nil (S0 _ gr 0) ?_;refine At.Q6 (S0 _ gr 0) rfl ?_;refine At.skip (S0 _ gr 0) ?_;refine At.block (S0 _ gr 0) ?_;refine At.loop (S0 _ gr 0) ?_;refine At.seq (S0 _ gr 0) ?_;refine U497 ?_;refine M0.val (S0 _ gr 0) (K1 _) rfl (v:=.int .u32 1) (L0 rfl) ?_;refine M0.val (S0 _ gr 0) (K1 _) rfl (v:=.bool true) (W9 (r:=true) rfl rfl (by decide)) ?_;refine M0.nil (S0 _ gr 0) ?_;refine At.X7 (S0 _ gr 0) rfl ?_;refine At.skip (S0 _ gr 0) ?_;refine At.seq (S0 _ gr 0) ?_;refine At.block (S0 _ gr 0) ?_;refine At.region (S0 _ gr 0) ?_;refine M0.val (S0 _ gr 0) (K1 _) rfl (v:=.pointer (some ⟨gr.blk,gr.off,none⟩)) (L0 rfl) ?_;refine M0.val (S0 _ gr 0) (K1 _) rfl (v:=.pointer (some ⟨gr.blk,gr.off,none⟩)) (G5 rfl) ?_;refine M0.val (S0 _ gr 0) (K1 _) rfl (v:=.pointer (some ⟨gr.blk,gr.off+1,none⟩)) (v5 (s:=1) gr.off (gr.off+1) rfl Tryz.underlying145 rfl No0 (by decide) rfl) ?_;refine M0.bj1 (K1 _) rfl Tryz.func119 jv1 rfl rfl kr1 rfl ?_;refine M0.nil (E0 _) ?_;refine At.inBlock (E0 _) ?_;refine At.region (E0 _) ?_;refine M0.val (E0 _) (K1 _) rfl (v:=.int .u32 1) (L0 rfl) ?_;refine M0.val (E0 _) (K1 _) rfl (v:=.int .u32 0) (bi1 (r:=0) rfl rfl (by decide)) ?_;refine M0.val (E0 _) (K1 _) rfl (v:=.int .u32 0) (G1 rfl) ?_;refine M0.nil (E0 _) ?_;refine At.inLoop (E0 _) ?_;refine U278 ?_;refine M0.val (E0 _) (K1 _) rfl (v:=.bool false) (W9 (r:=false) rfl rfl (by decide)) ?_;refine U333 ?_;refine At.exit (E0 _) rfl ?_;refine At.done (E0 _) (fun _=>?_);refine AtR.mark (E0 _) .enable (by simp) rfl Tryz.func109 pv0 rfl rfl px0 ?_;simp only[dz0];refine U172 ?_;refine At.done (E0 _) (fun _=>?_);exact U171
set_option maxRecDepth 20000 in
theorem kt1 (gr:K7) (K:Goroutine->Prop) {c:Frame} {cs:List Frame} (hK:K (Conc.G (c.finish (.tuple #[])) cs)):Lm0 Tryz.prog gr K 500 0 (Conc.G (Frame.enter Tryz.prog 60 #[.pointer (some ⟨gr.blk,gr.off,none⟩),.i 1] .normal) (c::cs)):=by
 rw[enter_at _ Tryz.func60 rfl];refine(?_:At (Ne0 Tryz.prog gr K) 500 117 (base 60) (c::cs) [] 0 (Wg.bp0 #[.pointer (some ⟨gr.blk,gr.off,none⟩),.i 1]) [.code (Tryz.f60.body.getD .skip)]) _ (ey0 _ _ rfl);refine At.seq A3 ?_;refine At.X7 A3 rfl ?_;refine At.seq A3 ?_;refine U66 ?_;refine M0.val A3 (K1 _) rfl (v:=.i 1) (L0 rfl) ?_;refine M0.val A3 (K1 _) rfl (v:=.bool false) (iw0 (r:=false) rfl rfl (by decide)) ?_;refine U523 ?_;refine At.skip A3 ?_;refine U66 ?_;refine M0.He0 A3 (K1 _) .disable (by simp) (.inl rfl) rfl Tryz.func108 Nt0 rfl rfl Nz0 ?_;simp only[pw0];refine M0.nil A3 ?_;refine At.region A3 ?_;refine M0.defer A3 (K1 _) [] rfl ?_;refine M0.nil A3 ?_;refine U66 ?_;refine M0.val A3 (K1 _) rfl (v:=.bool false) (G1 rfl) ?_;refine M0.nil A3 ?_;refine At.seq A3 ?_;refine U66 ?_;refine M0.wi0 A3 (K1 _) (.bool false) rfl Tryz.func110 Yq0 rfl rfl Zb0 ?_;refine U523 ?_;refine At.skip A3 ?_;refine U66 ?_;refine U378 ?_;refine M0.val A3 (K1 _) rfl (v:=.pointer (some ⟨gr.blk,gr.off,none⟩)) (v5 (s:=1) gr.off gr.off rfl Tryz.underlying145 rfl wm0 (by decide) rfl) ?_;refine M0.val A3 (K1 _) rfl (v:=.i 1) (L0 rfl) ?_;refine M0.val A3 (K1 _) rfl (v:=.int .u64 1) (C4 (r:=1) rfl Tryz.underlying3 Tryz.underlying140 (by decide)) ?_;refine M0.val A3 (K1 _) rfl (v:=.int .u64 4294967296) (Na0 (r:=4294967296) rfl rfl (by decide) (by decide)) ?_;refine M0.call A3 (K1 _) [.pointer (some ⟨gr.blk,gr.off,none⟩),.int .u64 4294967296] 10 rfl Tryz.func114 Yr0 rfl rfl rfl (fun cs1 O7=>?_);refine U66 ?_;refine M0.val A3 (K1 _) rfl (v:=.int .u64 0) (G1 rfl) ?_;refine M0.nil A3 ?_;refine U66 ?_;refine U378 ?_;refine M0.val A3 (K1 _) rfl (v:=.pointer (some ⟨gr.blk,gr.off,none⟩)) (v5 (s:=1) gr.off gr.off rfl Tryz.underlying142 rfl wl0 (by decide) rfl) ?_;refine M0.val A3 (K1 _) rfl (v:=.int .u64 4294967296) (L0 rfl) ?_;refine M0.To0 (K1 _) rfl Tryz.func137 Yu0 rfl rfl Zc0 rfl rfl (fun v hv=>?_);rcases Nat.eq_zero_or_pos v with rfl|hv0
 ·refine M0.val Q0 (K1 _) rfl (v:=.int .u64 ((((0+1)*4294967296+0:Nat):Int))) (G1 rfl) ?_;refine M0.nil Q0 ?_;refine At.ret Q0 (fun _=>?_);refine AtR.leave1 Q0 O7 rfl Tryz.func114 rfl (.int .u64 ((((0+1)*4294967296+0:Nat):Int))) rfl ?_;refine M0.val Q0 (K1 _) rfl (v:=.int .u64 ((((0+1)*4294967296+0:Nat):Int))) (G1 rfl) ?_;refine U126 ?_;refine M0.val Q0 (K1 _) rfl (v:=.int .u64 ((((0+1)*4294967296+0:Nat):Int))) (L0 rfl) ?_;refine M0.val Q0 (K1 _) rfl (v:=.int .u64 0) (K8 (r:=0) rfl rfl (pr0 (0+1) 0 (by omega) (by omega))) ?_;refine U250 ?_;refine U78 ?_;refine U86 ?_;refine U433 ?_;refine M0.val Q0 (K1 _) rfl (v:=.int .u64 ((((0+1):Nat):Int))) (in0 (r:=(((0+1):Nat):Int)) rfl rfl (by decide) (ps0 (0+1) 0 (by omega))) ?_;refine M0.val Q0 (K1 _) rfl (v:=.int .i32 ((((0+1):Nat):Int))) (C4 (r:=(((0+1):Nat):Int)) rfl Tryz.underlying140 Tryz.underlying21 (fa0 (0+1) (by omega))) ?_;refine M0.val Q0 (K1 _) rfl (v:=.int .i32 ((((0+1):Nat):Int))) (G1 rfl) ?_;refine M0.nil Q0 ?_;refine U433 ?_;refine M0.val Q0 (K1 _) rfl (v:=.int .u64 0) (K8 (r:=0) rfl rfl (jw0 (0+1) 0 (by omega) (by omega))) ?_;refine U376 ?_;refine U126 ?_;refine U414 ?_;refine U475 ?_;refine M0.ei0 Q0 (K1 _) rfl rfl (v:=.int .i32 ((((0+1):Nat):Int))) (L0 rfl) ?_;refine U379 ?_;refine M0.ei0 Q0 (K1 _) rfl rfl (v:=.bool true) (dy0 (r:=true) rfl rfl (decide_eq_true (by omega))) ?_;refine U308 ?_;refine At.region Q0 ?_;refine M0.val Q0 (K1 _) rfl (v:=.pointer (some ⟨gr.blk,gr.off,none⟩)) (L0 rfl) ?_;refine M0.val Q0 (K1 _) rfl (v:=.pointer (some ⟨gr.blk,gr.off,none⟩)) (G5 rfl) ?_;refine M0.val Q0 (K1 _) rfl (v:=.pointer (some ⟨gr.blk,gr.off+1,none⟩)) (v5 (s:=1) gr.off (gr.off+1) rfl Tryz.underlying145 rfl No0 (by decide) rfl) ?_;refine M0.toUnsafe Ui0 (K1 _) rfl rfl (.inr rfl) Tryz.underlying211 Tryz.underlying205 Zd0 ?_;refine M0.yr0 Q0 (K1 _) .read (by simp) (.inr (.inl rfl)) rfl Tryz.func115 jt1 rfl rfl km1 rfl ?_;rw[cw0 _ rfl];refine U126 ?_;refine M0.val Q0 (K1 _) rfl (v:=.int .i32 ((((0+1):Nat):Int))) (L0 rfl) ?_;refine U425 ?_;refine U121 ?_;refine U472 ?_;refine U78 ?_;refine U471 ?_;refine U78 ?_;refine U86 ?_;refine U121 ?_;refine M0.val Q0 (K1 _) rfl (v:=.int .i32 ((((0+1):Nat):Int))) (L0 rfl) ?_;refine U392 ?_;refine U153 ?_;refine U308 ?_;refine At.ret Q0 (fun _=>?_);refine AtR.mark Q0 .enable (by simp) (.inl rfl) Tryz.func109 pv0 rfl rfl px0 ?_;simp only[dz0];exact U502
 ·refine M0.val Q0 (K1 _) rfl (v:=.int .u64 ((((v+1)*4294967296+0:Nat):Int))) (G1 rfl) ?_;refine M0.nil Q0 ?_;refine At.ret Q0 (fun _=>?_);refine AtR.leave1 Q0 O7 rfl Tryz.func114 rfl (.int .u64 ((((v+1)*4294967296+0:Nat):Int))) rfl ?_;refine M0.val Q0 (K1 _) rfl (v:=.int .u64 ((((v+1)*4294967296+0:Nat):Int))) (G1 rfl) ?_;refine U126 ?_;refine M0.val Q0 (K1 _) rfl (v:=.int .u64 ((((v+1)*4294967296+0:Nat):Int))) (L0 rfl) ?_;refine M0.val Q0 (K1 _) rfl (v:=.int .u64 0) (K8 (r:=0) rfl rfl (pr0 (v+1) 0 (by omega) (by omega))) ?_;refine U250 ?_;refine U78 ?_;refine U86 ?_;refine U434 ?_;refine M0.val Q0 (K1 _) rfl (v:=.int .u64 ((((v+1):Nat):Int))) (in0 (r:=(((v+1):Nat):Int)) rfl rfl (by decide) (ps0 (v+1) 0 (by omega))) ?_;refine M0.val Q0 (K1 _) rfl (v:=.int .i32 ((((v+1):Nat):Int))) (C4 (r:=(((v+1):Nat):Int)) rfl Tryz.underlying140 Tryz.underlying21 (fa0 (v+1) (by omega))) ?_;refine M0.val Q0 (K1 _) rfl (v:=.int .i32 ((((v+1):Nat):Int))) (G1 rfl) ?_;refine M0.nil Q0 ?_;refine U434 ?_;refine M0.val Q0 (K1 _) rfl (v:=.int .u64 0) (K8 (r:=0) rfl rfl (jw0 (v+1) 0 (by omega) (by omega))) ?_;refine U376 ?_;refine U126 ?_;refine U414 ?_;refine U475 ?_;refine M0.ei0 Q0 (K1 _) rfl rfl (v:=.int .i32 ((((v+1):Nat):Int))) (L0 rfl) ?_;refine U379 ?_;refine M0.ei0 Q0 (K1 _) rfl rfl (v:=.bool false) (dy0 (r:=false) rfl rfl (decide_eq_false (by omega))) ?_;refine M0.val Q0 (K1 _) rfl (v:=.bool false) (bj0 rfl rfl) ?_;refine U86 ?_;refine U449 ?_;refine U425 ?_;refine U121 ?_;refine U472 ?_;refine U78 ?_;refine U471 ?_;refine U78 ?_;refine U86 ?_;refine U449 ?_;refine U392 ?_;refine U153 ?_;refine U308 ?_;refine At.ret Q0 (fun _=>?_);refine AtR.mark Q0 .enable (by simp) (.inl rfl) Tryz.func109 pv0 rfl rfl px0 ?_;simp only[dz0];exact U502
noncomputable def Zf0:Code:=match Tryz.f64.body with|some (.seq _ (.block _ (.loop c)))=>c|_=>.skip
set_option maxRecDepth 20000 in
theorem Jh0 (gr:K7) (K:Goroutine->Prop) {c:Frame} {cs:List Frame} (hK:K (Conc.G (c.finish (.tuple #[])) cs)):∀(V:Nat),V<2147483648->∀(e:Env),At (YWH Tryz.prog gr K none V) (500*V+500) 84 (base 64) (c::cs) [] 1 (upd e 0 (.pointer (some ⟨gr.blk,gr.off,none⟩))) [.code Zf0,.inLoop Zf0,.inBlock 0]:=by
 intro V
 induction V using Nat.strongRecOn with
 |_ V ih=>
 intro hV e;refine At.block Y2 ?_;refine U45 ?_;refine U395 ?_;refine M0.call Y2 (K1 _) [.pointer (some ⟨gr.blk,gr.off,none⟩)] 7 rfl Tryz.func116 Nu0 rfl rfl rfl (fun cs1 O7=>?_);refine U45 ?_;refine M0.val Y2 (K1 _) rfl (v:=.int .u64 0) (G1 rfl) ?_;refine M0.nil Y2 ?_;refine U45 ?_;refine U396 ?_;refine M0.bl1 (K1 _) rfl Tryz.func138 Nw0 rfl rfl Oa0 rfl ?_ (fun v hv hv0=>?_)
 ·refine M0.val P2 (K1 _) rfl (v:=.int .u64 0) (G1 rfl) ?_;refine M0.nil P2 ?_;refine At.ret P2 (fun _=>?_);refine AtR.leave1 P2 O7 rfl Tryz.func116 rfl (.int .u64 0) rfl ?_;refine U274 ?_;refine U477 ?_;refine M0.val P2 (K1 _) rfl (v:=.int .u64 0) (in0 (r:=0) rfl rfl (by decide) (by decide)) ?_;refine M0.val P2 (K1 _) rfl (v:=.int .i32 0) (C4 (r:=0) rfl Tryz.underlying140 Tryz.underlying21 (by decide)) ?_;refine M0.val P2 (K1 _) rfl (v:=.int .i32 0) (G1 rfl) ?_;refine M0.nil P2 ?_;refine U477 ?_;refine M0.val P2 (K1 _) rfl (v:=.int .u64 0) (K8 (r:=0) rfl rfl (by decide)) ?_;refine M0.val P2 (K1 _) rfl (v:=.int .u32 0) (C4 (r:=0) rfl Tryz.underlying140 Tryz.underlying143 (by decide)) ?_;refine M0.val P2 (K1 _) rfl (v:=.int .u32 0) (G1 rfl) ?_;refine U200 ?_;refine U44 ?_;refine M0.val P2 (K1 _) rfl (v:=.int .i32 0) (L0 rfl) ?_;refine M0.val P2 (K1 _) rfl (v:=.bool true) (dy0 (r:=true) rfl rfl (by decide)) ?_;refine M0.nil P2 ?_;refine At.X7 P2 rfl ?_;refine At.seq P2 ?_;refine At.X7 P2 rfl ?_;refine U437 ?_;simp only[dz0];refine M0.nil P2 ?_;refine U426 ?_;refine U371 ?_;rw[cw0 _ rfl];refine U200 ?_;refine U44 ?_;refine M0.val P2 (K1 _) rfl (v:=.int .u32 0) (L0 rfl) ?_;refine M0.val P2 (K1 _) rfl (v:=.bool true) (dy0 (r:=true) rfl rfl (by decide)) ?_;refine M0.val P2 (K1 _) rfl (v:=.bool true) (L0 rfl) ?_;refine M0.ei0 P2 (K1 _) rfl rfl (v:=.int .u64 0) (L0 rfl) ?_;refine M0.ei0 P2 (K1 _) rfl rfl (v:=.int .u64 0) (K8 (r:=0) rfl rfl (by decide)) ?_;refine M0.ei0 P2 (K1 _) rfl rfl (v:=.bool false) (W9 (r:=false) rfl rfl (by decide)) ?_;refine M0.val P2 (K1 _) rfl (v:=.bool false) (bj0 rfl rfl) ?_;refine M0.val P2 (K1 _) rfl (v:=.bool false) (L0 rfl) ?_;refine M0.off P2 rfl rfl ?_;refine M0.off P2 rfl rfl ?_;refine M0.val P2 (K1 _) rfl (v:=.bool false) (ez0 rfl rfl) ?_;refine M0.nil P2 ?_;refine At.Q6 P2 rfl ?_;refine At.skip P2 ?_;refine At.ret P2 (fun _=>?_);exact U504
 ·refine M0.val Y2 (K1 _) rfl (v:=.int .u64 (((v*4294967296+0:Nat):Int))) (G1 rfl) ?_;refine M0.nil Y2 ?_;refine At.ret Y2 (fun _=>?_);refine AtR.leave1 Y2 O7 rfl Tryz.func116 rfl (.int .u64 (((v*4294967296+0:Nat):Int))) rfl ?_;refine M0.val Y2 (K1 _) rfl (v:=.int .u64 (((v*4294967296+0:Nat):Int))) (G1 rfl) ?_;refine M0.nil Y2 ?_;refine U440 ?_;refine M0.val Y2 (K1 _) rfl (v:=.int .u64 (((v:Nat):Int))) (in0 (r:=((v:Nat):Int)) rfl rfl (by decide) (ps0 v 0 (by omega))) ?_;refine M0.val Y2 (K1 _) rfl (v:=.int .i32 (((v:Nat):Int))) (C4 (r:=((v:Nat):Int)) rfl Tryz.underlying140 Tryz.underlying21 (fa0 v (by omega))) ?_;refine M0.val Y2 (K1 _) rfl (v:=.int .i32 (((v:Nat):Int))) (G1 rfl) ?_;refine M0.nil Y2 ?_;refine U440 ?_;refine M0.val Y2 (K1 _) rfl (v:=.int .u64 0) (K8 (r:=0) rfl rfl (jw0 v 0 (by omega) (by omega))) ?_;refine M0.val Y2 (K1 _) rfl (v:=.int .u32 0) (C4 (r:=0) rfl Tryz.underlying140 Tryz.underlying143 (by decide)) ?_;refine M0.val Y2 (K1 _) rfl (v:=.int .u32 0) (G1 rfl) ?_;refine M0.nil Y2 ?_;refine At.seq Y2 ?_;refine U45 ?_;refine M0.val Y2 (K1 _) rfl (v:=.int .i32 (((v:Nat):Int))) (L0 rfl) ?_;refine M0.val Y2 (K1 _) rfl (v:=.bool false) (dy0 (r:=false) rfl rfl (decide_eq_false (by omega))) ?_;refine M0.nil Y2 ?_;refine At.Q6 Y2 rfl ?_;refine At.skip Y2 ?_;refine U45 ?_;refine U395 ?_;refine M0.val Y2 (K1 _) rfl (v:=.int .u64 (((v*4294967296+0:Nat):Int))) (L0 rfl) ?_;refine M0.val Y2 (K1 _) rfl (v:=.int .u64 (((v*4294967296+0:Nat):Int))) (L0 rfl) ?_;refine M0.val Y2 (K1 _) rfl (v:=.int .u64 (((v*4294967296+1:Nat):Int))) (bh1 (r:=((v*4294967296+1:Nat):Int)) rfl rfl (add1 v (by omega))) ?_;refine M0.call Y2 (K1 _) [.pointer (some ⟨gr.blk,gr.off,none⟩),.int .u64 (((v*4294967296+0:Nat):Int)),.int .u64 (((v*4294967296+1:Nat):Int))] 13 rfl Tryz.func122 jx1 rfl rfl rfl (fun cs2 hb2=>?_);refine U45 ?_;refine M0.val Y2 (K1 _) rfl (v:=.bool false) (G1 rfl) ?_;refine M0.nil Y2 ?_;refine U45 ?_;refine U396 ?_;refine M0.val Y2 (K1 _) rfl (v:=.int .u64 (((v*4294967296+0:Nat):Int))) (L0 rfl) ?_;refine M0.val Y2 (K1 _) rfl (v:=.int .u64 (((v*4294967296+1:Nat):Int))) (L0 rfl) ?_;refine M0.ie1 (vs:=v) (K1 _) rfl Tryz.func140 ke1 rfl rfl kq1 rfl rfl rfl ?_ (fun v2 hv2=>?_)
  ·refine M0.val R5 (K1 _) rfl (v:=.bool true) (G1 rfl) ?_;refine M0.nil R5 ?_;refine At.ret R5 (fun _=>?_);refine AtR.leave1 R5 hb2 rfl Tryz.func122 rfl (.bool true) rfl ?_;refine U524 ?_;refine At.seq R5 ?_;refine U199 ?_;refine M0.val R5 (K1 _) rfl (v:=.bool true) (L0 rfl) ?_;refine M0.ei0 R5 (K1 _) rfl rfl (v:=.int .u32 0) (L0 rfl) ?_;refine M0.ei0 R5 (K1 _) rfl rfl (v:=.bool true) (dy0 (r:=true) rfl rfl (by decide)) ?_;refine M0.val R5 (K1 _) rfl (v:=.bool true) (bj0 rfl rfl) ?_;refine U524 ?_;refine At.region R5 ?_;refine U441 ?_;refine M0.toUnsafe hx1 (K1 _) rfl rfl (.inr rfl) Tryz.underlying211 Tryz.underlying205 Zd0 ?_;refine M0.yr0 R5 (K1 _) .write (by simp) (.inr (.inr rfl)) rfl Tryz.func123 jy1 rfl rfl kn1 rfl ?_;rw[cw0 _ rfl];refine M0.nil R5 ?_;refine U199 ?_;refine M0.val R5 (K1 _) rfl (v:=.bool false) (G1 rfl) ?_;refine M0.nil R5 ?_;refine At.seq R5 ?_;refine U199 ?_;refine M0.val R5 (K1 _) rfl (v:=.int .u64 (((v*4294967296+0:Nat):Int))) (L0 rfl) ?_;refine M0.val R5 (K1 _) rfl (v:=.int .u64 0) (K8 (r:=0) rfl rfl (pr0 v 0 (by omega) (by omega))) ?_;refine M0.val R5 (K1 _) rfl (v:=.bool false) (W9 (r:=false) rfl rfl (by decide)) ?_;refine M0.val R5 (K1 _) rfl (v:=.bool false) (L0 rfl) ?_;refine M0.off R5 rfl rfl ?_;refine M0.val R5 (K1 _) rfl (v:=.bool false) (ez0 rfl rfl) ?_;refine M0.nil R5 ?_;refine At.Q6 R5 rfl ?_;refine At.skip R5 ?_;refine U199 ?_;refine U441 ?_;refine M0.val R5 (K1 _) rfl (v:=.bool false) (L0 rfl) ?_;refine M0.if1 (K1 _) rfl Tryz.func124 jz1 rfl rfl ks1 rfl ?_;refine M0.nil P2 ?_;refine U44 ?_;refine U380 ?_;refine M0.val P2 (K1 _) rfl (v:=.pointer (some ⟨gr.blk,gr.off,none⟩)) (v5 (s:=1) gr.off gr.off rfl Tryz.underlying145 rfl wm0 (by decide) rfl) ?_;refine M0.call P2 (K1 _) [.pointer (some ⟨gr.blk,gr.off,none⟩)] 7 rfl Tryz.func116 Nu0 rfl rfl rfl (fun cs3 hb3=>?_);refine U44 ?_;refine U274 ?_;refine U44 ?_;refine U380 ?_;refine M0.val P2 (K1 _) rfl (v:=.pointer (some ⟨gr.blk,gr.off,none⟩)) (v5 (s:=1) gr.off gr.off rfl Tryz.underlying142 rfl wl0 (by decide) rfl) ?_;refine M0.bm1 (K1 _) rfl Tryz.func138 Nw0 rfl rfl Oa0 rfl ?_;refine U274 ?_;refine At.ret P2 (fun _=>?_);refine AtR.leave1 P2 hb3 rfl Tryz.func116 rfl (.int .u64 0) rfl ?_;refine M0.val P2 (K1 _) rfl (v:=.bool false) (W9 (r:=false) rfl rfl (by decide)) ?_;refine M0.val P2 (K1 _) rfl (v:=.bool false) (G1 rfl) ?_;refine U200 ?_;refine At.X7 P2 rfl ?_;refine U437 ?_;simp only[dz0];refine M0.nil P2 ?_;refine U426 ?_;refine U371 ?_;rw[cw0 _ rfl];refine U200 ?_;refine U44 ?_;refine M0.val P2 (K1 _) rfl (v:=.bool false) (L0 rfl) ?_;refine M0.nil P2 ?_;refine At.Q6 P2 rfl ?_;refine At.skip P2 ?_;refine At.ret P2 (fun _=>?_);exact U504
  ·refine M0.val Y2 (K1 _) rfl (v:=.bool false) (G1 rfl) ?_;refine M0.nil Y2 ?_;refine At.ret Y2 (fun _=>?_);refine AtR.leave1 Y2 hb2 rfl Tryz.func122 rfl (.bool false) rfl ?_;refine M0.nil Y2 ?_;refine At.Q6 Y2 rfl ?_;refine At.skip Y2 ?_;refine At.inBlock Y2 ?_;refine At.inLoop Y2 ?_;exact At.Nf0 (At.Hh0 (fun e=>ih v2 (by omega) (by omega) e) rfl) (by omega)
set_option maxRecDepth 20000 in
theorem bw1 (gr:K7) (K:Goroutine->Prop) {c:Frame} {cs:List Frame} (hK:K (Conc.G (c.finish (.tuple #[])) cs)) (V:Nat) (hV:V<2147483648):WH Tryz.prog gr (WE Tryz.prog gr K) (500*V+510) none V 0 (Conc.G (Frame.enter Tryz.prog 64 #[.pointer (some ⟨gr.blk,gr.off,none⟩)] .normal) (c::cs)):=by
 rw[enter_at _ Tryz.func64 rfl];refine(?_:At (YWH Tryz.prog gr K none V) (500*V+510) 84 (base 64) (c::cs) [] 0 (Wg.bp0 #[.pointer (some ⟨gr.blk,gr.off,none⟩)]) [.code (Tryz.f64.body.getD .skip)]) _ (ey0 _ _ rfl);refine At.seq Y2 ?_;refine At.X7 Y2 rfl ?_;refine At.region Y2 ?_;refine M0.He0 Y2 (K1 _) .disable (by simp) (.inl rfl) rfl Tryz.func108 Nt0 rfl rfl Nz0 ?_;simp only[pw0];refine M0.nil Y2 ?_;refine At.block Y2 ?_;refine At.loop Y2 ?_;exact At.Nf0 (At.Hh0 (fun e=>Jh0 gr K hK V hV e) rfl) (by omega)
end
end Go.Proofs.YtinppmaojmdmhaaGreat
end
section
namespace Go.Vy.Sc
open Go Go.Conc Go.Yc Go.RowKit Go.Proofs Go.Proofs.YtinppmaojmdmhaaGreat Tryz
open Go.Vc
structure CB where
 cb:Nat
 rc:Nat
 sp:Stp
 rf:Value
 df:Value
 W1:Nat
 wt:Bool
 st:Bool
def CB.cells (rb i:Nat) (c:CB):Array Value:=#[.i (i:Int),.p rb,.chan (some c.rc),.i c.sp.kind,.i c.sp.obj,.i c.sp.num,c.rf,c.df,.i (c.W1:Int),.bool c.wt,.bool c.st]
def evC (x:Nat×Stp):List Value:=[.i (x.1:Int),.i x.2.kind,.i x.2.obj,.i x.2.num]
def ntC (x:Nat×Nat×Nte):List Value:=[.i (x.1:Int),.i (x.2.1:Int),.i x.2.2.kind,.string x.2.2.text]
def spC (s:Stp):List Value:=[.i s.kind,.i s.obj,.i s.num]
structure Rn where
 rb:Nat
 yb:Nat
 eb:Nat
 wb:Nat
 m:Nat
 ca:Option Addr
 cc:Nat
 cl:List CB
 ea:Option Addr
 ec:Nat
 evs:List (Nat×Stp)
 na:Option Addr
 nc:Nat
 nts:List (Nat×Nat×Nte)
 ends:List Int
 wts:List Stp
 stuck:Bool
 used:Nat
def Rn.cells (R:Rn):Array Value:=#[.slice R.ca R.cl.length R.cc,.slice R.ea R.evs.length R.ec,.slice R.na R.nts.length R.nc,.slice (pt R.eb) R.m R.m,.slice (pt R.wb) R.m R.m,.bool R.stuck,.i (R.used:Int),.chan (some R.yb)]
structure j5 (w:World) (Bs:Nat) (R:Rn):Prop where
 run:M1 w R.rb R.cells 173 (7,8)
 cls:Own w Bs 123 1 R.ca R.cl.length R.cc (R.cl.map fun c=>.p c.cb)
 evs:Own w Bs 67 4 R.ea R.evs.length R.ec (R.evs.flatMap evC)
 nts:Own w Bs 63 4 R.na R.nts.length R.nc (R.nts.flatMap ntC)
 ends:M1 w R.eb (R.ends.map (Value.int .i64)).toArray 3 (0,0)
 wts:M1 w R.wb (R.wts.flatMap spC).toArray 65 (0,0)
 he0:R.ends.length=R.m
 mb0:R.wts.length=R.m
 lcl:R.cl.length <=R.m
 blk:∀(i:Nat) (c:CB),R.cl[i]? =some c->M1 w c.cb (c.cells R.rb i) 248 (0,3)
def Rn.fp (R:Rn) (k:Nat):Prop:=k=R.rb\/k=R.eb\/k=R.wb\/(R.ca≠none/\k=ab R.ca)\/(R.ea≠none/\k=ab R.ea)\/(R.na≠none/\k=ab R.na)\/∃(i:Nat) (c:CB),R.cl[i]? =some c/\k=c.cb
section
variable {w w':World}{Bs:Nat}{R:Rn}
theorem j5.congr (h:j5 w Bs R) (he:∀k,R.fp k->w'.heap[k]? =w.heap[k]?):j5 w' Bs R :=
 ⟨(he _ (.inl rfl)).trans h.run,Own.congr h.cls fun ha=>he _ (.inr (.inr (.inr (.inl ⟨ha,rfl⟩)))),Own.congr h.evs fun ha=>he _ (.inr (.inr (.inr (.inr (.inl ⟨ha,rfl⟩))))),Own.congr h.nts fun ha=>he _ (.inr (.inr (.inr (.inr (.inr (.inl ⟨ha,rfl⟩)))))),
  (he _ (.inr (.inl rfl))).trans h.ends,(he _ (.inr (.inr (.inl rfl)))).trans h.wts,h.he0,h.mb0,h.lcl,fun i c hc=>(he _ (.inr (.inr (.inr (.inr (.inr (.inr ⟨i,c,hc,rfl⟩))))))).trans (h.blk i c hc)⟩
theorem j5.lt (h:j5 w Bs R) {k:Nat} (hk:R.fp k):k<w.heap.size:=by
 rcases hk with rfl|rfl|rfl|⟨ha,rfl⟩|⟨ha,rfl⟩|⟨ha,rfl⟩|⟨i,c,hc,rfl⟩
 ·exact h.run.lt
 ·exact h.ends.lt
 ·exact h.wts.lt
 ·exact h.cls.lt ha
 ·exact h.evs.lt ha
 ·exact h.nts.lt ha
 ·exact(h.blk i c hc).lt
theorem j5.j0 (h:j5 w Bs R) (hb:Below w.heap.size w w'):j5 w' Bs R:=h.congr fun k hk=>hb.block k (h.lt hk)
theorem S2 {b:Nat} {cs:Array Value} {T:TypeId} {f:Nat×Nat} {row:Option Nat} (h:M1 w b cs T f) (hg:w.grownBy w' row) (hr:∀r,row=some r->∃Z6 T' f',M1 w r Z6 T' f'/\T≠T'):M1 w' b cs T f :=
 h.grown hg fun e=>by
  obtain⟨Z6,T',f',h',hT⟩:=hr b e.symm;exact h.ne h' hT rfl
theorem P4 {E:TypeId} {s n c:Nat} {a:Option Addr} {xs:List Value} {row:Option Nat} (h:Own w Bs E s a n c xs) (hg:w.grownBy w' row) (hr:∀r,row=some r->∃Z6 T' f',M1 w r Z6 T' f'/\E≠T'):Own w' Bs E s a n c xs :=
 Own.congr h fun ha=>by
  obtain⟨cur,hB,_⟩:=h.row ha;refine hg.block _ hB.lt fun e=>?_;obtain⟨Z6,T',f',h',hT⟩:=hr (ab a) e.symm;exact M1.ne (f:=(0,0)) hB h' hT rfl
theorem j5.qu1 (h:j5 w Bs R) {i j:Nat} {c d:CB} (hc:R.cl[i]? =some c) (hd:R.cl[j]? =some d) (he:c.cb=d.cb):i=j:=by
 have h1:=h.blk i c hc;have h2:=h.blk j d hd;unfold M1 at h1 h2;rw[he,h2]at h1;have:=congrArg (fun o=>match o with|some (Obj.cells c _ _)=>c[0]? |_=>none) h1;simp[CB.cells]at this;omega
theorem Ob0 (l:List CB) (i:Nat) (c c':CB) (hc:l[i]? =some c) (he:c'.cb=c.cb):(l.set i c').map (fun c=>Value.p c.cb)=l.map fun c=>Value.p c.cb:=by
 apply List.ext_getElem?;intro j;rw[List.getElem?_map,List.getElem?_map,List.getElem?_set];by_cases hj:i=j
 ·subst hj;have I1:=(List.getElem?_eq_some_iff.1 hc).1;rw[List.getElem?_eq_getElem I1]at hc;obtain rfl:=Option.some.inj hc;simp[I1,he]
 ·simp[hj]
theorem Rn.Hj0 {i:Nat} {c c':CB} (hc:R.cl[i]? =some c) (he:c'.cb=c.cb) {k:Nat} (hk:Rn.fp {R with cl:=R.cl.set i c'} k):R.fp k:=by
 rcases hk with h|h|h|h|h|h|⟨j,d,hd,rfl⟩
 ·exact .inl h
 ·exact .inr (.inl h)
 ·exact .inr (.inr (.inl h))
 ·exact .inr (.inr (.inr (.inl h)))
 ·exact .inr (.inr (.inr (.inr (.inl h))))
 ·exact .inr (.inr (.inr (.inr (.inr (.inl h)))))
 ·refine .inr (.inr (.inr (.inr (.inr (.inr ?_)))));have J6:(R.cl.set i c')[j]? =some d:=hd;rw[List.getElem?_set]at J6;by_cases hj:i=j
  ·subst hj;rw[if_pos rfl]at J6;split at J6
   ·obtain rfl:=Option.some.inj J6;exact⟨i,c,hc,he⟩
   ·cases J6
  ·rw[if_neg hj]at J6;exact⟨j,d,J6,rfl⟩
theorem j5.bx1 (h:j5 w Bs R) {i:Nat} {c:CB} (c':CB) (hc:R.cl[i]? =some c) (he:c'.cb=c.cb):j5 (O1 w c.cb (c'.cells R.rb i) 248 (0,3)) Bs {R with cl:=R.cl.set i c'}:=by
 have hg:=A2 w c.cb (c'.cells R.rb i) 248 (0,3);have hb:=h.blk i c hc;have hr:∀T:TypeId,T≠248->∀r,some c.cb=some r->∃Z6 T' f',M1 w r Z6 T' f'/\T≠T':=fun T hT r e=>by cases e;exact⟨_,_,_,hb,hT⟩
 refine⟨?_,?_,P4 h.evs hg (hr _ (by decide)),P4 h.nts hg (hr _ (by decide)),S2 h.ends hg (hr _ (by decide)),S2 h.wts hg (hr _ (by decide)),h.he0,h.mb0,by simpa using h.lcl,fun j d hd=>?_⟩
 ·have:=S2 h.run hg (hr _ (by decide));simpa [Rn.cells]using this
 ·have:=P4 h.cls hg (hr _ (by decide));show Own _ Bs _ 1 R.ca (R.cl.set i c').length R.cc ((R.cl.set i c').map _);rw[Ob0 R.cl i c c' hc he,List.length_set];exact this
 ·have J6:(R.cl.set i c')[j]? =some d:=hd;rw[List.getElem?_set]at J6;by_cases hj:i=j
  ·subst hj;rw[if_pos rfl]at J6;split at J6
   ·obtain rfl:=Option.some.inj J6;rw[he];exact z5 hb _ _ _
   ·cases J6
  ·rw[if_neg hj]at J6;exact(h.blk j d J6).other hg fun e=>hj (h.qu1 J6 hc e).symm
theorem j5.by1 (h:j5 w Bs R) (st:Bool) (us:Nat):j5 (O1 w R.rb (Rn.cells {R with stuck:=st,used:=us}) 173 (7,8)) Bs {R with stuck:=st,used:=us}:=by
 have hg:=A2 w R.rb (Rn.cells {R with stuck:=st,used:=us}) 173 (7,8);have hr:∀T:TypeId,T≠173->∀r,some R.rb=some r->∃Z6 T' f',M1 w r Z6 T' f'/\T≠T':=fun T hT r e=>by cases e;exact⟨_,_,_,h.run,hT⟩
 exact⟨z5 h.run _ _ _,P4 h.cls hg (hr _ (by decide)),P4 h.evs hg (hr _ (by decide)),P4 h.nts hg (hr _ (by decide)),S2 h.ends hg (hr _ (by decide)),S2 h.wts hg (hr _ (by decide)),h.he0,h.mb0,h.lcl,fun j d hd=>S2 (h.blk j d hd) hg (hr _ (by decide))⟩
theorem Up0 {E:TypeId} {s n c:Nat} {a:Option Addr} {xs:List Value} (h:Own w Bs E s a n c xs):∀r,Value.ownBlock (.slice a n c)=some r->∃Z6 T' f',M1 w r Z6 T' f':=by
 intro r e;cases a with
 |none=>cases e
 |some ad=>
  obtain⟨cur,hB,_⟩:=h.row (by simp);cases e;exact⟨_,_,_,hB⟩
theorem H5 {E T:TypeId} {s n c:Nat} {a:Option Addr} {xs:List Value} (h:Own w Bs E s a n c xs) (hT:T≠E):∀r,Value.ownBlock (.slice a n c)=some r->∃Z6 T' f',M1 w r Z6 T' f'/\T≠T':=by
 intro r e;cases a with
 |none=>cases e
 |some ad=>
  obtain⟨cur,hB,_⟩:=h.row (by simp);cases e;exact⟨_,_,_,hB,hT⟩
theorem j5.Oc0 (h:j5 w Bs R) {w1:World} {a':Option Addr} {c':Nat} (x:Nat×Stp) (hg:w.grownBy w1 (Value.ownBlock (.slice R.ea R.evs.length R.ec))) (hO:Own w1 Bs 67 4 a' (R.evs.length+1) c' (R.evs.flatMap evC++evC x)) :
  j5 (O1 w1 R.rb (Rn.cells {R with ea:=a',ec:=c',evs:=R.evs ++ [x]}) 173 (7,8)) Bs {R with ea:=a',ec:=c',evs:=R.evs ++ [x]}:=by
 have I3:=S2 h.run hg (H5 h.evs (by decide));have hg2:=A2 w1 R.rb (Rn.cells {R with ea:=a',ec:=c',evs:=R.evs ++ [x]}) 173 (7,8);have hr:∀T:TypeId,T≠173->∀r,some R.rb=some r->∃Z6 T' f',M1 w1 r Z6 T' f'/\T≠T':=fun T hT r e=>by cases e;exact⟨_,_,_,I3,hT⟩
 refine⟨z5 I3 _ _ _,P4 (P4 h.cls hg (H5 h.evs (by decide))) hg2 (hr _ (by decide)),?_,P4 (P4 h.nts hg (H5 h.evs (by decide))) hg2 (hr _ (by decide)),S2 (S2 h.ends hg (H5 h.evs (by decide))) hg2 (hr _ (by decide)),S2 (S2 h.wts hg (H5 h.evs (by decide))) hg2 (hr _ (by decide)),h.he0,h.mb0,h.lcl,fun j d hd=>S2 (S2 (h.blk j d hd) hg (H5 h.evs (by decide))) hg2 (hr _ (by decide))⟩;have:=P4 hO hg2 (hr _ (by decide));simpa using this
theorem j5.Od0 (h:j5 w Bs R) {w1:World} {a':Option Addr} {c':Nat} (x:Nat×Nat×Nte) (hg:w.grownBy w1 (Value.ownBlock (.slice R.na R.nts.length R.nc))) (hO:Own w1 Bs 63 4 a' (R.nts.length+1) c' (R.nts.flatMap ntC++ntC x)) :
  j5 (O1 w1 R.rb (Rn.cells {R with na:=a',nc:=c',nts:=R.nts ++ [x]}) 173 (7,8)) Bs {R with na:=a',nc:=c',nts:=R.nts ++ [x]}:=by
 have I3:=S2 h.run hg (H5 h.nts (by decide));have hg2:=A2 w1 R.rb (Rn.cells {R with na:=a',nc:=c',nts:=R.nts ++ [x]}) 173 (7,8);have hr:∀T:TypeId,T≠173->∀r,some R.rb=some r->∃Z6 T' f',M1 w1 r Z6 T' f'/\T≠T':=fun T hT r e=>by cases e;exact⟨_,_,_,I3,hT⟩
 refine⟨z5 I3 _ _ _,P4 (P4 h.cls hg (H5 h.nts (by decide))) hg2 (hr _ (by decide)),P4 (P4 h.evs hg (H5 h.nts (by decide))) hg2 (hr _ (by decide)),?_,S2 (S2 h.ends hg (H5 h.nts (by decide))) hg2 (hr _ (by decide)),S2 (S2 h.wts hg (H5 h.nts (by decide))) hg2 (hr _ (by decide)),h.he0,h.mb0,h.lcl,fun j d hd=>S2 (S2 (h.blk j d hd) hg (H5 h.nts (by decide))) hg2 (hr _ (by decide))⟩;have:=P4 hO hg2 (hr _ (by decide));simpa using this
theorem j5.Oe0 (h:j5 w Bs R) {w1:World} {a':Option Addr} {c':Nat} (x:CB) (hx:M1 w x.cb (x.cells R.rb R.cl.length) 248 (0,3)) (hm:R.cl.length<R.m) (hg:w.grownBy w1 (Value.ownBlock (.slice R.ca R.cl.length R.cc))) (hO:Own w1 Bs 123 1 a' (R.cl.length+1) c' ((R.cl.map fun c=>.p c.cb) ++ [.p x.cb])) :
  j5 (O1 w1 R.rb (Rn.cells {R with ca:=a',cc:=c',cl:=R.cl ++ [x]}) 173 (7,8)) Bs {R with ca:=a',cc:=c',cl:=R.cl ++ [x]}:=by
 have I3:=S2 h.run hg (H5 h.cls (by decide));have hg2:=A2 w1 R.rb (Rn.cells {R with ca:=a',cc:=c',cl:=R.cl ++ [x]}) 173 (7,8);have hr:∀T:TypeId,T≠173->∀r,some R.rb=some r->∃Z6 T' f',M1 w1 r Z6 T' f'/\T≠T':=fun T hT r e=>by cases e;exact⟨_,_,_,I3,hT⟩
 refine⟨z5 I3 _ _ _,?_,P4 (P4 h.evs hg (H5 h.cls (by decide))) hg2 (hr _ (by decide)),P4 (P4 h.nts hg (H5 h.cls (by decide))) hg2 (hr _ (by decide)),S2 (S2 h.ends hg (H5 h.cls (by decide))) hg2 (hr _ (by decide)),S2 (S2 h.wts hg (H5 h.cls (by decide))) hg2 (hr _ (by decide)),h.he0,h.mb0,by simp;omega,fun j d hd=>?_⟩
 ·have:=P4 hO hg2 (hr _ (by decide));simpa using this
 ·have J6:(R.cl ++ [x])[j]? =some d:=hd;have hb:M1 w d.cb (d.cells R.rb j) 248 (0,3):=by
   rw[List.getElem?_append]at J6;split at J6
   ·exact h.blk j d J6
   ·rename_i I1;have hj:j=R.cl.length:=by
     rcases Nat.lt_or_ge (j-R.cl.length) 1 with z|z
     ·omega
     ·rw[List.getElem?_eq_none (by simpa using z)]at J6;cases J6
    subst hj;simp at J6;subst J6;exact hx
  exact S2 (S2 hb hg (H5 h.cls (by decide))) hg2 (hr _ (by decide))
theorem j5.D8 (h:j5 w Bs R) (i:Nat) (v:Int):j5 (O1 w R.eb ((R.ends.set i v).map (Value.int .i64)).toArray 3 (0,0)) Bs {R with ends:=R.ends.set i v}:=by
 have hg:=A2 w R.eb ((R.ends.set i v).map (Value.int .i64)).toArray 3 (0,0);have hr:∀T:TypeId,T≠3->∀r,some R.eb=some r->∃Z6 T' f',M1 w r Z6 T' f'/\T≠T':=fun T hT r e=>by cases e;exact⟨_,_,_,h.ends,hT⟩
 exact⟨S2 h.run hg (hr _ (by decide)),P4 h.cls hg (hr _ (by decide)),P4 h.evs hg (hr _ (by decide)),P4 h.nts hg (hr _ (by decide)),z5 h.ends _ _ _,S2 h.wts hg (hr _ (by decide)),by simpa using h.he0,h.mb0,h.lcl,fun j d hd=>S2 (h.blk j d hd) hg (hr _ (by decide))⟩
theorem j5.bz1 (h:j5 w Bs R) (i:Nat) (v:Stp):j5 (O1 w R.wb ((R.wts.set i v).flatMap spC).toArray 65 (0,0)) Bs {R with wts:=R.wts.set i v}:=by
 have hg:=A2 w R.wb ((R.wts.set i v).flatMap spC).toArray 65 (0,0);have hr:∀T:TypeId,T≠65->∀r,some R.wb=some r->∃Z6 T' f',M1 w r Z6 T' f'/\T≠T':=fun T hT r e=>by cases e;exact⟨_,_,_,h.wts,hT⟩
 exact⟨S2 h.run hg (hr _ (by decide)),P4 h.cls hg (hr _ (by decide)),P4 h.evs hg (hr _ (by decide)),P4 h.nts hg (hr _ (by decide)),S2 h.ends hg (hr _ (by decide)),z5 h.wts _ _ _,h.he0,by simpa using h.mb0,h.lcl,fun j d hd=>S2 (h.blk j d hd) hg (hr _ (by decide))⟩
structure Rg (S:Nat->Prop) (B:Nat) (w0 w:World) (Bs:Nat) (R:Rn):Prop where
 m:j5 w Bs R
 md:jy0 S B w0 w
 fp:∀k,R.fp k->S k\/B <=k
 le:B <=w.heap.size
end
section
variable {S:Nat->Prop}{B:Nat}{w0 w w':World}{Bs:Nat}{R:Rn}
theorem j5.rg (h:j5 w Bs R):Rg R.fp w.heap.size w w Bs R:=⟨h,jy0.refl _ _ _,fun _ h=>.inl h,Nat.le_refl _⟩
theorem Rg.j0 (h:Rg S B w0 w Bs R) (hb:Below w.heap.size w w'):Rg S B w0 w' Bs R:=⟨h.m.j0 hb,h.md.below hb h.le,h.fp,Nat.le_trans h.le hb.size⟩
theorem Rg.fresh (h:Rg S B w0 w Bs R) {b:Nat} (cs:Array Value) (T:TypeId) (f:Nat×Nat) (hb:∀k,R.fp k->k≠b) (hB:B <=b):Rg S B w0 (O1 w b cs T f) Bs R :=
 ⟨h.m.congr fun k hk=>X8 (hb k hk),h.md.grown (A2 w b cs T f) h.le (fun r e=>by cases e;exact .inr hB),h.fp,by rw[M6];exact h.le⟩
theorem Rg.put (h:Rg S B w0 w Bs R) {b:Nat} {cs:Array Value} {T:TypeId} {f:Nat×Nat} {R':Rn} (hb:R.fp b) (hm:j5 (O1 w b cs T f) Bs R') (hf:∀k,R'.fp k->R.fp k):Rg S B w0 (O1 w b cs T f) Bs R' :=
 ⟨hm,h.md.grown (A2 w b cs T f) h.le (fun r e=>by cases e;exact h.fp _ hb),fun k hk=>h.fp k (hf k hk),by rw[M6];exact h.le⟩
theorem ku1 {i:Nat} {c:CB} (hc:R.cl[i]? =some c):R.fp c.cb:=.inr (.inr (.inr (.inr (.inr (.inr ⟨i,c,hc,rfl⟩)))))
theorem Rg.bx1 (h:Rg S B w0 w Bs R) {i:Nat} {c:CB} (c':CB) (hc:R.cl[i]? =some c) (he:c'.cb=c.cb):Rg S B w0 (O1 w c.cb (c'.cells R.rb i) 248 (0,3)) Bs {R with cl:=R.cl.set i c'} :=
 h.put (ku1 hc) (h.m.bx1 c' hc he) fun _ hk=>Rn.Hj0 hc he hk
theorem Rg.by1 (h:Rg S B w0 w Bs R) (st:Bool) (us:Nat):Rg S B w0 (O1 w R.rb (Rn.cells {R with stuck:=st,used:=us}) 173 (7,8)) Bs {R with stuck:=st,used:=us} :=
 h.put (.inl rfl) (h.m.by1 st us) fun _ hk=>hk
theorem Rg.D8 (h:Rg S B w0 w Bs R) (i:Nat) (v:Int):Rg S B w0 (O1 w R.eb ((R.ends.set i v).map (Value.int .i64)).toArray 3 (0,0)) Bs {R with ends:=R.ends.set i v} :=
 h.put (.inr (.inl rfl)) (h.m.D8 i v) fun _ hk=>hk
theorem Rg.bz1 (h:Rg S B w0 w Bs R) (i:Nat) (v:Stp):Rg S B w0 (O1 w R.wb ((R.wts.set i v).flatMap spC).toArray 65 (0,0)) Bs {R with wts:=R.wts.set i v} :=
 h.put (.inr (.inr (.inl rfl))) (h.m.bz1 i v) fun _ hk=>hk
def Ji0 (w:World) (a a':Option Addr):Prop:=a'≠none->(a≠none/\ab a'=ab a)\/w.heap.size <=ab a'
theorem yu0 {a:Option Addr} {n c r:Nat} (e:Value.ownBlock (.slice a n c)=some r):a≠none/\r=ab a:=by
 cases a with
 |none=>cases e
 |some ad=>exact⟨by simp,by cases e;rfl⟩
theorem Rg.app (h:Rg S B w0 w Bs R) {R':Rn} {row:Option Nat} {w1:World} (hg:w.grownBy w1 row) (hr:∀r,row=some r->R.fp r) (hb:R'.rb=R.rb) (hm:j5 (O1 w1 R.rb R'.cells 173 (7,8)) Bs R') (hf:∀k,R'.fp k->R.fp k\/w.heap.size <=k) :
  Rg S B w0 (O1 w1 R.rb R'.cells 173 (7,8)) Bs R' :=
 ⟨hm,(h.md.grown hg h.le fun r e=>h.fp r (hr r e)).grown (A2 _ _ _ _ _) (Nat.le_trans h.le hg.size) (fun r e=>by cases e;exact h.fp _ (.inl rfl)),fun k hk=>by
  rcases hf k hk with z|z
  ·exact h.fp k z
  ·have:=h.le;exact .inr (by omega),by rw[M6];exact Nat.le_trans h.le hg.size⟩
theorem Rg.Oc0 (h:Rg S B w0 w Bs R) {w1:World} {a':Option Addr} {c':Nat} (x:Nat×Stp) (hg:w.grownBy w1 (Value.ownBlock (.slice R.ea R.evs.length R.ec))) (hO:Own w1 Bs 67 4 a' (R.evs.length+1) c' (R.evs.flatMap evC++evC x)) (hl:Ji0 w R.ea a') :
  Rg S B w0 (O1 w1 R.rb (Rn.cells {R with ea:=a',ec:=c',evs:=R.evs ++ [x]}) 173 (7,8)) Bs {R with ea:=a',ec:=c',evs:=R.evs ++ [x]} :=
 h.app (R':={R with ea:=a',ec:=c',evs:=R.evs ++ [x]}) hg (fun r e=>by obtain⟨h1,rfl⟩:=yu0 e;exact .inr (.inr (.inr (.inr (.inl ⟨h1,rfl⟩))))) rfl (h.m.Oc0 x hg hO) fun k hk=>by
  rcases hk with z|z|z|z|⟨z1,z2⟩|z|z
  ·exact .inl (.inl z)
  ·exact .inl (.inr (.inl z))
  ·exact .inl (.inr (.inr (.inl z)))
  ·exact .inl (.inr (.inr (.inr (.inl z))))
  ·rcases hl z1 with⟨y1,y2⟩|y
   ·exact .inl (.inr (.inr (.inr (.inr (.inl ⟨y1,by rw[z2];exact y2⟩)))))
   ·exact .inr (by rw[z2];exact y)
  ·exact .inl (.inr (.inr (.inr (.inr (.inr (.inl z))))))
  ·exact .inl (.inr (.inr (.inr (.inr (.inr (.inr z))))))
theorem Rg.Od0 (h:Rg S B w0 w Bs R) {w1:World} {a':Option Addr} {c':Nat} (x:Nat×Nat×Nte) (hg:w.grownBy w1 (Value.ownBlock (.slice R.na R.nts.length R.nc))) (hO:Own w1 Bs 63 4 a' (R.nts.length+1) c' (R.nts.flatMap ntC++ntC x)) (hl:Ji0 w R.na a') :
  Rg S B w0 (O1 w1 R.rb (Rn.cells {R with na:=a',nc:=c',nts:=R.nts ++ [x]}) 173 (7,8)) Bs {R with na:=a',nc:=c',nts:=R.nts ++ [x]} :=
 h.app (R':={R with na:=a',nc:=c',nts:=R.nts ++ [x]}) hg (fun r e=>by obtain⟨h1,rfl⟩:=yu0 e;exact .inr (.inr (.inr (.inr (.inr (.inl ⟨h1,rfl⟩)))))) rfl (h.m.Od0 x hg hO) fun k hk=>by
  rcases hk with z|z|z|z|z|⟨z1,z2⟩|z
  ·exact .inl (.inl z)
  ·exact .inl (.inr (.inl z))
  ·exact .inl (.inr (.inr (.inl z)))
  ·exact .inl (.inr (.inr (.inr (.inl z))))
  ·exact .inl (.inr (.inr (.inr (.inr (.inl z)))))
  ·rcases hl z1 with⟨y1,y2⟩|y
   ·exact .inl (.inr (.inr (.inr (.inr (.inr (.inl ⟨y1,by rw[z2];exact y2⟩))))))
   ·exact .inr (by rw[z2];exact y)
  ·exact .inl (.inr (.inr (.inr (.inr (.inr (.inr z))))))
theorem Rg.Oe0 (h:Rg S B w0 w Bs R) {w1:World} {a':Option Addr} {c':Nat} (x:CB) (hx:M1 w x.cb (x.cells R.rb R.cl.length) 248 (0,3)) (hxS:S x.cb\/B <=x.cb) (hm:R.cl.length<R.m) (hg:w.grownBy w1 (Value.ownBlock (.slice R.ca R.cl.length R.cc)))
  (hO:Own w1 Bs 123 1 a' (R.cl.length+1) c' ((R.cl.map fun c=>.p c.cb) ++ [.p x.cb])) (hl:Ji0 w R.ca a') :
  Rg S B w0 (O1 w1 R.rb (Rn.cells {R with ca:=a',cc:=c',cl:=R.cl ++ [x]}) 173 (7,8)) Bs {R with ca:=a',cc:=c',cl:=R.cl ++ [x]}:=by
 have h1:=h.m.Oe0 x hx hm hg hO;refine⟨h1,(h.md.grown hg h.le fun r e=>h.fp r (by obtain⟨h1,rfl⟩:=yu0 e;exact .inr (.inr (.inr (.inl ⟨h1,rfl⟩))))).grown (A2 _ _ _ _ _) (Nat.le_trans h.le hg.size) (fun r e=>by cases e;exact h.fp _ (.inl rfl)),fun k hk=>?_,by rw[M6];exact Nat.le_trans h.le hg.size⟩;rcases hk with z|z|z|⟨z1,z2⟩|z|z|⟨i,d,hd,z⟩
 ·exact h.fp _ (.inl z)
 ·exact h.fp _ (.inr (.inl z))
 ·exact h.fp _ (.inr (.inr (.inl z)))
 ·rcases hl z1 with⟨y1,y2⟩|y
  ·exact h.fp _ (.inr (.inr (.inr (.inl ⟨y1,by rw[z2];exact y2⟩))))
  ·have:=h.le;exact .inr (by rw[z2];show B <=ab a';omega)
 ·exact h.fp _ (.inr (.inr (.inr (.inr (.inl z)))))
 ·exact h.fp _ (.inr (.inr (.inr (.inr (.inr (.inl z))))))
 ·have J6:(R.cl ++ [x])[i]? =some d:=hd;rw[List.getElem?_append]at J6;split at J6
  ·exact h.fp _ (.inr (.inr (.inr (.inr (.inr (.inr ⟨i,d,J6,z⟩))))))
  ·have hdx:d=x:=by
    have:=List.mem_of_getElem? J6;simpa using this
   subst hdx;rw[z];exact hxS
end
section
variable {w:World}{Bs:Nat}{R:Rn}
theorem Of0 (hM:j5 w Bs R) {i:Nat} {c:CB} (hc:R.cl[i]? =some c):w.cell? ⟨ab R.ca,ao R.ca+i*1,none⟩=some (.p c.cb):=by
 rw[hM.cls.off,Nat.zero_add,Nat.mul_one];exact hM.cls.cell (by rw[List.getElem?_map,hc];rfl)
def rdl (cl:List CB) (r:Nat->Bool) (n:Nat):List Nat:=(List.range n).filter fun i=>(cl[i]?.any (·.wt))&&r i
def Og0 (cl:List CB) (i:Nat):Value:=.pointer (some ⟨(cl[i]?.map (·.cb)).getD 0,0,none⟩)
theorem Oh0 {cl:List CB} {r:Nat->Bool} {i:Nat} {c:CB} (hc:cl[i]? =some c) (h:(c.wt&&r i)=false):rdl cl r (i+1)=rdl cl r i:=by
 unfold rdl;rw[List.range_succ,List.filter_append];simp[hc,h]
theorem Hk0 {cl:List CB} {r:Nat->Bool} {i:Nat} {c:CB} (hc:cl[i]? =some c) (h:(c.wt&&r i)=true):rdl cl r (i+1)=rdl cl r i ++ [i]:=by
 unfold rdl;rw[List.range_succ,List.filter_append];simp only[Bool.and_eq_true]at h;simp[hc,h.1,h.2]
theorem Et0 {cl:List CB} {r:Nat->Bool} (n:Nat):(rdl cl r n).length <=n:=by
 have:=List.length_filter_le (fun i=>(cl[i]?.any (·.wt))&&r i) (List.range n);simpa [rdl]using this
theorem kv1 {cl:List CB} {i:Nat} (h:∀(j:Nat) (c:CB),j<i->cl[j]? =some c->c.wt=false) (hi:cl.length <=i):cl.any (·.wt)=false:=by
 rw[List.any_eq_false];intro c hc;obtain⟨j,hj⟩:=List.mem_iff_getElem?.1 hc;have:=h j c (by have:=(List.getElem?_eq_some_iff.1 hj).1;omega) hj;simp[this]
def yv0 [Ctx prog] (w0:World) (rf:Value) (b:Bool):Prop :=
 (rf= .nilFunc/\b=true)\/∃f fn caps,rf= .func (.func f) #[] caps/\prog.funcs[f]? =some fn/\fn.body.isSome=true/\(fn.name== "runtime.NumGoroutine")=false/\∀u,Below w0.heap.size w0 u->C prog f caps u fun v u'=>v= .bool b/\Below u.heap.size u u'
end
section
variable [Ctx prog]{n:Nat}{Q:Exit->Env->World->Prop}{e:Env}{ops:Array Oper}{rest:List Oper}{ty:TypeId}{ps:String}{af:Array Edge}{T:TypeId}{x y:Operand}
variable {S:Nat->Prop}{B:Nat}{w0 w:World}{Bs:Nat}{R:Rn}
theorem L.stC {i:Nat} {c:CB} {o s:Nat} {v:Value} {vs:List Value} (hg:Rg S B w0 w Bs R) (c':CB) (hc:R.cl[i]? =some c) (he:c'.cb=c.cb) (hx:ev e x= .pointer (some ⟨c.cb,o,none⟩)) (hy:ev e y=v) (hvs:v.cells.toList=vs) (hs:(prog.info? T).map (·.size)=some s) (hl:vs.length=s) (h1:vs.all Value.oneCell'=true) (ho:3 <=o/\o+s <=11) (hcs:setRow (c.cells R.rb i) o vs=c'.cells R.rb i)
  (k:∀w1,Rg S B w0 w1 Bs {R with cl:=R.cl.set i c'}->w.grownBy w1 (some c.cb)->L prog n ops Q rest e w1):L prog n ops Q (⟨none,.store T x y,ty,ps,af,none⟩::rest) e w :=
 L.Eq0 (c'.cells R.rb i) hx hy hvs hs hl h1 (hg.m.blk i c hc) ho.2 (.inr ho.1) hcs (k _ (hg.bx1 c' hc he) (A2 _ _ _ _ _))
theorem L.stR {o s:Nat} {v:Value} {vs:List Value} (hg:Rg S B w0 w Bs R) (st:Bool) (us:Nat) (hx:ev e x= .pointer (some ⟨R.rb,o,none⟩)) (hy:ev e y=v) (hvs:v.cells.toList=vs) (hs:(prog.info? T).map (·.size)=some s) (hl:vs.length=s) (h1:vs.all Value.oneCell'=true) (ho:o+s <=7) (hcs:setRow R.cells o vs=Rn.cells {R with stuck:=st,used:=us})
  (k:∀w1,Rg S B w0 w1 Bs {R with stuck:=st,used:=us}->w.grownBy w1 (some R.rb)->L prog n ops Q rest e w1):L prog n ops Q (⟨none,.store T x y,ty,ps,af,none⟩::rest) e w :=
 L.Eq0 (Rn.cells {R with stuck:=st,used:=us}) hx hy hvs hs hl h1 hg.m.run (show o+s <=8 by omega) (.inl (show o+s <=7 by omega)) hcs (k _ (hg.by1 st us) (A2 _ _ _ _ _))
theorem L.qv1 {o:Nat} {v:Value} {w1:World} {a':Option Addr} {c':Nat} (hg:Rg S B w0 w Bs R) (x':Nat×Stp) (Z2:w.grownBy w1 (Value.ownBlock (.slice R.ea R.evs.length R.ec))) (hO:Own w1 Bs 67 4 a' (R.evs.length+1) c' (R.evs.flatMap evC++evC x')) (hli:Ji0 w R.ea a')
  (hx:ev e x= .pointer (some ⟨R.rb,1,none⟩)) (hy:ev e y= .slice a' (R.evs.length+1) c') (hs:(prog.info? T).map (·.size)=some 1)
  (k:∀w2,Rg S B w0 w2 Bs {R with ea:=a',ec:=c',evs:=R.evs ++ [x']}->L prog n ops Q rest e w2):L prog n ops Q (⟨none,.store T x y,ty,ps,af,none⟩::rest) e w1 :=
 L.Eq0 (Rn.cells {R with ea:=a',ec:=c',evs:=R.evs ++ [x']}) hx hy rfl hs rfl rfl (S2 hg.m.run Z2 (H5 hg.m.evs (by decide))) (show 1+1 <=8 by omega) (.inl (show 1+1 <=7 by omega)) (by simp[Rn.cells,setRow,Value.cells]) (k _ (hg.Oc0 x' Z2 hO hli))
theorem L.qw1 {o:Nat} {v:Value} {w1:World} {a':Option Addr} {c':Nat} (hg:Rg S B w0 w Bs R) (x':Nat×Nat×Nte) (Z2:w.grownBy w1 (Value.ownBlock (.slice R.na R.nts.length R.nc))) (hO:Own w1 Bs 63 4 a' (R.nts.length+1) c' (R.nts.flatMap ntC++ntC x')) (hli:Ji0 w R.na a')
  (hx:ev e x= .pointer (some ⟨R.rb,2,none⟩)) (hy:ev e y= .slice a' (R.nts.length+1) c') (hs:(prog.info? T).map (·.size)=some 1)
  (k:∀w2,Rg S B w0 w2 Bs {R with na:=a',nc:=c',nts:=R.nts ++ [x']}->L prog n ops Q rest e w2):L prog n ops Q (⟨none,.store T x y,ty,ps,af,none⟩::rest) e w1 :=
 L.Eq0 (Rn.cells {R with na:=a',nc:=c',nts:=R.nts ++ [x']}) hx hy rfl hs rfl rfl (S2 hg.m.run Z2 (H5 hg.m.nts (by decide))) (show 2+1 <=8 by omega) (.inl (show 2+1 <=7 by omega)) (by simp[Rn.cells,setRow,Value.cells]) (k _ (hg.Od0 x' Z2 hO hli))
theorem L.qx1 {w1:World} {a':Option Addr} {c':Nat} (hg:Rg S B w0 w Bs R) (x':CB) (hx0:M1 w x'.cb (x'.cells R.rb R.cl.length) 248 (0,3)) (hxS:S x'.cb\/B <=x'.cb) (hm:R.cl.length<R.m) (Z2:w.grownBy w1 (Value.ownBlock (.slice R.ca R.cl.length R.cc)))
  (hO:Own w1 Bs 123 1 a' (R.cl.length+1) c' ((R.cl.map fun c=>.p c.cb) ++ [.p x'.cb])) (hli:Ji0 w R.ca a')
  (hx:ev e x= .p R.rb) (hy:ev e y= .slice a' (R.cl.length+1) c') (hs:(prog.info? T).map (·.size)=some 1)
  (k:∀w2,Rg S B w0 w2 Bs {R with ca:=a',cc:=c',cl:=R.cl ++ [x']}->w1.grownBy w2 (some R.rb)->L prog n ops Q rest e w2):L prog n ops Q (⟨none,.store T x y,ty,ps,af,none⟩::rest) e w1 :=
 L.Eq0 (Rn.cells {R with ca:=a',cc:=c',cl:=R.cl ++ [x']}) hx hy rfl hs rfl rfl (S2 hg.m.run Z2 (H5 hg.m.cls (by decide))) (show 0+1 <=8 by omega) (.inl (show 0+1 <=7 by omega)) (by simp[Rn.cells,setRow,Value.cells]) (k _ (hg.Oe0 x' hx0 hxS hm Z2 hO hli) (A2 _ _ _ _ _))
end
section
theorem Jj0 (l:List Stp) (i:Nat) (s:Stp) (hi:i<l.length):setRow (l.flatMap spC).toArray (i*3) (spC s)=((l.set i s).flatMap spC).toArray:=by
 apply Array.toList_inj.1;have key:∀(l:List Stp) (i:Nat),i<l.length->(l.set i s).flatMap spC=(((l.flatMap spC).set (i*3) (.i s.kind)).set (i*3+1) (.i s.obj)).set (i*3+2) (.i s.num):=by
  intro l
  induction l with
  |nil=>intro i hi;simp at hi
  |cons a l ih=>
   intro i hi;cases i with
   |zero=>simp[spC,List.flatMap_cons]
   |succ i=>
    have:=ih i (by simpa using hi);simp only[List.set_cons_succ,List.flatMap_cons,spC,List.cons_append,List.nil_append];rw[show(i+1)*3=i*3+1+1+1 by omega];simp only[List.set_cons_succ];rw[this]
 rw[key l i hi];simp[setRow,spC]
end
section
variable [Ctx prog]{n:Nat}{Q:Exit->Env->World->Prop}{e:Env}{ops:Array Oper}{rest:List Oper}{ty:TypeId}{ps:String}{af:Array Edge}{T:TypeId}{x y:Operand}
variable {S:Nat->Prop}{B:Nat}{w0 w:World}{Bs:Nat}{R:Rn}
theorem L.stE {i:Nat} {z:Int} (hg:Rg S B w0 w Bs R) (hi:i<R.m) (hx:ev e x= .pointer (some ⟨R.eb,0+i*1,none⟩)) (hy:ev e y= .i z) (hs:(prog.info? T).map (·.size)=some 1)
  (k:∀w1,Rg S B w0 w1 Bs {R with ends:=R.ends.set i z}->w.grownBy w1 (some R.eb)->L prog n ops Q rest e w1):L prog n ops Q (⟨none,.store T x y,ty,ps,af,none⟩::rest) e w:=by
 refine L.Eq0 _ hx hy rfl hs rfl rfl hg.m.ends (by rw[Nat.zero_add,Nat.mul_one];simp[hg.m.he0];omega) (.inr (by simp)) ?_ (k _ (hg.D8 i z) (A2 _ _ _ _ _));rw[Nat.zero_add,Nat.mul_one];apply Array.toList_inj.1;simp[setRow,Value.cells,List.map_set]
theorem L.stW {i:Nat} {z:Stp} (hg:Rg S B w0 w Bs R) (hi:i<R.m) (hx:ev e x= .pointer (some ⟨R.wb,0+i*3,none⟩)) (hy:ev e y=ky0 z) (hs:(prog.info? T).map (·.size)=some 3)
  (k:∀w1,Rg S B w0 w1 Bs {R with wts:=R.wts.set i z}->w.grownBy w1 (some R.wb)->L prog n ops Q rest e w1):L prog n ops Q (⟨none,.store T x y,ty,ps,af,none⟩::rest) e w:=by
 have hln:(R.wts.flatMap spC).length=R.m*3:=by
  rw[<- hg.m.mb0];generalize R.wts=l
  induction l with
  |nil=>rfl
  |cons a l ih=>simp only[List.flatMap_cons,List.length_append,ih,List.length_cons];simp[spC];omega
 refine L.Eq0 (vs:=spC z) _ hx hy rfl hs rfl rfl hg.m.wts (by simp only[List.size_toArray,hln];omega) (.inr (by simp)) ?_ (k _ (hg.bz1 i z) (A2 _ _ _ _ _));rw[Nat.zero_add];exact Jj0 R.wts i z (by rw[hg.m.mb0];exact hi)
end
section
variable [Ctx prog]
end
section
theorem kw1 (x0:Int) (x1:Int) (x2:Int) (x3:ByteArray):prog.built 63 [(0,.i x0),(1,.i x1),(2,.i x2),(3,.string x3)]=some #[.i x0,.i x1,.i x2,.string x3]:=by kernel_rfl
end
section
variable [Ctx prog]
theorem ca1 {S:Nat->Prop} {B:Nat} {w0:World} {Bs:Nat} (R:Rn) (w:World) (hg:Rg S B w0 w Bs R) (hBs:Bs <=w.heap.size) (i:Nat) (c:CB) (hc:R.cl[i]? =some c) (R2:c.st=false) (hrm:R.nts.length <=1000000000) (kind:Int) (text:ByteArray):C prog 74 #[.p c.cb,.i kind,.string text] w fun v w1=>v= .tuple #[]/\∃a n,Rg S B w0 w1 Bs {R with na:=a,nc:=n,nts:=R.nts ++ [(R.evs.length,i,⟨kind,text⟩)]}:=by
 refine C.enter (n:=42) func74 rfl rfl ?_;refine U512 ?_;refine U97 ?_;refine L.va (B0 rfl underlying248 rfl sz4 (by decide)) ?_;refine L.on rfl ?_;refine L.va (A0 rfl underlying4 rfl ((hg.m.blk i c hc).q0 10 (v:=.bool c.st) rfl)) ?_;refine L.va (V7 rfl) ?_;refine U3 ?_;refine W.Q6 (rb R2) ?_;refine U76 ?_;refine U0 ?_;refine U10 ?_;refine L.va (B0 rfl underlying248 rfl Hi0 (by decide)) ?_;refine L.va (A0 rfl underlying169 rfl ((hg.m.blk i c hc).q0 1 (v:=.p R.rb) rfl)) ?_;refine U77 ?_;refine U19 ?_;refine U102 ?_;intro hR hC;refine W.fl 19 [17,18] [0,1,2,3,4,5,6,7,8,9,10,11,12,13,14,15,16,17,18] (fun w'=>M1 w' R.rb #[.slice R.ca R.cl.length R.cc,.slice R.ea R.evs.length R.ec,.slice R.na R.nts.length R.nc,.slice (pt R.eb) R.m R.m,.slice (pt R.wb) R.m R.m,.bool R.stuck,.i (R.used:Int),.chan (some R.yb)] 173 (7,8)/\M1 w' c.cb #[.i (i:Int),.p R.rb,.chan (some c.rc),.i c.sp.kind,.i c.sp.obj,.i c.sp.num,c.rf,c.df,.i (c.W1:Int),.bool c.wt,.bool c.st] 248 (0,3)) (by kernel_rfl) (by kernel_rfl) (by kernel_rfl) (by kernel_rfl) (by kernel_rfl) (⟨hR.j0 (Below.refl w.heap.size w).drew,hC.j0 (Below.refl w.heap.size w).drew⟩) ?_;have Q3:Below w.heap.size w w.drew:=(Below.refl w.heap.size w).drew;have hBs:=Nat.le_trans hBs Q3.size;have hg:=hg.j0 Q3;have hR:=hR.j0 Q3;have hC:=hC.j0 Q3;clear Q3;generalize w.drew=w at *;refine U514 ?_;refine F.va rfl rfl (fun w' L1=>(B0 rfl underlying45 rfl bp1 (by decide))) ?_;refine F.va rfl rfl (fun w' L1=>(A0 rfl underlying42 rfl (L1.1.q0 2 (v:=.slice R.na R.nts.length R.nc) rfl))) ?_;refine U26 ?_;refine U372 ?_;refine F.va rfl rfl (fun w' L1=>(K6 rfl underlying41 rfl)) ?_;refine U26 ?_;refine U387 ?_;refine F.va rfl rfl (fun w' L1=>(o4 rfl)) ?_;refine F.va rfl rfl (fun w' L1=>C5) ?_;refine F.va rfl rfl (fun w' L1=>(G2 (parts:=[(0,.tmp 30),(1,.tmp 34),(2,.tmp 35),(3,.tmp 36)]) rfl (kw1 (R.evs.length:Nat) (i:Int) kind text))) ?_;refine F.doo rfl rfl ?_;refine L.bq0 (cs:=#[.i (R.evs.length:Nat),.i (i:Int),.i kind,.string text]) rfl rfl underlying42 pc1 rfl ⟨_,pd1⟩ (by decide) (fun w b38 F38=>?_);have hBs:=Nat.le_trans hBs F38.below.size;have hg:=hg.j0 F38.below;have hR:=hR.j0 F38.below;have hC:=hC.j0 F38.below;have Uq0:=F38.blk;refine L.nil ⟨rfl,⟨hR,hC⟩,?_⟩;refine F.doo rfl rfl ?_;refine L.gi0 (B:=Bs) (m:=1) rfl rfl underlying42 pe1 rfl (by decide) hg.m.nts (news:=[.i (R.evs.length:Nat),.i (i:Int),.i kind,.string text]) rfl (fun j u hj=>by
  rw[Addr.add_lit]
  match j,hj with
  |0,hj=>cases hj;exact Uq0.q0 0 rfl
  |1,hj=>cases hj;exact Uq0.q0 1 rfl
  |2,hj=>cases hj;exact Uq0.q0 2 rfl
  |3,hj=>cases hj;exact Uq0.q0 3 rfl) (fun u hu=>by simp only[List.mem_cons,List.not_mem_nil,or_false]at hu;rcases hu with rfl|rfl|rfl|rfl <;> rfl) (by omega) (by omega) hBs (fun a39 c39 w2 hO Z2 hli=>?_)
 have hR:=S2 hR Z2 (H5 hg.m.nts (by decide));have hC:=S2 hC Z2 (H5 hg.m.nts (by decide));refine L.nil ⟨rfl,⟨hR,hC⟩,?_⟩;refine U8 ?_;refine L.va (C1 rfl) ?_;refine L.va (B0 rfl underlying45 rfl bp1 (by decide)) ?_;refine L.qw1 (o:=0) (v:=undef) hg (R.evs.length,i,⟨kind,text⟩) Z2 hO hli rfl rfl bp1 (fun w hg=>?_);refine L.nil ?_
 try clear hR
 try clear hC
 refine U75 ?_;exact⟨rfl,_,_,hg⟩
theorem Eu0 (R:Rn) (Bs:Nat) (w0:World) (hM:j5 w0 Bs R) (hm:R.cl.length <=1000):C prog 79 #[.p R.rb] w0 fun v w1=>v= .bool (R.cl.any (·.wt))/\w1=w0:=by
 refine C.enter (n:=19) func79 rfl rfl ?_;refine U0 ?_;refine U6 ?_;refine U7 ?_;refine U176 ?_;refine U410 ?_;refine U51 ?_;refine W.loop (fun k e w=>∃(i:Nat),k=R.cl.length-i/\e 0= .p R.rb/\e 2= .bool false/\e 8= .slice R.ca R.cl.length (R.cc)/\e 9= .i (R.cl.length:Nat)/\e 10= .i (i:Int)/\i <=R.cl.length/\(∀(j:Nat) (c:CB),j<i->R.cl[j]? =some c->c.wt=false)/\w=w0) _ ⟨0,rfl,rfl,rfl,rfl,rfl,rfl,Nat.zero_le _,fun j c hj=>absurd hj (Nat.not_lt_zero _),rfl⟩ ?_;rintro k e w ⟨i,hk,s0,s2,s8,s9,s10,hi,hno,hw⟩;rw[P0 s0,P0 s2,P0 s8,P0 s9,P0 s10];clear s0 s2 s8 s9 s10;subst hw;refine U22 ?_;refine W.Y5 rfl (fun h11=>?_) (fun h11=>?_)
 ·have I1:i<R.cl.length:=by omega
  obtain⟨c,hc⟩:∃c,R.cl[i]? =some c:=⟨_,List.getElem?_eq_getElem I1⟩
  refine U24 ?_;refine U409 ?_;refine U41 ?_;refine U446 ?_;refine U3 ?_;refine W.cond rfl (fun h17=>?_) (fun h17=>?_)
  ·refine W.seq ?_;refine W.region rfl ?_;refine U6 ?_;refine U17 ?_;exact⟨congrArg Value.bool (List.any_eq_true.2 ⟨c,List.mem_of_getElem? hc,h17⟩).symm,rfl⟩
  ·refine W.skip ?_;refine U36 ?_;refine U14 ?_;exact⟨_,by omega,⟨i+1,rfl,rfl,rfl,rfl,rfl,rfl,(by omega),(fun j d hj hd=>by
     rcases Nat.lt_or_ge j i with z|z
     ·exact hno j d z hd
     ·obtain rfl:j=i:=by omega
      rw[hc]at hd;obtain rfl:=Option.some.inj hd;exact h17),rfl⟩⟩
 ·refine W.exit ?_;refine U15 ?_;refine U6 ?_;refine U17 ?_;exact⟨congrArg Value.bool (kv1 hno (by omega)).symm,rfl⟩
theorem wp0 (R:Rn) (Bs:Nat) (w0:World) (hM:j5 w0 Bs R) (hm:R.cl.length <=1000) (r:Nat->Bool) (hrd:∀(i:Nat) (c:CB),R.cl[i]? =some c->c.wt=true->yv0 w0 c.rf (r i)):C prog 77 #[.p R.rb] w0 fun v w=>∃a cp,v= .slice a (rdl R.cl r R.cl.length).length cp/\Own w w0.heap.size 123 1 a (rdl R.cl r R.cl.length).length cp ((rdl R.cl r R.cl.length).map (Og0 R.cl))/\Below w0.heap.size w0 w:=by
 refine C.enter (n:=39) func77 rfl rfl ?_;refine U1 ?_;intro hb;refine U92 ?_;refine U93 ?_;refine U176 ?_;refine L.va (A0 rfl underlying171 rfl ((hM.j0 hb).run.q0 0 (v:=.slice R.ca R.cl.length R.cc) rfl)) ?_;refine L.va (K6 rfl underlying171 rfl) ?_;refine U51 ?_;refine W.loop (fun k e w=>∃(i:Nat),∃(a:Option Addr),∃(q:Nat),∃(cp:Nat),k=R.cl.length-i/\e 0= .p R.rb/\e 2= .slice none 0 0/\e 3= .slice a q cp/\e 9= .slice R.ca R.cl.length (R.cc)/\e 10= .i (R.cl.length:Nat)/\e 11= .i (i:Int)/\i <=R.cl.length/\q=(rdl R.cl r i).length/\Own w w0.heap.size 123 1 a q cp ((rdl R.cl r i).map (Og0 R.cl))/\Below w0.heap.size w0 w) _ ⟨0,none,0,0,rfl,rfl,rfl,rfl,rfl,rfl,rfl,Nat.zero_le _,rfl,Own.nil _ _ _ _,hb⟩ ?_;rintro k e w ⟨i,a,q,cp,hk,s0,s2,s3,s9,s10,s11,hi,hq,hO,hb⟩;rw[P0 s0,P0 s2,P0 s3,P0 s9,P0 s10,P0 s11];clear s0 s2 s3 s9 s10 s11;refine U22 ?_;refine W.Y5 rfl (fun h12=>?_) (fun h12=>?_)
 ·have I1:i<R.cl.length:=by omega
  obtain⟨c,hc⟩:∃c,R.cl[i]? =some c:=⟨_,List.getElem?_eq_getElem I1⟩
  obtain⟨cb,rc,sp,rf,df,pk,wt,st⟩:=c;refine U24 ?_;refine L.va (n8 (i:=i) rfl rfl underlying171 Bg0 hM.cls.sl I1) ?_;refine L.va (A0 (v:=.p cb) rfl underlying123 rfl (Of0 (hM.j0 hb) hc)) ?_;refine U19 ?_;refine W.seq ?_;cases wt with
  |false=>
   refine W.region rfl ?_;refine U62 ?_;refine L.va (A0 rfl underlying4 rfl (((hM.j0 hb).blk i _ hc).q0 9 (v:=.bool false) rfl)) ?_;refine U132 ?_;refine U31 ?_;refine U31 ?_;refine U31 ?_;refine U203 ?_;refine L.nil ?_;have hrl:=Oh0 (r:=r) hc rfl;show W _ _ _ _ _ _;refine W.Q6 rfl ?_;refine W.skip ?_;refine U36 ?_;exact U408
  |true=>
   rcases hrd i _ hc rfl with⟨h1,h2⟩|⟨f,fn,caps,h1,hf,hbd,hnm,Bh0⟩
   all_goals dsimp only at h1
   all_goals subst h1
   ·refine W.region rfl ?_;refine U435 ?_;refine U97 ?_;refine U280 ?_;refine L.va (A0 rfl underlying22 rfl (((hM.j0 hb).blk i _ hc).q0 6 (v:=.nilFunc) rfl)) ?_;refine L.on rfl ?_;refine L.va (cg0 (v:=.nilFunc) (b:=true) rfl (.inl ⟨rfl,rfl⟩) rfl underlying22 ⟨_,_,_,rfl⟩) ?_;refine L.on rfl ?_;refine U132 ?_;refine L.off rfl ?_;refine L.on rfl ?_;refine L.va (A7 rfl) ?_;refine U272 ?_;have hrl:=Hk0 (r:=r) hc h2;show W _ _ _ _ _ _;refine U347 ?_;refine L.va (aj0 rfl) ?_;refine U467 ?_;intro w b35 F35;have hb:=G0 hb F35.below;have hO:=hO.j0 F35.below;have cb1:=F35.blk;have hOl:=Et0 (cl:=R.cl) (r:=r) i;refine L.M7 (B:=w0.heap.size) (m:=1) rfl rfl underlying171 Nm0 rfl (by decide) hO (fun h=>by cases h) (news:=[.p cb]) rfl (fun ad had j u hj=>by
     cases had;rw[Addr.add_lit]
     match j,hj with
     |0,hj=>cases hj;exact cb1.q0 0 rfl) (fun u hu=>by simp only[List.mem_cons,List.not_mem_nil,or_false]at hu;subst hu;rfl) (by omega) (by omega) hb.size (fun a2 cp2 w2 hO2 hg2 Y0 _=>?_)
    have hb:=hb.trans Y0
    rename World=>w
    refine U84 ?_;refine U36 ?_;exact U373
   ·refine W.region rfl ?_;refine U435 ?_;refine U97 ?_;refine U280 ?_;refine U411 ?_;refine L.va (cg0 (v:=.func (.func f) #[] caps) (b:=false) rfl (.inr ⟨_,_,_,rfl,rfl⟩) rfl underlying22 ⟨_,_,_,rfl⟩) ?_;refine L.on rfl ?_;refine U97 ?_;refine U280 ?_;refine U411 ?_;refine L.call (il0 rfl hf hbd hnm) (Bh0 w hb) ?_;rintro _ w ⟨rfl,I2⟩;have hb:=G0 hb I2;have hO:=hO.j0 I2;refine L.on rfl ?_;refine L.va (V7 rfl) ?_;refine L.va (A7 rfl) ?_;refine U3 ?_;refine W.cond rfl (fun h32=>?_) (fun h32=>?_)
    ·have hrl:=Hk0 (r:=r) hc h32;refine U196 ?_;refine U467 ?_;intro w b35 F35;have hb:=G0 hb F35.below;have hO:=hO.j0 F35.below;have cb1:=F35.blk;have hOl:=Et0 (cl:=R.cl) (r:=r) i;refine L.M7 (B:=w0.heap.size) (m:=1) rfl rfl underlying171 Nm0 rfl (by decide) hO (fun h=>by cases h) (news:=[.p cb]) rfl (fun ad had j u hj=>by
      cases had;rw[Addr.add_lit]
      match j,hj with
      |0,hj=>cases hj;exact cb1.q0 0 rfl) (fun u hu=>by simp only[List.mem_cons,List.not_mem_nil,or_false]at hu;subst hu;rfl) (by omega) (by omega) hb.size (fun a2 cp2 w2 hO2 hg2 Y0 _=>?_)
     have hb:=hb.trans Y0
     rename World=>w
     refine U84 ?_;refine U36 ?_;exact U373
    ·have hrl:=Oh0 (r:=r) hc h32;refine W.skip ?_;refine U36 ?_;exact U408
 ·refine W.exit ?_;refine U205 ?_;refine U100 ?_;obtain rfl:i=R.cl.length:=by omega
  subst hq;exact⟨a,cp,rfl,hO,hb⟩
end
end Go.Vy.Sc
end
section
namespace Go.Vy
open Go Go.Conc Go.Yc Go.RowKit
open Go.Vc Go.Wg
def YS (P:Program) (main:Bool) (l:id0) (K:P6->Prop):Nat->Nat->Goroutine->Prop:=fun m _ g=>∃s,K s/\Yc.Way P main l s m g
def okS (l:id0) (e:Event):Prop:=∃p∈l,e=⟨.cell p.1,false,false⟩
theorem yw0 {P:Program} {main:Bool} {l:id0} {K:P6->Prop}:HF P main (okS l) (YS P main l K) :=
 ⟨fun m d g g' es h1 h2 h3 h4 ⟨s,hk,hw⟩=>⟨s,hk,.inr ⟨(by
  rcases hw.status with⟨_,h⟩|⟨h,_⟩
  ·exact h
  ·rw[h2]at h;cases h),h1,g',es,h3,fun w _=>h4 w,hw⟩⟩⟩
def Sits (n:Nat) (b:Frame) (cs:List Frame) (e:Env) (dst:Option Nat) (todo:List Item) (me:Goroutine):Prop:=∀v,∃a,Rep n a (N3 e dst v)/\Go.Conc.served me v=G (b.at a todo) cs
theorem Sits.go {Z:Goroutine->World->Prop} {n:Nat} {b:Frame} {cs:List Frame} {e:Env} {dst:Option Nat} {todo:List Item} {me:Goroutine} (h:Sits n b cs e dst todo me) {v:Value} {w:World} (hz:ZA Z n b cs (N3 e dst v) todo w):Z (Go.Conc.served me v) w:=by
 obtain⟨a,ha,he⟩:=h v;rw[he];exact hz a ha
theorem mc0 {b:Frame} {a:Act} {k:List Item} {cs:List Frame} {ops:Array Oper} {i:Nat} {rest:List Nat} {o:Oper} (ho:ops[i]? =some o) (v:Value):Go.Conc.served (G (b.at a (.inRegion ops (i::rest)::k)) cs) v=G (b.at (a.put o.dst v) (.inRegion ops rest::k)) cs:=by
 have:(b.at a (.inRegion ops (i::rest)::k)).finish v=b.at (a.put o.dst v) (.inRegion ops rest::k):=by rw[Frame.finish_at,ho];rfl
 show({frame:=(b.at a (.inRegion ops (i::rest)::k)).finish v,callers:=cs,status:=.running,dying:=none}:Goroutine)=_;rw[this];rfl
section
variable {P:Program}{main:Bool}{st:id0}{K:P6->Prop}{ft n:Nat}{b:Frame}{cs:List Frame}{d:Nat}{e:Env}{k:List Item}{ops:Array Oper}{i:Nat}{l:List Oper}{dst:Option Nat}{ty:TypeId}{ps:String}{af:Array Edge}{T E:TypeId}{x y:Operand}
theorem M0.stay {p:Addr} {v:Value} {u:TypeDesc} (hk:b.kind≠.early) (hd:k6 n dst=true) (hp:(p,v)∈st) (hx:ev e x= .pointer (some p)) (hT:P.underlying T=some u) (hu:bs0 u=true)
  (h:M0 (YS P main st K) ft n b cs [] d (N3 e dst v) ops (i+1) l k):M0 (YS P main st K) (ft+1) n b cs [] d e ops i (⟨dst,.load T x,ty,ps,af,none⟩::l) k:=by
 intro hl a ha;obtain⟨ho,J7⟩:=L5 hl;obtain⟨s,hs,hw⟩:=h J7 _ (ha.put hd v);have h0:0<ft:=by
  rcases hw.status with⟨_,h⟩|⟨h,_⟩
  ·exact h
  ·cases h
 refine⟨s,hs,.inr ⟨h0,rfl,_,seen P b.fn #[⟨.cell p,false,false⟩],fun ev' he=>⟨(p,v),hp,?_⟩,fun w L1=>?_,hw⟩⟩
 ·have:=mem_seen he;simpa using this
 ·have hc:=L1 (p,v) hp;show stepG P main (G (b.at a (.inRegion ops (i::List.range' (i+1) l.length)::k)) cs) w=_;rw[stepG_value ho (by rw[ha.yielded];rfl) hk (by rw[ha.eval];exact Go.Vc.A0 hx hT hu hc),listed];have he:∀es,(isAgg T).events P w es=es:=fun es=>by
   cases u <;> simp[isAgg,go_sem,run_underlying hT]
  have hq:(execOp a.eval ⟨dst,.load T x,ty,ps,af,none⟩).events P w #[]=#[⟨.cell p,false,false⟩]:=by
   rw[ha.eval];simp[execOp,Instr.loadAt,hx,Instr.sureAddr,loadVar,Go.Vc.cf0 hT,hu,hc,he]
  rw[hq]
theorem M0.S1 {c:Nat} {z:Value} {dd:ChanDir} (hk:b.kind≠.early) (hT:P.underlying T=some (.chan dd E)) (hz:(P.info? E).bind (·.zero)=some z) (hx:ev e x= .chan (some c))
  (hK:∀me,Sits n b cs e dst (.inRegion ops (List.range' (i+1) l.length)::k) me->K ⟨c,z,me⟩) (hd:k6 n dst=true):M0 (YS P main st K) (ft+1) n b cs [] d e ops i (⟨dst,.recv T x false,ty,ps,af,none⟩::l) k:=by
 intro hl a ha;obtain⟨ho,J7⟩:=L5 hl;refine⟨⟨c,z,G (b.at a (.inRegion ops (i::List.range' (i+1) l.length)::k)) cs⟩,hK _ fun v=>⟨a.put dst v,⟨(ha.put hd v).size,(ha.put hd v).defers,(ha.put hd v).get⟩,mc0 ho v⟩,.inl ⟨rfl,rfl,rfl,rfl,fun w=>?_⟩⟩;have hr:(execOp a.eval ⟨dst,.recv T x false,ty,ps,af,none⟩).run P w= .ok (.comm #[rcase c z] true (.recv false)) w:=by
  rw[ha.eval];obtain⟨inf,hi,hz'⟩:=Option.bind_eq_some_iff.1 hz;simp[execOp,hx,run_underlying hT,zeroValue,typeInfo,hi,hz',rcase,go_sem]
 show stepG P main (G (b.at a (.inRegion ops (i::List.range' (i+1) l.length)::k)) cs) w=_;have hq:(execOp a.eval ⟨dst,.recv T x false,ty,ps,af,none⟩).events P w #[]=#[]:=by
  rw[ha.eval];obtain⟨inf,hi,hz'⟩:=Option.bind_eq_some_iff.1 hz;simp[execOp,hx,run_underlying hT,zeroValue,typeInfo,hi,hz',go_sem]
 rw[stepG_comm ho (by rw[ha.yielded];rfl) hk hr,listed,hq,seen_none]
theorem wq0 {c:Nat} {v:Value} {a:Act} {rest:List Nat} (hk:b.kind≠.early) (ho:ops[i]? =some ⟨dst,.send x y,ty,ps,af,none⟩) (hx:a.eval x= .chan (some c)) (hy:a.eval y=v) (w:World) :
  stepG P main (G (b.at a (.inRegion ops (i::rest)::k)) cs) w= .comm (G (b.at a (.inRegion ops (i::rest)::k)) cs) #[scase c v (.tuple #[])] true .send w #[]:=by
 rw[stepG_comm (cases:=#[scase c v (.tuple #[])]) (blocking:=true) (shape:=.send) (w':=w) ho rfl hk (by simp[execOp,hx,hy,scase]),listed];have:(execOp a.eval ⟨dst,.send x y,ty,ps,af,none⟩).events P w #[]=#[]:=rfl;rw[this,seen_none]
theorem Oi0 {f:FuncId} {asx:Array Operand} {ats:Array TypeId} {a:Act} {rest:List Nat} (hk:b.kind≠.early) (ho:ops[i]? =some ⟨dst,.go {callee:=.value (.func f),args:=asx,argTypes:=ats},ty,ps,af,none⟩) (w:World) :
  stepG P main (G (b.at a (.inRegion ops (i::rest)::k)) cs) w= .spawn (G (b.at (a.put dst undef) (.inRegion ops rest::k)) cs) (born P (dcall f (asx.map a.eval))) w #[]:=by
 have ef:a.eval (.func f)= .func (.func f) #[] #[]:=rfl;have hr:(execOp a.eval ⟨dst,.go {callee:=.value (.func f),args:=asx,argTypes:=ats},ty,ps,af,none⟩).run P w= .ok (.spawn (dcall f (asx.map a.eval))) w:=by
  unfold execOp;simp[resolve,Deferred.ofValue,ef,dcall]
 have he:(execOp a.eval ⟨dst,.go {callee:=.value (.func f),args:=asx,argTypes:=ats},ty,ps,af,none⟩).events P w #[]=#[]:=by
  unfold execOp;simp[resolve,Deferred.ofValue,ef]
 rw[stepG_spawn ho rfl hk hr rfl,listed,he,seen_none]
end
section
variable {P:Program}{main:Bool}{b c:Frame}{a:Act}{k todo:List Item}{cs:List Frame}{w:World}{ops:Array Oper}{i:Nat}{rest:List Nat}{f:FuncId}{fn:Func}{args caps:Array Value}{ds:List Deferred}
theorem ea0 {md:FrameMode} {body:Code} (hmd:md≠.run) (hd:a.defers={target:=.fn (.func f) caps,args:=args} :: ds) (hf:P.funcs[f]? =some fn) (A4:(fn.name== "runtime.NumGoroutine")=false) (hb:fn.body=some body) :
  stepG P main (G {b.at a todo with mode:=md} cs) w= .go (G ((baseD f).at {tmps:=(args++caps)++Array.replicate (fn.ntmps-(args++caps).size) undef,defers:=[]} [.code body]) ({b.at ⟨a.tmps,ds⟩ todo with mode:=md} :: cs)) w #[]:=by
 have h1:¬fn.name= "runtime.NumGoroutine":=by simpa using A4
 rw[<- enter_atD (args++caps) hf hb];cases md with
 |run=>exact absurd rfl hmd
 |returning=>simp[G,stepG,unwind,callDeferred,Frame.at,hd,invoke,callFunc,hf,h1,hb,GStep.after,seen_none]
 |panicking ch=>simp[G,stepG,unwind,callDeferred,Frame.at,hd,invoke,callFunc,hf,h1,hb,GStep.after,seen_none]
theorem nn0 {ρ:Operand->Value} {dst:Option Nat} {ty:TypeId} {ps:String} {af:Array Edge}:((execOp ρ ⟨dst,.call {callee:=.builtin .recover,args:=#[],argTypes:=#[]},ty,ps,af,none⟩).run P w= .ok .recover w)/\(execOp ρ ⟨dst,.call {callee:=.builtin .recover,args:=#[],argTypes:=#[]},ty,ps,af,none⟩).events P w #[]=#[]:=by
 constructor <;> simp[execOp,resolve,invoke,builtin]
theorem ob0 {dst:Option Nat} {ty:TypeId} {ps:String} {af:Array Edge} (ho:ops[i]? =some ⟨dst,.call {callee:=.builtin .recover,args:=#[],argTypes:=#[]},ty,ps,af,none⟩) (hk:b.kind= .deferred) (hr:b.roundOf=none) (hc:c.mode= .returning) :
  stepG P main (G (b.at a (.inRegion ops (i::rest)::k)) (c::cs)) w= .go (G (b.at (a.put dst .nilIface) (.inRegion ops rest::k)) (c::cs)) w #[]:=by
 have dc0:(b.at a (.inRegion ops (i::rest)::k)).finish .nilIface=b.at (a.put dst .nilIface) (.inRegion ops rest::k):=by rw[Frame.finish_at,ho];rfl
 rw[stepG_oper ho rfl,<- dc0];simp[stepG.apply,nn0,G,Frame.at,hk,tryRecover,hc,GStep.after,seen_none]
theorem md0 {dst:Option Nat} {ty:TypeId} {ps:String} {af:Array Edge} {v:Value} {G4:List PanicEntry} (ho:ops[i]? =some ⟨dst,.call {callee:=.builtin .recover,args:=#[],argTypes:=#[]},ty,ps,af,none⟩) (hk:b.kind= .deferred) (hr:b.roundOf=none) (hc:c.mode= .panicking ({v,recovered:=false} :: G4)) :
  stepG P main (G (b.at a (.inRegion ops (i::rest)::k)) (c::cs)) w= .go (G (b.at (a.put dst v) (.inRegion ops rest::k)) ({c with mode:=.panicking ({v,recovered:=true} :: G4)} :: cs)) w #[]:=by
 have dc0:(b.at a (.inRegion ops (i::rest)::k)).finish v=b.at (a.put dst v) (.inRegion ops rest::k):=by rw[Frame.finish_at,ho];rfl
 rw[stepG_oper ho rfl,<- dc0];simp[stepG.apply,nn0,G,Frame.at,hk,tryRecover,hc,GStep.after,seen_none]
theorem mf0 {v v':Value} {G4:List PanicEntry} (hn:b.kind= .deferred) (hd:a.defers=[]) (hf:P.funcs[b.fn]? =some fn) (hr:(results fn a.tmps).run P w= .ok v w) (he:(results fn a.tmps).events P w #[]=#[])
  (hc:c.mode= .panicking ({v:=v',recovered:=true} :: G4)) (ho:G4.dropWhile (!·.goexit)=[]) :
  stepG P main (G {b.at a todo with mode:=.returning} (c::cs)) w= .go (G {c with mode:=.returning} cs) w #[]:=by
 simp[G,stepG,unwind,doReturn,Frame.at,hn,hd,hf,hr,he,hc,ho,seen,GStep.after]
theorem Bi0 {dst:Option Nat} {ty:TypeId} {ps:String} {af:Array Edge} {x:Operand} (ho:ops[i]? =some ⟨dst,.defer {callee:=.value x,args:=#[],argTypes:=#[]},ty,ps,af,none⟩) (hk:b.kind≠.early) (hx:a.eval x= .func (.func f) #[] caps) :
  stepG P main (G (b.at a (.inRegion ops (i::rest)::k)) cs) w= .go (G (b.at (Act.put ⟨a.tmps,{target:=.fn (.func f) caps,args:=#[]} :: a.defers⟩ dst undef) (.inRegion ops rest::k)) cs) w #[]:=by
 have hr:(execOp a.eval ⟨dst,.defer {callee:=.value x,args:=#[],argTypes:=#[]},ty,ps,af,none⟩).run P w= .ok (.defer {target:=.fn (.func f) caps,args:=#[]}) w:=by
  simp[execOp,resolve,Deferred.ofValue,hx]
 have he:(execOp a.eval ⟨dst,.defer {callee:=.value x,args:=#[],argTypes:=#[]},ty,ps,af,none⟩).events P w #[]=#[]:=by
  simp[execOp,resolve,Deferred.ofValue,hx]
 have dc0:(b.at ⟨a.tmps,{target:=.fn (.func f) caps,args:=#[]} :: a.defers⟩ (.inRegion ops (i::rest)::k)).finish undef=b.at (Act.put ⟨a.tmps,{target:=.fn (.func f) caps,args:=#[]} :: a.defers⟩ dst undef) (.inRegion ops rest::k):=by rw[Frame.finish_at,ho];rfl
 have hk':(b.kind==CallKind.early)=false:=by simpa using hk
 rw[stepG_oper ho rfl,<- dc0];simp[stepG.apply,hr,he,G,Frame.at,hk',GStep.after,seen_none]
def E9 (P:Program):Frame:={fn:=P.funcs.size,tmps:=#[],todo:=[],defers:=[],mode:=.panicking [goexitEntry],kind:=.normal,roundOf:=none}
theorem Jk0 {body:Code} (hf:P.funcs[f]? =some fn) (A4:(fn.name== "runtime.NumGoroutine")=false) (hb:fn.body=some body) :
  stepG P main (born P (dcall f args)) w= .go (G ((baseD f).at {tmps:=args++Array.replicate (fn.ntmps-args.size) undef,defers:=[]} [.code body]) [E9 P]) w #[]:=by
 have h1:¬fn.name= "runtime.NumGoroutine":=by simpa using A4
 rw[<- enter_atD args hf hb];simp[born,G,stepG,unwind,callDeferred,dcall,invoke,callFunc,hf,h1,hb,GStep.after,seen_none,E9];exact⟨rfl,rfl,rfl,rfl⟩
theorem Jl0 (hn:b.kind= .deferred) (hd:a.defers=[]) (hf:P.funcs[b.fn]? =some fn) {v:Value} (hr:(results fn a.tmps).run P w= .ok v w) (he:(results fn a.tmps).events P w #[]=#[]) :
  stepG P main (G {b.at a todo with mode:=.returning} [E9 P]) w= .go (G (E9 P) []) w #[]:=by
 simp[G,stepG,unwind,doReturn,Frame.at,hn,hd,hf,hr,he,seen,GStep.after,E9,goexitEntry]
theorem Jm0:stepG P main (G (E9 P) []) w= .go {frame:=E9 P,callers:=[],status:=.finished,dying:=none} w #[]:=by
 simp[G,stepG,unwind,E9,goexitEntry,Frame.catches]
end
section
variable {P:Program}[Ctx P]{Z:Goroutine->World->Prop}{Q:Exit->Act->World->Prop}{ops:Array Oper}{b:Frame}{k:List Item}{cs:List Frame}{n:Nat}{e:Env}{w:World}
theorem ZA.X7 [Go.Vc.j4] (hZ:Ctx.Zs P Z) {c:Operand} {x y:Code} (hc:ev e c= .bool true) (h:ZA Z n b cs e (.code x::k) w):ZA Z n b cs e (.code (.cond c x y)::k) w:=ZA.cond hZ (t:=true) hc h
theorem ZA.Q6 [Go.Vc.j4] (hZ:Ctx.Zs P Z) {c:Operand} {x y:Code} (hc:ev e c= .bool false) (h:ZA Z n b cs e (.code y::k) w):ZA Z n b cs e (.code (.cond c x y)::k) w:=ZA.cond hZ (t:=false) hc h
theorem ZA.W [Go.Vc.j4] (hZ:Ctx.Zs P Z) (hb:b.kind≠.early) {c:Code} (h:Vy.W P n c (dp0 (fun e' w'=>ZA Z n b cs e' k w') fun _ _ _=>False) e w):ZA Z n b cs e (.code c::k) w:=ZA.piece hZ hb h fun _ _ h=>h
theorem ZA.panics [Go.Vc.j4] (hZ:Ctx.Zs P Z) (hb:b.kind≠.early) {c:Code} (h:Vy.W P n c (fun x e' w'=>∃ch,x= .panic ch/\∀a todo,Rep n a e'->Z (G {b.at a todo with mode:=.panicking ch} cs) w') e w):ZA Z n b cs e (.code c::k) w:=by
 intro a ha;refine h a ha Z hZ b k cs hb fun x a' w' hx=>?_;obtain⟨e',r,ch,rfl,hq⟩:=hx;exact fun todo=>hq a' todo r
theorem L.Oj0 [Go.Vc.j4] {x:Operand} {ty:TypeId} {ps:String} {af:Array Edge} {rest:List Oper} {Q:Exit->Env->World->Prop} {t:TypeId} {v0:Value} (hx:ev e x= .iface t v0) (k:Q (.panic [{v:=.iface t v0,recovered:=false}]) e w):L P n ops Q (⟨none,.panic x,ty,ps,af,none⟩::rest) e w:=by
 refine L.av1 rfl ⟨rfl,rfl,fun τ d ρ x' hs=>⟨Evo.refl _,x',#[],?_,hs,fun e he=>by simp at he⟩⟩ k;rw[Sem.runT_eq];have h1:(execOp (ev e) ⟨none,.panic x,ty,ps,af,none⟩).run P x'= .halt (.panic (.iface t v0)) x':=by simp[execOp,Instr.panic,hx]
 have h2:(execOp (ev e) ⟨none,.panic x,ty,ps,af,none⟩).events P x' #[]=#[]:=by simp[execOp,Instr.panic,hx]
 rw[h1,h2];rfl
end
section
variable {P:Program}{Z:Goroutine->World->Prop}{b:Frame}{cs:List Frame}{n:Nat}{e:Env}{w:World}
theorem ZA.leaves {fn:Func} {f:FuncId} (hb:b=base f) (hf:P.funcs[f]? =some fn) (hr:fn.results=#[]) (h:∀fr,fr.fn=f->Leaves P fr w (.returned (.tuple #[]))->Z (G fr cs) w):ZR Z n b cs e w:=by
 intro todo a ha;subst hb;refine h _ rfl ⟨rfl,ha.defers,rfl,fn,hf,C8 (fun w=>results_none hr _ P w) (fun w=>events_results_none hr _ _)⟩
end
section
variable {P:Program}[Ctx P]{Z:Goroutine->World->Prop}{ops:Array Oper}{b:Frame}{k:List Item}{cs:List Frame}{n:Nat}{e:Env}{w:World}
theorem ZA.call [Go.Vc.j4] (hZ:Ctx.Zs P Z) (hb:b.kind≠.early) {i:Nat} {rest:List Nat} {o:Oper} {f:FuncId} {args:Array Value} (ho:ops[i]? =some o) (hg:o.guard=none) (hr:Does P (execOp (ev e) o) w (.enter f args) w)
  (h:∀a,Rep n a e->Z (G (Frame.enter P f args .normal) (b.at a (.inRegion ops (i::rest)::k)::cs)) w):ZA Z n b cs e (.inRegion ops (i::rest)::k) w:=by
 intro a ha;have hw:Region.wanted o (yielded ops a.tmps)=true:=by
  obtain⟨d,op,ty,ps,af,g⟩:=o;cases hg;rfl
 refine(Ctx.cl Z hZ).own _ _ rfl fun τ d=>?_;refine⟨_,T2 w τ d,w.drawn,⟨rfl,fun ρ x hx=>?_⟩,h a ha⟩;obtain⟨h1,x',es,h2,h3,h4⟩:=hr.go τ d ρ x hx;rw[Sem.runT_eq]at h2;obtain⟨h5,h6⟩:=Prod.mk.inj h2;refine⟨h1,x',seen P b.fn es,?_,h3,fun e he=>h4 e (mem_seen he)⟩;have h5':(execOp a.eval o).run P x= .ok (.enter f args) x':=by rw[ha.eval];exact h5
 rw[stepG_enter ho hw hb h5',listed,ha.eval,h6]
theorem ZA.home [Go.Vc.j4] {i:Nat} {rest:List Nat} {o:Oper} (ho:ops[i]? =some o) (hd:k6 n o.dst=true) {v:Value} {w':World} {a:Act} (ha:Rep n a e) (h:ZA Z n b cs (N3 e o.dst v) (.inRegion ops rest::k) w'):Z (G ((b.at a (.inRegion ops (i::rest)::k)).finish v) cs) w':=by
 have dc0:(b.at a (.inRegion ops (i::rest)::k)).finish v=b.at (a.put o.dst v) (.inRegion ops rest::k):=by rw[Frame.finish_at,ho];rfl
 rw[dc0];exact h _ (ha.put hd v)
end
section
variable {P:Program}{ops:Array Oper}{b:Frame}{k:List Item}{cs:List Frame}{n:Nat}{e:Env}
theorem ZA.back [Go.Vc.j4] {Z':Goroutine->World->Prop} {main:Bool} (hZ':Cl P main Z') {i:Nat} {rest:List Nat} {o:Oper} (ho:ops[i]? =some o) (hd:k6 n o.dst=true) {v:Value} {w':World} {fr:Frame} {a:Act} (ha:Rep n a e) (hl:Leaves P fr w' (.returned v))
  (h:ZA Z' n b cs (N3 e o.dst v) (.inRegion ops rest::k) w'):Z' (G fr (b.at a (.inRegion ops (i::rest)::k)::cs)) w':=by
 refine cl0 hZ' hl ?_;have dc0:(b.at a (.inRegion ops (i::rest)::k)).finish v=b.at (a.put o.dst v) (.inRegion ops rest::k):=by rw[Frame.finish_at,ho];rfl
 rw[dc0];exact h _ (ha.put hd v)
end
section
variable {P:Program}[Ctx P]
end
section
variable {P:Program}[Ctx P]{Z:Goroutine->World->Prop}{ops:Array Oper}{b c:Frame}{k:List Item}{cs:List Frame}{n:Nat}{e:Env}{w:World}{i:Nat}{rest:List Nat}{dst:Option Nat}{ty:TypeId}{ps:String}{af:Array Edge}
theorem ZA.Jn0 [Go.Vc.j4] (hZ:Ctx.Zs P Z) (ho:ops[i]? =some ⟨dst,.call {callee:=.builtin .recover,args:=#[],argTypes:=#[]},ty,ps,af,none⟩) (hd:k6 n dst=true) (hk:b.kind= .deferred) (hr:b.roundOf=none) (hc:c.mode= .returning) (h:ZA Z n b (c::cs) (N3 e dst .nilIface) (.inRegion ops rest::k) w):ZA Z n b (c::cs) e (.inRegion ops (i::rest)::k) w :=
 fun _a ha=>(Ctx.cl Z hZ).ctl rfl rfl (fun _w=>ob0 ho hk hr hc) (h _ (ha.put hd _))
theorem ZA.Ew0 [Go.Vc.j4] (hZ:Ctx.Zs P Z) {v:Value} {G4:List PanicEntry} (ho:ops[i]? =some ⟨dst,.call {callee:=.builtin .recover,args:=#[],argTypes:=#[]},ty,ps,af,none⟩) (hd:k6 n dst=true) (hk:b.kind= .deferred) (hr:b.roundOf=none) (hc:c.mode= .panicking ({v,recovered:=false} :: G4)) (h:ZA Z n b ({c with mode:=.panicking ({v,recovered:=true} :: G4)} :: cs) (N3 e dst v) (.inRegion ops rest::k) w):ZA Z n b (c::cs) e (.inRegion ops (i::rest)::k) w :=
 fun _a ha=>(Ctx.cl Z hZ).ctl rfl rfl (fun _w=>md0 ho hk hr hc) (h _ (ha.put hd _))
def Zg0 (c c':Frame):Prop:=(c.mode= .returning/\c'=c)\/∃v G4,G4.dropWhile (!·.goexit)=[]/\c'={c with mode:=.panicking ({v,recovered:=true} :: G4)}
theorem ZA.recover [Go.Vc.j4] (hZ:Ctx.Zs P Z) (ho:ops[i]? =some ⟨dst,.call {callee:=.builtin .recover,args:=#[],argTypes:=#[]},ty,ps,af,none⟩) (hd:k6 n dst=true) (hk:b.kind= .deferred) (hr:b.roundOf=none) (hc:c.mode= .returning\/∃v G4,c.mode= .panicking ({v,recovered:=false} :: G4)/\G4.dropWhile (!·.goexit)=[])
  (h:∀c' v,Zg0 c c'->ZA Z n b (c'::cs) (N3 e dst v) (.inRegion ops rest::k) w):ZA Z n b (c::cs) e (.inRegion ops (i::rest)::k) w:=by
 rcases hc with hc|⟨v,G4,hc,ho'⟩
 ·exact ZA.Jn0 hZ ho hd hk hr hc (h c _ (.inl ⟨hc,rfl⟩))
 ·exact ZA.Ew0 hZ ho hd hk hr hc (h _ _ (.inr ⟨v,G4,ho',rfl⟩))
theorem ZA.region [Go.Vc.j4] (hZ:Ctx.Zs P Z) {id:Nat} (h:ZA Z n b cs e (.inRegion ops (List.range ops.size)::k) w):ZA Z n b cs e (.code (.region id ops false)::k) w:=ZA.c hZ (fun _ _=>stepG_region) h
def ZD (Z:Goroutine->World->Prop) (n:Nat) (b:Frame) (cs:List Frame) (ds:List Deferred) (e:Env) (todo:List Item) (w:World):Prop:=∀a,ju0 n a e ds->Z (G (b.at a todo) cs) w
variable {ds:List Deferred}
theorem ZA.zd (h:ZD Z n b cs [] e k w):ZA Z n b cs e k w:=fun a ha=>h a (kx1 ha) where kx1 {n:Nat} {a:Act} {e:Env} (h:Rep n a e):ju0 n a e []:=⟨h.size,h.defers,h.get⟩
theorem ZD.ctl (hZ:Ctx.Zs P Z) {todo nk0:List Item} (hs:∀a w,stepG P (Ctx.main P) (G (b.at a todo) cs) w= .go (G (b.at a nk0) cs) w #[]) (h:ZD Z n b cs ds e nk0 w):ZD Z n b cs ds e todo w:=fun a ha=>(Ctx.cl Z hZ).ctl rfl rfl (hs a) (h a ha)
theorem ZD.seq (hZ:Ctx.Zs P Z) {x y:Code} (h:ZD Z n b cs ds e (.code x :: .code y::k) w):ZD Z n b cs ds e (.code (.seq x y)::k) w:=ZD.ctl hZ (fun _ _=>stepG_seq) h
theorem ZD.region (hZ:Ctx.Zs P Z) {id:Nat} (h:ZD Z n b cs ds e (.inRegion ops (List.range ops.size)::k) w):ZD Z n b cs ds e (.code (.region id ops false)::k) w:=ZD.ctl hZ (fun _ _=>stepG_region) h
theorem ZD.M4 (hZ:Ctx.Zs P Z) (h:ZD Z n b cs ds e k w):ZD Z n b cs ds e (.inRegion ops []::k) w:=ZD.ctl hZ (fun _ _=>stepG_region_end) h
variable {op:Op}{d:Nat}{v:Value}{w':World}
theorem ZD.va (hZ:Ctx.Zs P Z) (hb:b.kind≠.early) (ho:ops[i]? =some ⟨some d,op,ty,ps,af,none⟩) (hd:k6 n (some d)=true) (hr:Does P (execOp (ev e) ⟨some d,op,ty,ps,af,none⟩) w (.val v) w') (h:ZD Z n b cs ds (upd e d v) (.inRegion ops rest::k) w'):ZD Z n b cs ds e (.inRegion ops (i::rest)::k) w:=by
 intro a ha;refine U461 ?_;refine al0 (r:=.val v) (w':=w') (by rw[ha.eval];exact hr) ?_;exact h _ (ha.put hd v)
theorem ZD.st (hZ:Ctx.Zs P Z) (hb:b.kind≠.early) (ho:ops[i]? =some ⟨none,op,ty,ps,af,none⟩) (hr:Does P (execOp (ev e) ⟨none,op,ty,ps,af,none⟩) w .skip w') (h:ZD Z n b cs ds e (.inRegion ops rest::k) w'):ZD Z n b cs ds e (.inRegion ops (i::rest)::k) w:=by
 intro a ha;refine U461 ?_;refine al0 (r:=.skip) (w':=w') (by rw[ha.eval];exact hr) ?_;exact h _ ha
theorem ZD.defer (hZ:Ctx.Zs P Z) (hb:b.kind≠.early) {f:FuncId} {asx:Array Operand} {ats:Array TypeId} {vs:Array Value} (ho:ops[i]? =some ⟨none,.defer {callee:=.value (.func f),args:=asx,argTypes:=ats},ty,ps,af,none⟩) (hv:asx.map (ev e)=vs) (h:ZD Z n b cs (dcall f vs::ds) e (.inRegion ops rest::k) w):ZD Z n b cs ds e (.inRegion ops (i::rest)::k) w:=by
 intro a ha;refine(Ctx.cl Z hZ).ctl rfl rfl (fun w=>stepG_defer ho rfl hb rfl) ?_;rw[ha.eval,hv,ha.defers];exact h _ ⟨ha.size,rfl,ha.get⟩
theorem ZD.cc1 (hZ:Ctx.Zs P Z) (hb:b.kind≠.early) {f:FuncId} {caps:Array Value} {x:Operand} (ho:ops[i]? =some ⟨none,.defer {callee:=.value x,args:=#[],argTypes:=#[]},ty,ps,af,none⟩) (hx:ev e x= .func (.func f) #[] caps) (h:ZD Z n b cs ({target:=.fn (.func f) caps,args:=#[]} :: ds) e (.inRegion ops rest::k) w):ZD Z n b cs ds e (.inRegion ops (i::rest)::k) w:=by
 intro a ha;refine(Ctx.cl Z hZ).ctl rfl rfl (fun w=>Bi0 ho hb (by rw[ha.eval];exact hx)) ?_;rw[ha.defers];exact h _ ⟨ha.size,rfl,ha.get⟩
theorem ZD.call (hZ:Ctx.Zs P Z) (hb:b.kind≠.early) {f:FuncId} {args:Array Value} (ho:ops[i]? =some ⟨dst,op,ty,ps,af,none⟩) (hr:Does P (execOp (ev e) ⟨dst,op,ty,ps,af,none⟩) w (.enter f args) w)
  (h:∀a,ju0 n a e ds->Z (G (Frame.enter P f args .normal) (b.at a (.inRegion ops (i::rest)::k)::cs)) w):ZD Z n b cs ds e (.inRegion ops (i::rest)::k) w:=by
 intro a ha;refine(Ctx.cl Z hZ).own _ _ rfl fun τ d=>?_;refine⟨_,T2 w τ d,w.drawn,⟨rfl,fun ρ x hx=>?_⟩,h a ha⟩;obtain⟨h1,x',es,h2,h3,h4⟩:=hr.go τ d ρ x hx;rw[Sem.runT_eq]at h2;obtain⟨h5,h6⟩:=Prod.mk.inj h2;refine⟨h1,x',seen P b.fn es,?_,h3,fun e he=>h4 e (mem_seen he)⟩;have h5':(execOp a.eval ⟨dst,op,ty,ps,af,none⟩).run P x= .ok (.enter f args) x':=by rw[ha.eval];exact h5
 rw[stepG_enter ho rfl hb h5',listed,ha.eval,h6]
end
section
variable {P:Program}{Post:Value->World->Prop}{X:Gh}{h:Nat}{H:Hid}
theorem B6:@Ctx.Zs P (j2 P (h==0)) (Fin P Post X h):=⟨fr0 P Post X h,by0⟩
theorem Hl0:@Ctx.Zs P (j2 P (h==0)) (kv0 P Post X h H):=⟨Ue0 H,fun _g _u hz hH=>by0 _ _ fun hv=>hz (kx0 hH hv) hH⟩
theorem lb0 (V:Nat->Prop) [DecidablePred V] {g:Goroutine} {U:World} (hf:kv0 P Post X h (T9 V U) g (O3 V U)):Fin P Post X h g U :=
 by0 _ _ fun hv=>by have:=hf (pp0 hv);rwa [kw0]at this
theorem At.M4 {main:Bool} {ok:Event->Prop} {Y:Nat->Nat->Goroutine->Prop} {ft n d:Nat} {b:Frame} {cs:List Frame} {ds:List Deferred} {e:Env} {k:List Item} {ops:Array Oper} (hY:HF P main ok Y) (h:At Y ft n b cs ds d e k):At Y (ft+1) n b cs ds d e (.inRegion ops []::k):=At.c hY (fun _ _=>stepG_region_end) h
theorem v8 {n:Nat} (args:Array Value) (m:Nat) (hn:args.size+(m-args.size)=n):Rep n {tmps:=args++Array.replicate (m-args.size) undef,defers:=[]} (Vc.bp0 args):=by
 have:=ey0 args m hn;exact⟨this.size,this.defers,this.get⟩
theorem py0 {n:Nat} {a:Act} {e:Env} (h:Rep n a e):ju0 n a e []:=⟨h.size,h.defers,h.get⟩
variable {n ft:Nat}{b:Frame}{cs:List Frame}{e:Env}{k:List Item}{ops:Array Oper}{i:Nat}{rest:List Nat}{ty:TypeId}{ps:String}{af:Array Edge}{x y:Operand}{v:Value}{w:World}
theorem ZA.more [Go.Vc.j4] [Ctx P] {Z:Goroutine->World->Prop} (hZ:Ctx.Zs P Z) (hb:b.kind≠.early) {l:List Oper} (i:Nat) (hB:Ts0 n l=true) (h:L P n l.toArray (dp0 (fun e' w'=>ZA Z n b cs e' k w') fun _ _ _=>False) (l.drop i) e w):ZA Z n b cs e (.inRegion l.toArray (List.range' i (l.drop i).length)::k) w:=by
 intro a ha;have h1:=h (fun o ho=>List.all_eq_true.1 hB o (List.mem_of_mem_drop ho)) a ha;have h2:=jx0 (l.drop i) i a w (fun j _=>by rw[List.getElem?_drop];simp) h1;have:=ix0 (Z:=Z) (b:=b) (k:=k) (cs:=cs) (suf:=[]) hZ hb (fun ch a' w' hx=>by obtain⟨_,_,hx⟩:=hx;exact hx.elim) (fun a' w' hx=>by
  obtain⟨e',r,hq⟩:=hx;exact ZA.M4 hZ hq a' r) _ a w h2
 rwa [List.append_nil]at this
theorem ZA.give {j:Nat} {s:P6} {st:id0} {K:P6->Prop} (hb:b.kind≠.early) (ho:ops[i]? =some ⟨none,.send x y,ty,ps,af,none⟩) (hx:ev e x= .chan (some s.ch)) (hy:ev e y=v) (hj:X.S1 j=some s) (hjh:j≠h) (hdn:X.dn=0) (R2:X.stay h=st)
  (yg0:At (YS P (h==0) st K) ft n b cs [] 0 e (.inRegion ops rest::k)) (hsh:∀s',K s'->X.chs s'.ch/\∀i s2,i≠j->X.S1 i=some s2->s2.ch≠s'.ch)
  (hF:∀s',K s'->Fin P Post (X.pass h j (some s')) j (Go.Conc.served s.me v) w):ZA (Fin P Post X h) n b cs e (.inRegion ops (i::rest)::k) w:=by
 intro a ha;have Ol0:a.put none undef=a:=rfl;obtain⟨s',hK,hw⟩:=yg0 a (py0 ha);refine Fin.give (a₂:=G (b.at a (.inRegion ops (i::rest)::k)) cs) (s:=s) (j:=j) (nh:=ft) (v:=v) (z':=.tuple #[]) rfl hj hjh hdn (wq0 hb ho (by rw[ha.eval];exact hx) (by rw[ha.eval];exact hy)) (some s') (fun s2 e2=>by cases e2;exact hsh s' hK) ?_ (hF s' hK);unfold yh0;rw[mc0 ho,R2];exact hw
theorem ZA.pz0 {j:Nat} {s:P6} {gr:K7} (hb:b.kind≠.early) (ho:ops[i]? =some ⟨none,.send x y,ty,ps,af,none⟩) (hx:ev e x= .chan (some s.ch)) (hy:ev e y=v) (hj:X.S1 j=some s) (hjh:j≠h) (hdn:X.dn=0) (hh:0<h) (Z2:X.J4=some gr)
  (yg0:At (YLt P gr) ft n b cs [] 0 e (.inRegion ops rest::k)) (hF:Fin P Post (X.pass h j none) j (Go.Conc.served s.me v) w):ZA (Fin P Post X h) n b cs e (.inRegion ops (i::rest)::k) w:=by
 intro a ha;refine Fin.give (a₂:=G (b.at a (.inRegion ops (i::rest)::k)) cs) (s:=s) (j:=j) (nh:=ft) (v:=v) (z':=.tuple #[]) rfl hj hjh hdn (wq0 hb ho (by rw[ha.eval];exact hx) (by rw[ha.eval];exact hy)) none (fun s2 e2=>by cases e2) ?_ hF;unfold yh0;rw[mc0 ho];exact⟨hh,gr,Z2,yg0 a (py0 ha)⟩
theorem ZA.spawn {f:FuncId} {asx:Array Operand} {ats:Array TypeId} {st:id0} {K:P6->Prop} {vs:Array Value} {gr:K7} (hb:b.kind≠.early) (ho:ops[i]? =some ⟨none,.go {callee:=.value (.func f),args:=asx,argTypes:=ats},ty,ps,af,none⟩) (hvs:asx.map (ev e)=vs) (hdn:X.dn=0) (hp:X.pend=1) (Z2:X.J4=some gr) (R2:X.stay 0=st)
  (yg0:At (YS P true st K) ft n b cs [] 0 e (.inRegion ops rest::k)) (hsh:∀s',K s'->X.chs s'.ch/\∀i s2,X.S1 i=some s2->s2.ch≠s'.ch)
  (hF:∀s',K s'->Fin P Post (X.hire s') X.n (born P (dcall f vs)) w):ZA (Fin P Post X 0) n b cs e (.inRegion ops (i::rest)::k) w:=by
 intro a ha;have Ol0:a.put none undef=a:=rfl;obtain⟨s',hK,hw⟩:=yg0 a (py0 ha);refine Fin.spawn (g':=G (b.at (a.put none undef) (.inRegion ops rest::k)) cs) (child:=born P (dcall f vs)) (s:=s') (nh:=ft) (G:=gr) rfl hdn hp Z2 (fun w=>?_) (hsh s' hK).1 (hsh s' hK).2 (by rw[R2];exact hw) (hF s' hK);rw[Oi0 hb ho,ha.eval,hvs]
theorem AtR.saved {Y:Nat->Nat->Goroutine->Prop} {main:Bool} {ok:Event->Prop} (hY:HF P main ok Y) {c c':Frame} {fn:Func} {todo:List Item} {d:Nat} (hs:Zg0 c c') (hn:b.kind= .deferred) (hf:P.funcs[b.fn]? =some fn) (hr:fn.results=#[]) (h:Y ft d (G {c with mode:=.returning} cs)):AtR Y (ft+1) n b (c'::cs) [] d e todo:=by
 intro a ha;rcases hs with⟨hc,rfl⟩|⟨v,G4,ho,rfl⟩
 ·have:({c' with mode:=.returning}:Frame)=c':=by rw[<- hc]
  rw[this]at h;exact hY.c rfl rfl (fun w=>stepG_leave_deferred hn ha.defers hf (results_none hr _ P w) (events_results_none hr _ _) hc) h
 ·refine hY.c rfl rfl (fun w=>?_) h;exact mf0 hn ha.defers hf (results_none hr _ P w) (events_results_none hr _ _) rfl ho
end
end Go.Vy
end
section
namespace Go.Vy.Sc
open Go Go.Conc Go.Yc Go.RowKit Go.Proofs Go.Proofs.YtinppmaojmdmhaaGreat Tryz
open Go.Vc Go.Wg
structure qa0 (cs:List Frame) (cb:Nat) (df:Value) (me:Goroutine):Prop where
 yes:∀(C0:Ctx prog) (Z:Goroutine->World->Prop),@Ctx.Zs prog C0 Z->∀(u:World) (K:World->Prop),Jd0 prog C0 df u K->(∀u2 fr,K u2->fr.fn=126->Leaves prog fr u2 (.returned (.tuple #[]))->Z (G fr cs) u2)->Z (Go.Conc.served me (.bool true)) u
 no:∀Z,@Ctx.Zs prog (j2 prog false) Z->∀(u:World) (S:Nat->Prop) (B:Nat) (w0:World) (Bs:Nat) (R:Rn) (i:Nat) (c:CB),Rg S B w0 u Bs R->R.cl[i]? =some c->c.cb=cb->(∀u2 fr ch,Rg S B w0 u2 Bs {R with cl:=R.cl.set i {c with st:=true}}->fr.fn=126->Z5 ch->Leaves prog fr u2 (.panicked ch)->Z (G fr cs) u2)->Z (Go.Conc.served me (.bool false)) u
theorem lc0 {f:FuncId} {fn:Func} {n:Nat} {a:Act} {e:Env} {todo:List Item} {ch:List PanicEntry} {w:World} (hf:prog.funcs[f]? =some fn) (ha:Rep n a e):Leaves prog {(base f).at a todo with mode:=.panicking ch} w (.panicked ch) :=
 ⟨rfl,ha.defers,by simp[Frame.catches,Frame.at,base,hf]⟩
theorem ky1:prog.built 268 []=some #[]:=by kernel_rfl
theorem B7 {l:List CB} {i:Nat} {c c':CB} (h:l[i]? =some c):(l.set i c')[i]? =some c':=by
 have:=(List.getElem?_eq_some_iff.1 h).1;simp[this]
theorem Ur0 {S:Nat->Prop} {B:Nat} {w0 w:World} {Bs:Nat} {R:Rn} {i:Nat} {c1 c2 c3 c4:CB} (h:Rg S B w0 w Bs {R with cl:=(((R.cl.set i c1).set i c2).set i c3).set i c4}):Rg S B w0 w Bs {R with cl:=R.cl.set i c4}:=by
 simpa using h
set_option maxRecDepth 20000 in
theorem step_fin {Post:Value->World->Prop} {X:Gh} {g:Nat} {S:Nat->Prop} {B:Nat} {w0:World} {Bs:Nat} {R:Rn} {w:World} {i:Nat} {c:CB} {s:Stp} {rf df:Value} {cs:List Frame} {z0:Value} {me0:Goroutine}
  (hg:Rg S B w0 w Bs R) (hc:R.cl[i]? =some c) (qy1:c.st=false) (hrf:rf.cells=#[rf]/\rf.oneCell'=true) (hdf:df.cells=#[df]/\df.oneCell'=true)
  (X9:g≠0) (hX0:X.S1 0=some ⟨R.yb,z0,me0⟩) (hdn:X.dn=0) (R2:X.stay g=[(⟨c.cb,2,none⟩,.chan (some c.rc))]) (hsh:X.chs c.rc/\∀i s2,i≠0->X.S1 i=some s2->s2.ch≠c.rc)
  (H9:∀w' me,Rg S B w0 w' Bs {R with cl:=R.cl.set i {c with sp:=s,rf:=rf,df:=df,wt:=true}}->qa0 cs c.cb df me->Fin prog Post (X.pass g 0 (some ⟨c.rc,.bool false,me⟩)) 0 (Go.Conc.served me0 (.i (i:Int))) w') :
  Fin prog Post X g (G (Frame.enter prog 126 #[.p c.cb,ky0 s,rf,df] .normal) cs) w:=by
 letI:Ctx prog:=j2 prog (g==0);rw[enter_at _ func126 rfl];refine(?_:ZA (Fin prog Post X g) 63 (base 126) cs (Vc.bp0 #[.p c.cb,ky0 s,rf,df]) [.code (Tryz.f126.body.getD .skip)] w) _ (v8 _ _ rfl);have hZ:Ctx.Zs prog (Fin prog Post X g):=B6;have hb:=K1 126;refine U4 ?_;refine L.box (cs:=#[.i s.kind,.i s.obj,.i s.num]) rfl rfl (fun w b5 F5=>?_);have hg:=hg.j0 F5.below;have K2:=F5.blk;refine U11 ?_;refine U511 ?_;refine U71 ?_;refine U4 ?_;refine U62 ?_;refine L.va (A0 rfl underlying4 rfl ((hg.m.blk i c hc).q0 10 (v:=.bool c.st) rfl)) ?_;refine U2 ?_;refine ZA.Q6 hZ (rb qy1) ?_;refine ZA.skip hZ ?_;refine U12 ?_;refine U178 ?_;refine L.va (B3 rfl) ?_;refine L.va (B2 (cs:=[.i s.kind,.i s.obj,.i s.num]) rfl underlying65 rfl yt0 rfl (K2.L6 rfl)) ?_;refine U202 ?_;refine L.va (C1 rfl) ?_;refine L.va (B0 rfl underlying248 rfl yt0 (by decide)) ?_;refine L.stC (i:=i) (o:=3) (vs:=[.i s.kind,.i s.obj,.i s.num]) hg {c with sp:=s} hc rfl rfl rfl rfl yt0 rfl rfl (by decide) rfl (fun w hg Z2=>?_)
 try clear Z2
 refine L.va (C1 rfl) ?_;refine L.va (B0 rfl underlying248 rfl bo1 (by decide)) ?_;refine L.stC (i:=i) (o:=6) (vs:=[rf]) hg {{c with sp:=s} with rf:=rf} (B7 hc) rfl rfl rfl (congrArg Array.toList hrf.1) bo1 rfl (by simp[hrf.2]) (by decide) rfl (fun w hg Z2=>?_)
 try clear Z2
 refine L.va (C1 rfl) ?_;refine L.va (B0 rfl underlying248 rfl sz1 (by decide)) ?_;refine L.stC (i:=i) (o:=7) (vs:=[df]) hg {{{c with sp:=s} with rf:=rf} with df:=df} (B7 (B7 hc)) rfl rfl rfl (congrArg Array.toList hdf.1) sz1 rfl (by simp[hdf.2]) (by decide) rfl (fun w hg Z2=>?_)
 try clear Z2
 refine U114 ?_;refine L.stC (i:=i) (o:=9) (vs:=[.bool true]) hg {{{{c with sp:=s} with rf:=rf} with df:=df} with wt:=true} (B7 (B7 (B7 hc))) rfl rfl rfl rfl sz4 rfl rfl (by decide) rfl (fun w hg Z2=>?_)
 try clear Z2
 refine U11 ?_;refine ZA.nh0 hZ hb 11 (fun w'=>Below w.heap.size w w') (by kernel_rfl) (by kernel_rfl) (by kernel_rfl) (by kernel_rfl) (Below.refl w.heap.size w).drew ?_;refine U60 ?_;refine D.va (fun w' L1=>(B0 rfl underlying248 rfl Hi0 (by decide))) ?_;refine D.va (fun w' L1=>(A0 rfl underlying169 rfl (((hg.m.blk i _ (B7 (B7 (B7 (B7 hc))))).j0 L1).q0 1 (v:=.p R.rb) rfl))) ?_;refine D.va (fun w' L1=>(C1 rfl)) ?_;refine U150 ?_;refine U60 ?_;refine D.va (fun w' L1=>(B0 rfl underlying248 rfl sz3 (by decide))) ?_;refine D.va (fun w' L1=>(A0 rfl underlying3 rfl (((hg.m.blk i _ (B7 (B7 (B7 (B7 hc))))).j0 L1).q0 0 (v:=.i (i:Int)) rfl))) ?_;refine U144 ?_;intro w I2 hg;clear I2;refine ZA.give (i:=11) (rest:=[]) (s:=⟨R.yb,z0,me0⟩) (st:=[(⟨c.cb,2,none⟩,.chan (some c.rc))]) (K:=fun s=>s.ch=c.rc/\s.z= .bool false/\qa0 cs c.cb df s.me) (ft:=60) hb rfl rfl rfl hX0 X9.symm hdn R2 ?_ ?_ ?_
 ·have qz1:(g==0)=false:=by simpa using X9
  rw[qz1];have hY:=yw0 (P:=prog) (main:=false) (l:=[((⟨c.cb,2,none⟩:Addr),Value.chan (some c.rc))]) (K:=fun s=>s.ch=c.rc/\s.z= .bool false/\qa0 cs c.cb df s.me);refine At.M4 hY ?_;refine At.seq hY ?_;refine At.seq hY ?_;refine At.region hY ?_;refine M0.val hY hb rfl (v:=.p c.cb) (L0 rfl) ?_;refine M0.val hY hb rfl (G5 rfl) ?_;refine M0.val hY hb rfl (pq0 rfl underlying248 rfl Yn0 (by decide)) ?_;refine M0.stay (v:=.chan (some c.rc)) hb rfl (by simp) rfl underlying246 rfl ?_;refine M0.S1 (E:=4) (z:=.bool false) hb underlying246 zr4 rfl (fun me hs=>⟨rfl,rfl,⟨?_,?_⟩⟩) rfl
  ·intro C0 Z hZ w K hdo hK;refine hs.go ?_;letI:Ctx prog:=C0;refine ZA.more hZ hb 5 rfl ?_;show L _ _ _ _ _ _ _;refine U222 ?_;refine L.va (nf0 rfl) ?_;refine U71 ?_;rcases hdo with⟨h1,h2⟩|⟨f,caps,⟨h1,fn,hf,hbd,hnm⟩,Bh0⟩
   all_goals subst h1
   ·refine ZA.W hZ hb ?_;refine U125 ?_;refine L.va (cr0 (v:=.nilFunc) (b:=false) rfl (.inl ⟨rfl,rfl⟩) rfl underlying1 ⟨_,_,_,rfl⟩) ?_;refine U123 ?_;exact U436
   ·refine ZA.W hZ hb ?_;refine U125 ?_;refine L.va (cr0 (v:=.func (.func f) #[] caps) (b:=true) rfl (.inr ⟨_,_,_,rfl,rfl⟩) rfl underlying1 ⟨_,_,_,rfl⟩) ?_;refine U49 ?_;refine U145 ?_;refine L.va C5 ?_;refine L.call (il0 rfl hf hbd hnm) Bh0 ?_;rintro _ w h2;refine U2 ?_;exact U436
  ·intro Z hZ w S B w0 Bs R i c2 hg hc hcb hK;refine hs.go ?_;letI:Ctx prog:=j2 prog false
   skip
   refine ZA.more hZ hb 5 rfl ?_;show L _ _ _ _ _ _ _;refine U222 ?_;refine L.va (nf0 rfl) ?_;refine U49 ?_;refine U4 ?_;refine U62 ?_;refine L.stC (i:=i) (o:=10) (vs:=[.bool true]) hg {c2 with st:=true} hc rfl (by rw[hcb];rfl) rfl rfl sz4 rfl rfl (by decide) rfl (fun w hg Z2=>?_)
   try clear Z2
   refine U2 ?_;refine ZA.panics hZ hb ?_;refine W.region rfl ?_;refine L.va (G2 (parts:=[]) rfl ky1) ?_;refine L.va (bf0 (v:=.agg #[]) rfl underlying268 rfl) ?_;refine L.Oj0 rfl ⟨_,rfl,fun a todo ha=>?_⟩;exact hK _ _ _ hg rfl ⟨_,_,rfl,rfl⟩ (lc0 func126 ha)
 ·rintro s2 ⟨h1,_,_⟩;rw[h1];exact hsh
 ·rintro⟨ch,z,me⟩ ⟨h1,h2,h3⟩;cases h1;cases h2;exact H9 _ me (Ur0 hg) h3
section
attribute [local irreducible] KK
abbrev ff0 (a b:Nat):Array Value:=#[.p a,.p b]
theorem yx0 (gr:K7) {n:Nat} {a:Act} {todo:List Item} (hd:a.defers=[dcall 62 #[.pointer (some ⟨gr.blk,gr.off,none⟩)]]):∃m,Lt prog gr m 0 (G {(baseD 128).at a todo with mode:=.returning} [E9 prog]):=by
 have hq:QuitsD prog 2 0 (G {(baseD 128).at ⟨a.tmps,[]⟩ todo with mode:=.returning} [E9 prog]):=by
  refine .inr ⟨rfl,_,#[],fun e he=>by simp at he,fun w=>Jl0 (fn:=Tryz.f128) rfl rfl func128 (results_none rfl _ _ w) (events_results_none rfl _ _),?_⟩;refine .inr ⟨rfl,_,#[],fun e he=>by simp at he,fun w=>Jm0,?_⟩;exact⟨rfl,rfl⟩
 obtain⟨m,hm⟩:=Uo0 gr (c:={(baseD 128).at ⟨a.tmps,[]⟩ todo with mode:=.returning}) rfl hq;refine⟨m+1,?_⟩;exact(P3 prog gr).c rfl rfl (fun w=>ea0 (f:=62) (fn:=Tryz.f62) (caps:=#[]) (args:=#[.pointer (some ⟨gr.blk,gr.off,none⟩)]) (by simp) hd func62 qh1 rfl) hm
theorem kz1:prog.built 268 []=some #[]:=by kernel_rfl
set_option maxRecDepth 20000 in
theorem Ex0 {Z:Goroutine->World->Prop} (hZ:@Ctx.Zs prog (j2 prog false) Z) {rb0 i:Nat} {c:CB} {w0:World} (hC:M1 w0 c.cb (c.cells rb0 i) 248 (0,3)) (R2:c.st=true) {s:Stp} {rf df:Value} {cs:List Frame}
  (hK:∀w' fr ch,Below w0.heap.size w0 w'->fr.fn=126->Z5 ch->Leaves prog fr w' (.panicked ch)->Z (G fr cs) w'):Z (G (Frame.enter prog 126 #[.p c.cb,ky0 s,rf,df] .normal) cs) w0:=by
 letI:Ctx prog:=j2 prog false;rw[enter_at _ func126 rfl];refine(?_:ZA Z 63 (base 126) cs (Vc.bp0 #[.p c.cb,ky0 s,rf,df]) [.code (Tryz.f126.body.getD .skip)] w0) _ (v8 _ _ rfl);have hb:=K1 126;have hb0:Below w0.heap.size w0 w0:=Below.refl _ _;refine U4 ?_;refine L.box (cs:=#[.i s.kind,.i s.obj,.i s.num]) rfl rfl (fun w b5 F5=>?_);have hb0:=G0 hb0 F5.below;have hC:=hC.j0 F5.below;refine U11 ?_;refine U511 ?_;refine U71 ?_;refine U4 ?_;refine U62 ?_;refine L.va (A0 rfl underlying4 rfl (hC.q0 10 (v:=.bool c.st) rfl)) ?_;refine U2 ?_;refine ZA.X7 hZ (rb R2) ?_;refine ZA.panics hZ hb ?_;refine W.region rfl ?_;refine L.va (G2 (parts:=[]) rfl kz1) ?_;refine L.va (bf0 (v:=.agg #[]) rfl underlying268 rfl) ?_;refine L.Oj0 rfl ⟨_,rfl,fun a todo ha=>?_⟩;exact hK _ _ _ hb0 rfl ⟨_,_,rfl,rfl⟩ (lc0 func126 ha)
set_option maxRecDepth 20000 in
theorem Om0 {Post:Value->World->Prop} {X:Gh} {g:Nat} {S:Nat->Prop} {B:Nat} {w0:World} {Bs:Nat} {R:Rn} {w:World} {i:Nat} {c:CB} {z0:Value} {me0:Goroutine} {P8 Z7:Nat} {en:Bool} {a45:Act} {p9:List Item} {md:FrameMode}
  (hg:Rg S B w0 w Bs R) (hc:R.cl[i]? =some c) (R2:c.st=true) (hA:M1 w P8 #[.p c.cb] 123 (0,0)) (hE:M1 w Z7 #[.bool en] 4 (0,0)) (X9:0<g) (hX0:X.S1 0=some ⟨R.yb,z0,me0⟩) (hdn:X.dn=0) (qb0:X.J4=some ⟨R.rb,8⟩)
  (hmd:md= .returning\/∃v G4,md= .panicking ({v,recovered:=false} :: G4)/\G4.dropWhile (!·.goexit)=[]) (yy0:a45.defers=[dcall 62 #[.pointer (some ⟨R.rb,8,none⟩)]])
  (H9:∀w',Rg S B w0 w' Bs {R with ends:=R.ends.set i 0,cl:=R.cl.set i {c with wt:=false}}->Fin prog Post (X.pass g 0 none) 0 (Go.Conc.served me0 (.i (i:Int))) w') :
  Fin prog Post X g (G ((baseD 151).at {tmps:=((#[]:Array Value)++ff0 P8 Z7)++Array.replicate (Tryz.f151.ntmps-((#[]:Array Value)++ff0 P8 Z7).size) undef,defers:=[]} [.code (Tryz.f151.body.getD .skip)]) [{(baseD 128).at a45 p9 with mode:=md},E9 prog]) w:=by
 letI:Ctx prog:=j2 prog (g==0);refine(?_:ZA (Fin prog Post X g) 63 (baseD 151) [{(baseD 128).at a45 p9 with mode:=md},E9 prog] (Vc.bp0 ((#[]:Array Value)++ff0 P8 Z7)) [.code (Tryz.f151.body.getD .skip)] w) _ (v8 _ _ rfl);refine U323 ?_;intro hZ hb;have hi:i<R.m:=Nat.lt_of_lt_of_le (List.getElem?_eq_some_iff.1 hc).1 hg.m.lcl;refine ZA.seq hZ ?_;refine U292 ?_;intro c45 v hsv;refine U46 ?_;refine U326 ?_;refine U269 ?_;refine U35 ?_;refine ZA.X7 hZ (rb R2) ?_;refine ZA.W hZ hb ?_;refine U102 ?_;intro hR hC;refine U256 ?_;refine U261 ?_;refine U277 ?_;refine U160 ?_;refine U253 ?_;refine D.nil (fun w I2=>?_);have hA:=hA.j0 I2;have hE:=hE.j0 I2;have hg:=hg.j0 I2;have hR:=hR.j0 I2;have hC:=hC.j0 I2;clear I2;have neA:=M1.ne hA hg.m.ends (by decide);refine U298 ?_;intro neE w hg Z2;have hA:=hA.other Z2 neA;clear neA neE Z2;have hc:(Rn.cl {R with ends:=R.ends.set i 0})[i]? =some c:=hc;refine L.nil ?_
 try clear hR
 try clear hC
 refine U88 ?_;refine U321 ?_;refine U114 ?_;refine U263 ?_;intro neA w hg Z2;have hA:=hA.other Z2 neA;refine U255 ?_;refine U159 ?_;refine U254 ?_;refine U150 ?_;refine U264 ?_;refine U144 ?_;intro w I2 hg;clear I2;obtain⟨m,hm⟩:=yx0 ⟨R.rb,8⟩ (n:=0) (a:=a45) (todo:=p9) yy0;refine ZA.pz0 (i:=11) (rest:=[]) (s:=⟨R.yb,z0,me0⟩) (gr:=⟨R.rb,8⟩) (ft:=m+3) hb rfl rfl rfl hX0 (Nat.ne_of_lt X9) hdn X9 qb0 ?_ ?_
 ·refine At.M4 (P3 _ _) ?_;refine At.done (P3 _ _) (fun _=>?_);exact AtR.saved (P3 _ _) hsv rfl func151 rfl hm
 ·exact H9 _ hg
set_option maxRecDepth 20000 in
theorem On0 {Post:Value->World->Prop} {X:Gh} {g:Nat} {S:Nat->Prop} {B:Nat} {w0:World} {Bs:Nat} {R:Rn} {w:World} {i:Nat} {c:CB} {z0:Value} {me0:Goroutine} {P8 Z7:Nat} {en:Bool} {a45:Act} {p9:List Item} {md:FrameMode}
  (hg:Rg S B w0 w Bs R) (hc:R.cl[i]? =some c) (R2:c.st=false) (hA:M1 w P8 #[.p c.cb] 123 (0,0)) (hE:M1 w Z7 #[.bool true] 4 (0,0)) (X9:0<g) (hX0:X.S1 0=some ⟨R.yb,z0,me0⟩) (hdn:X.dn=0) (qb0:X.J4=some ⟨R.rb,8⟩)
  (hmd:md= .returning\/∃v G4,md= .panicking ({v,recovered:=false} :: G4)/\G4.dropWhile (!·.goexit)=[]) (yy0:a45.defers=[dcall 62 #[.pointer (some ⟨R.rb,8,none⟩)]])
  (H9:∀w',Rg S B w0 w' Bs {R with ends:=R.ends.set i 1,cl:=R.cl.set i {c with wt:=false}}->Fin prog Post (X.pass g 0 none) 0 (Go.Conc.served me0 (.i (i:Int))) w') :
  Fin prog Post X g (G ((baseD 151).at {tmps:=((#[]:Array Value)++ff0 P8 Z7)++Array.replicate (Tryz.f151.ntmps-((#[]:Array Value)++ff0 P8 Z7).size) undef,defers:=[]} [.code (Tryz.f151.body.getD .skip)]) [{(baseD 128).at a45 p9 with mode:=md},E9 prog]) w:=by
 letI:Ctx prog:=j2 prog (g==0);refine(?_:ZA (Fin prog Post X g) 63 (baseD 151) [{(baseD 128).at a45 p9 with mode:=md},E9 prog] (Vc.bp0 ((#[]:Array Value)++ff0 P8 Z7)) [.code (Tryz.f151.body.getD .skip)] w) _ (v8 _ _ rfl);refine U323 ?_;intro hZ hb;have hi:i<R.m:=Nat.lt_of_lt_of_le (List.getElem?_eq_some_iff.1 hc).1 hg.m.lcl;refine ZA.seq hZ ?_;refine U292 ?_;intro c45 v hsv;refine U46 ?_;refine U326 ?_;refine U269 ?_;refine U35 ?_;refine ZA.Q6 hZ (rb R2) ?_;refine U4 ?_;refine L.va (A0 rfl underlying4 rfl (hE.q0 0 (v:=.bool true) rfl)) ?_;refine U35 ?_;refine ZA.X7 hZ rfl ?_;refine ZA.W hZ hb ?_;refine U102 ?_;intro hR hC;refine U256 ?_;refine U261 ?_;refine U277 ?_;refine U160 ?_;refine U253 ?_;refine D.nil (fun w I2=>?_);have hA:=hA.j0 I2;have hE:=hE.j0 I2;have hg:=hg.j0 I2;have hR:=hR.j0 I2;have hC:=hC.j0 I2;clear I2;have neA:=M1.ne hA hg.m.ends (by decide);refine U298 ?_;intro neE w hg Z2;have hA:=hA.other Z2 neA;clear neA neE Z2;have hc:(Rn.cl {R with ends:=R.ends.set i 1})[i]? =some c:=hc;refine L.nil ?_
 try clear hR
 try clear hC
 refine U88 ?_;refine U321 ?_;refine U114 ?_;refine U263 ?_;intro neA w hg Z2;have hA:=hA.other Z2 neA;refine U255 ?_;refine U159 ?_;refine U254 ?_;refine U150 ?_;refine U264 ?_;refine U144 ?_;intro w I2 hg;clear I2;obtain⟨m,hm⟩:=yx0 ⟨R.rb,8⟩ (n:=0) (a:=a45) (todo:=p9) yy0;refine ZA.pz0 (i:=11) (rest:=[]) (s:=⟨R.yb,z0,me0⟩) (gr:=⟨R.rb,8⟩) (ft:=m+3) hb rfl rfl rfl hX0 (Nat.ne_of_lt X9) hdn X9 qb0 ?_ ?_
 ·refine At.M4 (P3 _ _) ?_;refine At.done (P3 _ _) (fun _=>?_);exact AtR.saved (P3 _ _) hsv rfl func151 rfl hm
 ·exact H9 _ hg
set_option maxRecDepth 20000 in
theorem Oo0 {Post:Value->World->Prop} {X:Gh} {g:Nat} {S:Nat->Prop} {B:Nat} {w0:World} {Bs:Nat} {R:Rn} {w:World} {i:Nat} {c:CB} {z0:Value} {me0:Goroutine} {P8 Z7:Nat} {en:Bool} {a45:Act} {p9:List Item} {md:FrameMode}
  (hg:Rg S B w0 w Bs R) (hc:R.cl[i]? =some c) (R2:c.st=false) (hA:M1 w P8 #[.p c.cb] 123 (0,0)) (hE:M1 w Z7 #[.bool false] 4 (0,0)) (X9:0<g) (hX0:X.S1 0=some ⟨R.yb,z0,me0⟩) (hdn:X.dn=0) (qb0:X.J4=some ⟨R.rb,8⟩)
  (hmd:md= .returning\/∃v G4,md= .panicking ({v,recovered:=false} :: G4)/\G4.dropWhile (!·.goexit)=[]) (yy0:a45.defers=[dcall 62 #[.pointer (some ⟨R.rb,8,none⟩)]])
  (H9:∀w',Rg S B w0 w' Bs {R with ends:=R.ends.set i 2,cl:=R.cl.set i {c with wt:=false}}->Fin prog Post (X.pass g 0 none) 0 (Go.Conc.served me0 (.i (i:Int))) w') :
  Fin prog Post X g (G ((baseD 151).at {tmps:=((#[]:Array Value)++ff0 P8 Z7)++Array.replicate (Tryz.f151.ntmps-((#[]:Array Value)++ff0 P8 Z7).size) undef,defers:=[]} [.code (Tryz.f151.body.getD .skip)]) [{(baseD 128).at a45 p9 with mode:=md},E9 prog]) w:=by
 letI:Ctx prog:=j2 prog (g==0);refine(?_:ZA (Fin prog Post X g) 63 (baseD 151) [{(baseD 128).at a45 p9 with mode:=md},E9 prog] (Vc.bp0 ((#[]:Array Value)++ff0 P8 Z7)) [.code (Tryz.f151.body.getD .skip)] w) _ (v8 _ _ rfl);refine U323 ?_;intro hZ hb;have hi:i<R.m:=Nat.lt_of_lt_of_le (List.getElem?_eq_some_iff.1 hc).1 hg.m.lcl;refine ZA.seq hZ ?_;refine U292 ?_;intro c45 v hsv;refine U46 ?_;refine U326 ?_;refine U269 ?_;refine U35 ?_;refine ZA.Q6 hZ (rb R2) ?_;refine U4 ?_;refine L.va (A0 rfl underlying4 rfl (hE.q0 0 (v:=.bool false) rfl)) ?_;refine U35 ?_;refine ZA.Q6 hZ rfl ?_;refine ZA.W hZ hb ?_;refine U102 ?_;intro hR hC;refine U256 ?_;refine U261 ?_;refine U277 ?_;refine U160 ?_;refine U253 ?_;refine D.nil (fun w I2=>?_);have hA:=hA.j0 I2;have hE:=hE.j0 I2;have hg:=hg.j0 I2;have hR:=hR.j0 I2;have hC:=hC.j0 I2;clear I2;have neA:=M1.ne hA hg.m.ends (by decide);refine U298 ?_;intro neE w hg Z2;have hA:=hA.other Z2 neA;clear neA neE Z2;have hc:(Rn.cl {R with ends:=R.ends.set i 2})[i]? =some c:=hc;refine L.nil ?_
 try clear hR
 try clear hC
 refine U88 ?_;refine U321 ?_;refine U114 ?_;refine U263 ?_;intro neA w hg Z2;have hA:=hA.other Z2 neA;refine U255 ?_;refine U159 ?_;refine U254 ?_;refine U150 ?_;refine U264 ?_;refine U144 ?_;intro w I2 hg;clear I2;obtain⟨m,hm⟩:=yx0 ⟨R.rb,8⟩ (n:=0) (a:=a45) (todo:=p9) yy0;refine ZA.pz0 (i:=11) (rest:=[]) (s:=⟨R.yb,z0,me0⟩) (gr:=⟨R.rb,8⟩) (ft:=m+3) hb rfl rfl rfl hX0 (Nat.ne_of_lt X9) hdn X9 qb0 ?_ ?_
 ·refine At.M4 (P3 _ _) ?_;refine At.done (P3 _ _) (fun _=>?_);exact AtR.saved (P3 _ _) hsv rfl func151 rfl hm
 ·exact H9 _ hg
end
section
attribute [local irreducible] KK
theorem Rg.side {S:Nat->Prop} {B:Nat} {w0 w:World} {Bs:Nat} {R:Rn} (h:Rg S B w0 w Bs R) {b:Nat} {cs Z6:Array Value} {T:TypeId} {f:Nat×Nat} (hb:M1 w b cs T f) (hT:T≠173/\T≠123/\T≠67/\T≠63/\T≠3/\T≠65/\T≠248) (hS:S b\/B <=b):Rg S B w0 (O1 w b Z6 T f) Bs R:=by
 have Z2:=A2 w b Z6 T f;have hr:∀T':TypeId,T'≠T->∀r,some b=some r->∃Z6 T'' f',M1 w r Z6 T'' f'/\T'≠T'':=fun T' hT r e=>by cases e;exact⟨_,_,_,hb,hT⟩
 have hm:j5 (O1 w b Z6 T f) Bs R:=⟨S2 h.m.run Z2 (hr _ (Ne.symm hT.1)),P4 h.m.cls Z2 (hr _ (Ne.symm hT.2.1)),P4 h.m.evs Z2 (hr _ (Ne.symm hT.2.2.1)),P4 h.m.nts Z2 (hr _ (Ne.symm hT.2.2.2.1)),S2 h.m.ends Z2 (hr _ (Ne.symm hT.2.2.2.2.1)),S2 h.m.wts Z2 (hr _ (Ne.symm hT.2.2.2.2.2.1)),h.m.he0,h.m.mb0,h.m.lcl,fun i c hc=>S2 (h.m.blk i c hc) Z2 (hr _ (Ne.symm hT.2.2.2.2.2.2))⟩
 exact⟨hm,h.md.grown Z2 h.le (fun r e=>by cases e;exact hS),h.fp,by rw[M6];exact h.le⟩
def la1 (c:CB) (x:Int):Ending->Prop
 | .returned _=>(c.st=true/\x=0)\/(c.st=false/\x=1)
 | .panicked ch=>Z5 ch/\((c.st=true/\x=0)\/(c.st=false/\x=2))
 | .outgrown=>False
structure Op0 (top:List Frame) (P8 Z7 rb cb:Nat):Prop where
 leave:∀{Post:Value->World->Prop} {X:Gh} {g:Nat} {S:Nat->Prop} {B:Nat} {w0:World} {Bs:Nat} {R:Rn} {w:World} {i:Nat} {c:CB} {z0:Value} {me0:Goroutine} {fr:Frame} {e:Ending} (x:Int),Rg S B w0 w Bs R->R.rb=rb->R.cl[i]? =some c->c.cb=cb ->
  M1 w P8 #[.p cb] 123 (0,0)->M1 w Z7 #[.bool false] 4 (0,0)->(S Z7\/B <=Z7)->la1 c x e->0<g->X.S1 0=some ⟨R.yb,z0,me0⟩->X.dn=0->X.J4=some ⟨rb,8⟩ ->
  (∀w',Rg S B w0 w' Bs {R with ends:=R.ends.set i x,cl:=R.cl.set i {c with wt:=false}}->(∃en,M1 w' Z7 #[.bool en] 4 (0,0))->Fin prog Post (X.pass g 0 none) 0 (Go.Conc.served me0 (.i (i:Int))) w') ->
  Leaves prog fr w e->Fin prog Post X g (G fr top) w
theorem j5.Zh0 {w:World} {Bs:Nat} {R:Rn} (h:j5 w Bs R) {b:Nat} {cs:Array Value} {T:TypeId} {f:Nat×Nat} (hb:M1 w b cs T f) (hT:T≠173/\T≠123/\T≠67/\T≠63/\T≠3/\T≠65/\T≠248):¬R.fp b:=by
 intro hk;have own:∀{E:TypeId} {s n c:Nat} {a:Option Addr} {xs:List Value},Own w Bs E s a n c xs->a≠none->b=ab a->T≠E->False:=fun ho ha e X3=>by
  obtain⟨cur,hB,_⟩:=ho.row ha;exact M1.ne (f:=(0,0)) hB hb (Ne.symm X3) e.symm
 rcases hk with rfl|rfl|rfl|⟨ha,e⟩|⟨ha,e⟩|⟨ha,e⟩|⟨i,c,hc,rfl⟩
 ·exact M1.ne hb h.run hT.1 rfl
 ·exact M1.ne hb h.ends hT.2.2.2.2.1 rfl
 ·exact M1.ne hb h.wts hT.2.2.2.2.2.1 rfl
 ·exact own h.cls ha e hT.2.1
 ·exact own h.evs ha e hT.2.2.1
 ·exact own h.nts ha e hT.2.2.2.1
 ·exact M1.ne hb (h.blk i c hc) hT.2.2.2.2.2.2 rfl
theorem Rg.then {S:Nat->Prop} {B:Nat} {w0 w w':World} {Bs:Nat} {R R':Rn} (h:Rg S B w0 w Bs R) (h':Rg R.fp w.heap.size w w' Bs R'):Rg S B w0 w' Bs R' :=
 ⟨h'.m,⟨h'.md.os.trans h.md.os,h'.md.tape.trans h.md.tape,h'.md.output.trans h.md.output,Nat.le_trans h.md.size h'.md.size,fun k hk hs=>(h'.md.block k (Nat.lt_of_lt_of_le hk h.le) fun z=>(h.fp k z).elim hs (Nat.not_le_of_lt hk)).trans (h.md.block k hk hs)⟩,fun k hk=>by
  rcases h'.fp k hk with z|z
  ·exact h.fp k z
  ·exact .inr (Nat.le_trans h.le z),Nat.le_trans h.le h'.md.size⟩
theorem Oq0 {Post:Value->World->Prop} {X:Gh} {g:Nat} {S:Nat->Prop} {B:Nat} {w0:World} {Bs:Nat} {R:Rn} {w:World} {i:Nat} {c:CB} {z0:Value} {me0:Goroutine} {P8 Z7:Nat} {en:Bool} {a45:Act} {p9:List Item} {md:FrameMode} {x:Int}
  (hg:Rg S B w0 w Bs R) (hc:R.cl[i]? =some c) (hx:(c.st=true/\x=0)\/(c.st=false/\en=true/\x=1)\/(c.st=false/\en=false/\x=2)) (hA:M1 w P8 #[.p c.cb] 123 (0,0)) (hE:M1 w Z7 #[.bool en] 4 (0,0)) (X9:0<g) (hX0:X.S1 0=some ⟨R.yb,z0,me0⟩) (hdn:X.dn=0) (qb0:X.J4=some ⟨R.rb,8⟩)
  (hmd:md= .returning\/∃v G4,md= .panicking ({v,recovered:=false} :: G4)/\G4.dropWhile (!·.goexit)=[]) (yy0:a45.defers={target:=.fn (.func 151) (ff0 P8 Z7),args:=#[]} :: [dcall 62 #[.pointer (some ⟨R.rb,8,none⟩)]])
  (H9:∀w',Rg S B w0 w' Bs {R with ends:=R.ends.set i x,cl:=R.cl.set i {c with wt:=false}}->Fin prog Post (X.pass g 0 none) 0 (Go.Conc.served me0 (.i (i:Int))) w') :
  Fin prog Post X g (G {(baseD 128).at a45 p9 with mode:=md} [E9 prog]) w:=by
 refine(fr0 prog Post X g).ctl rfl rfl (fun w=>ea0 (f:=151) (fn:=Tryz.f151) (caps:=ff0 P8 Z7) (args:=#[]) (ds:=[dcall 62 #[.pointer (some ⟨R.rb,8,none⟩)]]) (by rcases hmd with rfl|⟨_,_,rfl,_⟩ <;> simp) yy0 func151 kf1 rfl) ?_;rcases hx with⟨h1,rfl⟩|⟨h1,rfl,rfl⟩|⟨h1,rfl,rfl⟩
 ·exact Om0 hg hc h1 hA hE X9 hX0 hdn qb0 hmd rfl H9
 ·exact On0 (en:=true) hg hc h1 hA hE X9 hX0 hdn qb0 hmd rfl H9
 ·exact Oo0 (en:=false) hg hc h1 hA hE X9 hX0 hdn qb0 hmd rfl H9
theorem wv0 {Post:Value->World->Prop} {X:Gh} {g:Nat} {S:Nat->Prop} {B:Nat} {w0:World} {Bs:Nat} {R:Rn} {w:World} {i:Nat} {c:CB} {z0:Value} {me0:Goroutine} {P8 Z7:Nat} {en:Bool} {a45:Act} {p9:List Item} {md:FrameMode} {x:Int}
  (hg:Rg S B w0 w Bs R) (hc:R.cl[i]? =some c) (hx:(c.st=true/\x=0)\/(c.st=false/\en=true/\x=1)\/(c.st=false/\en=false/\x=2)) (hA:M1 w P8 #[.p c.cb] 123 (0,0)) (hE:M1 w Z7 #[.bool en] 4 (0,0)) (X9:0<g) (hX0:X.S1 0=some ⟨R.yb,z0,me0⟩) (hdn:X.dn=0) (qb0:X.J4=some ⟨R.rb,8⟩)
  (hmd:md= .returning\/∃v G4,md= .panicking ({v,recovered:=false} :: G4)/\G4.dropWhile (!·.goexit)=[]) (yy0:a45.defers={target:=.fn (.func 151) (ff0 P8 Z7),args:=#[]} :: [dcall 62 #[.pointer (some ⟨R.rb,8,none⟩)]])
  (H9:∀w',Rg S B w0 w' Bs {R with ends:=R.ends.set i x,cl:=R.cl.set i {c with wt:=false}}->(∃en,M1 w' Z7 #[.bool en] 4 (0,0))->Fin prog Post (X.pass g 0 none) 0 (Go.Conc.served me0 (.i (i:Int))) w') :
  Fin prog Post X g (G {(baseD 128).at a45 p9 with mode:=md} [E9 prog]) w:=by
 refine Oq0 hg.m.rg hc hx hA hE X9 hX0 hdn qb0 hmd yy0 fun w' hg'=>H9 w' (hg.then hg') ⟨en,?_⟩;exact(hg'.md.block Z7 hE.lt (hg.m.Zh0 hE (by decide))).trans hE
set_option maxRecDepth 20000 in
theorem Or0 {Post:Value->World->Prop} {X:Gh} {g:Nat} {w:World} {Bs:Nat} {R:Rn} {i:Nat} {c:CB} {f:FuncId} {fn:Func} {caps:Array Value} (hf:prog.funcs[f]? =some fn) (hbd:fn.body.isSome=true) (hnm:(fn.name== "runtime.NumGoroutine")=false)
  (hM:j5 w Bs R) (hc:R.cl[i]? =some c)
  (I3:∀w1 top P8 Z7,Below w.heap.size w w1->w.heap.size <=P8->w.heap.size <=Z7->M1 w1 P8 #[.p c.cb] 123 (0,0)->M1 w1 Z7 #[.bool false] 4 (0,0)->Op0 top P8 Z7 R.rb c.cb->Fin prog Post X g (G (Frame.enter prog f (#[] ++ #[.p c.cb]++caps) .normal) top) w1) :
  Fin prog Post X g (born prog (dcall 128 #[.p c.cb,.func (.func f) #[] caps])) w:=by
 refine(fr0 prog Post X g).ctl rfl rfl (fun w=>Jk0 func128 ka1 rfl) ?_;letI:Ctx prog:=j2 prog (g==0);have hZ:Ctx.Zs prog (Fin prog Post X g):=B6;have hb:=bkd 128;refine(?_:ZA (Fin prog Post X g) 15 (baseD 128) [E9 prog] (Vc.bp0 #[.p c.cb,.func (.func f) #[] caps]) [.code (Tryz.f128.body.getD .skip)] w) _ (v8 _ _ rfl);refine U4 ?_;refine L.box (cs:=#[.p c.cb]) rfl rfl (fun w1 P8 FA=>?_);refine U2 ?_;refine U4 ?_;refine L.alloc (cs:=#[.bool false]) zr4 rfl (fun w2 Z7 FE=>?_);refine L.pu 0 [.bool false] #[.bool false] sz4 FE.blk (fun w3 hE Z2 O2=>?_);refine U2 ?_;have O7:Below w.heap.size w w1:=FA.below;have lA:w.heap.size <=P8:=by have:=FA.here;omega
 have lE:w.heap.size <=Z7:=by have:=FE.here;have:=O7.size;omega
 have hb2:Below w.heap.size w w2:=G0 O7 FE.below;have hb3:Below w.heap.size w w3:=p5 hb2 hb2.size Z2 lE;have hA:M1 w3 P8 #[.p c.cb] 123 (0,0):=(L3 (FA.blk.j0 FE.below)).other Z2 (M1.ne (L3 (FA.blk.j0 FE.below)) (L3 FE.blk) (by decide));have hM3:=hM.j0 hb3;refine ZA.zd ?_;refine U310 ?_;refine ZD.va hZ hb (i:=0) (rest:=[1,2,3,4,5,6]) rfl rfl (A0 rfl underlying123 rfl (hA.q0 0 (v:=.p c.cb) rfl)) ?_;refine ZD.va hZ hb (i:=1) rfl rfl (C1 rfl) ?_;refine ZD.va hZ hb (i:=2) rfl rfl (B0 rfl underlying248 rfl Hi0 (by decide)) ?_;refine ZD.va hZ hb (i:=3) rfl rfl (A0 rfl underlying169 rfl ((hM3.blk i c hc).q0 1 (v:=.p R.rb) rfl)) ?_;refine ZD.va hZ hb (i:=4) rfl rfl (C1 rfl) ?_;refine ZD.va hZ hb (i:=5) rfl rfl (B0 rfl underlying173 rfl Yk0 (by decide)) ?_;refine ZD.defer hZ hb (i:=6) (vs:=#[.pointer (some ⟨R.rb,8,none⟩)]) rfl (Wg.bi0 (vl:=[.pointer (some ⟨R.rb,8,none⟩)]) rfl) ?_;refine ZD.M4 hZ ?_;refine U310 ?_;refine ZD.va hZ hb (i:=0) (rest:=[1]) rfl rfl (Z4 (l:=[.tmp 2,.tmp 4]) (vs:=[.p P8,.p Z7]) rfl) ?_;refine ZD.cc1 hZ hb (i:=1) (caps:=ff0 P8 Z7) rfl rfl ?_;refine ZD.M4 hZ ?_;refine U310 ?_;refine ZD.va hZ hb (i:=0) (rest:=[1,2]) rfl rfl (Ly0 rfl) ?_;refine ZD.va hZ hb (i:=1) rfl rfl (A0 rfl underlying123 rfl (hA.q0 0 (v:=.p c.cb) rfl)) ?_;refine ZD.call hZ hb (i:=2) rfl (cq0 (first:=#[]) (cap:=caps) (args:=#[.p c.cb]) rfl (Wg.bi0 (vl:=[.p c.cb]) rfl) hf hbd hnm) (fun a ha=>?_);refine I3 w3 _ P8 Z7 hb3 lA lE hA hE ⟨?_⟩;clear I3 hb3 hb2 O7 hM3 hA hE Z2 O2 FA FE;intro Post X g S B w0 Bs R' w i c' z0 me0 fr e x hg hRb hc hcb hA hE hS hx X9 hX0 hdn Z2 H9 hl;rw[<- hcb]at hA;have cd1:X.J4=some ⟨R'.rb,8⟩:=by rw[hRb];exact Z2
 letI:Ctx prog:=j2 prog (g==0);have hZ:Ctx.Zs prog (Fin prog Post X g):=B6;cases e with
 |outgrown=>exact hx.elim
 |panicked ch=>
  obtain⟨⟨v,G4,rfl,ho⟩,hx⟩:=hx;refine if0 (fr0 _ _ _ _) hl ?_;rw[Frame.raise_at];exact wv0 (en:=false) hg hc (by rcases hx with h|h;exact .inl h;exact .inr (.inr ⟨h.1,rfl,h.2⟩)) hA hE X9 hX0 hdn cd1 (.inr ⟨v,G4,rfl,ho⟩) (by rw[hRb];exact ha.defers) H9
 |returned v=>
  refine cl0 (fr0 _ _ _ _) hl ?_;have dc0:∀(ops:Array Oper) (k:List Item) (o:Oper),ops[2]? =some o->((baseD 128).at a (.inRegion ops [2]::k)).finish v=(baseD 128).at (a.put o.dst v) (.inRegion ops []::k):=fun ops k o ho=>by rw[Frame.finish_at,ho];rfl
  rw[dc0 _ _ _ rfl];refine(?_:ZD (Fin prog Post X g) 15 (baseD 128) [E9 prog] _ _ _ w) _ (ha.put rfl v);refine ZD.M4 hZ ?_;refine ZD.region hZ ?_;refine ZD.st hZ hb (i:=0) (rest:=[]) rfl (oh0 (v:=.bool true) (p:=⟨Z7,0,none⟩) (v0:=.bool false) rfl rfl sz4 rfl (hE.q0 0 rfl) (by rw[hE.frozen];rfl)) ?_;rw[gt0 hE];refine ZD.M4 hZ ?_;intro a5 ha5;refine(fr0 prog Post X g).ctl rfl rfl (fun _=>stepG_end) ?_;exact wv0 (en:=true) (hg.side hE (by decide) hS) hc (by rcases hx with h|h;exact .inl h;exact .inr (.inl ⟨h.1,rfl,h.2⟩)) (hA.other (A2 _ _ _ _ _) (M1.ne hA hE (by decide))) (z5 hE _ _ _) X9 hX0 hdn cd1 (.inl rfl) (by rw[hRb];exact ha5.defers) H9
end
section
attribute [local irreducible] KK
def Ey0 (cs:List Frame) (me:Goroutine):Prop:=∀Z,@Ctx.Zs prog (j2 prog true) Z->∀(u:World) (v:Value),(∀fr,fr.fn=78->Leaves prog fr u (.returned (.tuple #[]))->Z (G fr cs) u)->Z (Go.Conc.served me v) u
theorem lb1 (x0:Int) (x1:Int) (x2:Int) (x3:Int):prog.built 67 [(0,.i x0),(1,.agg #[.i x1,.i x2,.i x3])]=some #[.i x0,.i x1,.i x2,.i x3]:=by kernel_rfl
set_option maxRecDepth 20000 in
theorem Os0 {Post:Value->World->Prop} {X:Gh} {g:Nat} {S:Nat->Prop} {B:Nat} {w0:World} {Bs:Nat} {R:Rn} {w:World} {i:Nat} {c:CB} {cs:List Frame} {z1:Value} {me1:Goroutine}
  (hg:Rg S B w0 w Bs R) (hBs:Bs <=w.heap.size) (hc:R.cl[i]? =some c) (hrm:R.evs.length <=1000000) (hpm:c.W1 <=1000000) (hum:R.used <=1000000)
  (X9:g≠0) (hX0:X.S1 g=some ⟨c.rc,z1,me1⟩) (hdn:X.dn=0) (R2:X.stay 0=[(⟨R.rb,7,none⟩,.chan (some R.yb))]) (hsh:X.chs R.yb/\∀i s2,i≠g->X.S1 i=some s2->s2.ch≠R.yb)
  (p7:∀w' a n me0,Rg S B w0 w' Bs {R with ea:=a,ec:=n,evs:=R.evs ++ [(i,c.sp)],used:=R.used+1,cl:=R.cl.set i {c with W1:=c.W1+1,wt:=false}}->Ey0 cs me0->Fin prog Post (X.pass 0 g (some ⟨R.yb,.i 0,me0⟩)) g (Go.Conc.served me1 (.bool true)) w') :
  Fin prog Post X 0 (G (Frame.enter prog 78 #[.p R.rb,.p c.cb] .normal) cs) w:=by
 letI:Ctx prog:=j2 prog true;rw[enter_at _ func78 rfl];refine(?_:ZA (Fin prog Post X 0) 52 (base 78) cs (Vc.bp0 #[.p R.rb,.p c.cb]) [.code (Tryz.f78.body.getD .skip)] w) _ (v8 _ _ rfl);have hZ:Ctx.Zs prog (Fin prog Post X 0):=B6;have hb:=K1 78;refine U85 ?_;refine U102 ?_;intro hR hC;refine W.fl 17 [15,16] [0,1,2,3,4,5,6,7,8,9,10,11,12,13,14,15,16] (fun w'=>M1 w' R.rb #[.slice R.ca R.cl.length R.cc,.slice R.ea R.evs.length R.ec,.slice R.na R.nts.length R.nc,.slice (pt R.eb) R.m R.m,.slice (pt R.wb) R.m R.m,.bool R.stuck,.i (R.used:Int),.chan (some R.yb)] 173 (7,8)/\M1 w' c.cb #[.i (i:Int),.p R.rb,.chan (some c.rc),.i c.sp.kind,.i c.sp.obj,.i c.sp.num,c.rf,c.df,.i (c.W1:Int),.bool c.wt,.bool c.st] 248 (0,3)) (by kernel_rfl) (by kernel_rfl) (by kernel_rfl) (by kernel_rfl) (by kernel_rfl) (⟨hR.j0 (Below.refl w.heap.size w).drew,hC.j0 (Below.refl w.heap.size w).drew⟩) ?_;have Q3:Below w.heap.size w w.drew:=(Below.refl w.heap.size w).drew;have hBs:=Nat.le_trans hBs Q3.size;have hg:=hg.j0 Q3;have hR:=hR.j0 Q3;have hC:=hC.j0 Q3;clear Q3;generalize w.drew=w at *;refine U514 ?_;refine F.va rfl rfl (fun w' L1=>(B0 rfl underlying173 rfl jz0 (by decide))) ?_;refine U372 ?_;refine U26 ?_;refine U387 ?_;refine U26 ?_;refine F.va rfl rfl (fun w' L1=>(B0 rfl underlying248 rfl yt0 (by decide))) ?_;refine F.va rfl rfl (fun w' L1=>(B2 (cs:=[.i c.sp.kind,.i c.sp.obj,.i c.sp.num]) rfl underlying65 rfl yt0 rfl (L1.2.L6 rfl))) ?_;refine F.va rfl rfl (fun w' L1=>(G2 (parts:=[(0,.tmp 13),(1,.tmp 17)]) rfl (lb1 (i:Int) c.sp.kind c.sp.obj c.sp.num))) ?_;refine F.doo rfl rfl ?_;refine L.bq0 (cs:=#[.i (i:Int),.i c.sp.kind,.i c.sp.obj,.i c.sp.num]) rfl rfl underlying41 pg1 rfl ⟨_,ph1⟩ (by decide) (fun w b19 F19=>?_);have hBs:=Nat.le_trans hBs F19.below.size;have hg:=hg.j0 F19.below;have hR:=hR.j0 F19.below;have hC:=hC.j0 F19.below;have Us0:=F19.blk;refine L.nil ⟨rfl,⟨hR,hC⟩,?_⟩;refine F.doo rfl rfl ?_;refine L.gi0 (B:=Bs) (m:=1) rfl rfl underlying41 pi1 rfl (by decide) hg.m.evs (news:=[.i (i:Int),.i c.sp.kind,.i c.sp.obj,.i c.sp.num]) rfl (fun j u hj=>by
  rw[Addr.add_lit]
  match j,hj with
  |0,hj=>cases hj;exact Us0.q0 0 rfl
  |1,hj=>cases hj;exact Us0.q0 1 rfl
  |2,hj=>cases hj;exact Us0.q0 2 rfl
  |3,hj=>cases hj;exact Us0.q0 3 rfl) (fun u hu=>by simp only[List.mem_cons,List.not_mem_nil,or_false]at hu;rcases hu with rfl|rfl|rfl|rfl <;> rfl) (by omega) (by omega) hBs (fun a20 c20 w2 hO Z2 hli=>?_)
 have hR:=S2 hR Z2 (H5 hg.m.evs (by decide));have hC:=S2 hC Z2 (H5 hg.m.evs (by decide));refine L.nil ⟨rfl,⟨hR,hC⟩,?_⟩;refine U8 ?_;refine U77 ?_;refine L.va (B0 rfl underlying45 rfl Uk0 (by decide)) ?_;refine L.qv1 (o:=0) (v:=undef) hg (i,c.sp) Z2 hO hli rfl rfl Uk0 (fun w hg=>?_)
 try clear Z2
 refine L.nil ?_
 try clear hR
 try clear hC
 refine U88 ?_;refine U4 ?_;refine U284 ?_;refine L.va (B0 rfl underlying45 rfl sz3 (by decide)) ?_;refine L.va (A0 rfl underlying3 rfl (hg.m.run.q0 6 (v:=.i (R.used:Int)) rfl)) ?_;refine L.va (vm0 rfl rfl (by omega)) ?_;refine U77 ?_;refine L.va (B0 rfl underlying45 rfl sz3 (by decide)) ?_;refine L.stR (o:=6) (vs:=[.i ((R.used+1:Nat):Int)]) hg R.stuck (R.used+1) rfl rfl rfl sz3 rfl rfl (by decide) rfl (fun w hg Z2=>?_)
 try clear Z2
 refine U2 ?_;refine U4 ?_;refine U10 ?_;refine L.va (B0 rfl underlying248 rfl sz3 (by decide)) ?_;refine L.va (A0 rfl underlying3 rfl ((hg.m.blk i c hc).q0 8 (v:=.i (c.W1:Int)) rfl)) ?_;refine L.va (vm0 rfl rfl (by omega)) ?_;refine L.va (C1 rfl) ?_;refine L.va (B0 rfl underlying248 rfl sz3 (by decide)) ?_;refine L.stC (i:=i) (o:=8) (vs:=[.i ((c.W1+1:Nat):Int)]) hg {c with W1:=c.W1+1} hc rfl rfl rfl rfl sz3 rfl rfl (by decide) rfl (fun w hg Z2=>?_)
 try clear Z2
 refine U2 ?_;refine U4 ?_;refine U62 ?_;refine L.stC (i:=i) (o:=9) (vs:=[.bool false]) hg {{c with W1:=c.W1+1} with wt:=false} (B7 hc) rfl rfl rfl rfl sz4 rfl rfl (by decide) rfl (fun w hg Z2=>?_)
 try clear Z2
 refine U11 ?_;refine ZA.upto hZ hb 4 rfl rfl (R:=fun e' w'=>ZA _ _ _ _ e' _ w') ?_ (fun _ _ h=>h);refine U482 ?_;refine L.va (A0 rfl underlying246 rfl ((hg.m.blk i _ (B7 (B7 hc))).q0 2 (v:=.chan (some c.rc)) rfl)) ?_;refine U2 ?_;refine ZA.give (i:=4) (rest:=[]) (s:=⟨c.rc,z1,me1⟩) (j:=g) (st:=[(⟨R.rb,7,none⟩,.chan (some R.yb))]) (K:=fun s=>s.ch=R.yb/\s.z= .i 0/\Ey0 cs s.me) (ft:=60) hb rfl rfl rfl hX0 X9 hdn R2 ?_ ?_ ?_
 ·have hY:=yw0 (P:=prog) (main:=true) (l:=[((⟨R.rb,7,none⟩:Addr),Value.chan (some R.yb))]) (K:=fun s=>s.ch=R.yb/\s.z= .i 0/\Ey0 cs s.me);refine U303 ?_;refine U271 ?_;refine U257 ?_;refine M0.S1 (E:=3) (z:=.i 0) hb underlying170 zr3 rfl (fun me hs=>⟨rfl,rfl,?_⟩) rfl;intro Z hZ w v hK;refine hs.go ?_;letI:Ctx prog:=j2 prog true;refine ZA.M4 hZ ?_;refine ZA.done hZ ?_;exact ZA.leaves (fn:=Tryz.f78) (f:=78) rfl func78 rfl (fun fr h8 h9=>hK fr h8 h9)
 ·rintro s2 ⟨h1,_,_⟩;rw[h1];exact hsh
 ·rintro⟨ch,z,me⟩ ⟨h1,h2,h3⟩;cases h1;cases h2;exact p7 _ _ _ me (by simpa using hg) h3
end
section
attribute [local irreducible] KK
noncomputable def endLoop:Code:=match Tryz.f80.body with|some (.seq (.seq _ (.block _ (.loop c))) _)=>c|_=>.skip
noncomputable def Hm0:Code:=match Tryz.f80.body with|some (.seq _ c)=>c|_=>.skip
structure Ut0 (rb0 m:Nat) (ca:Option Addr) (cc:Nat) (Bs:Nat) (Post:Value->World->Prop) (cs:List Frame) (J:Nat->Gh->Rn->World->Prop):Prop where
 mem:∀i X R w,J i X R w->j5 w Bs R/\R.rb=rb0/\R.cl.length=m/\R.ca=ca/\R.cc=cc
 skip:∀i X R w c,J i X R w->R.cl[i]? =some c->c.wt=false->J (i+1) X R w
 stop:∀i X R w c,J i X R w->R.cl[i]? =some c->c.wt=true->∃g z1 me1,g≠0/\X.S1 g=some ⟨c.rc,z1,me1⟩/\X.dn=0/\X.stay 0=[(⟨R.rb,7,none⟩,.chan (some R.yb))]/\(X.chs R.yb/\∀i s2,i≠g->X.S1 i=some s2->s2.ch≠R.yb) /\
  ∀w' me0,Rg R.fp w.heap.size w w' Bs {R with wts:=R.wts.set i c.sp}->(∀X' R' u v,J (i+1) X' R' u->Fin prog Post X' 0 (Go.Conc.served me0 v) u)->Fin prog Post (X.pass 0 g (some ⟨R.yb,.i 0,me0⟩)) g (Go.Conc.served me1 (.bool false)) w'
 fin:∀X R w,J m X R w->(∀i,X.S1 i=none)/\X.J4=some ⟨rb0,8⟩/\X.pend=0/\X.dn=0/\X.cap<2147483648/\∀fr,fr.fn=80->Leaves prog fr w (.returned (.tuple #[]))->Fin prog Post {X with pend:=0,cap:=0,dn:=0} 0 (G fr cs) w
set_option maxRecDepth 20000 in
theorem Ot0 {rb0 m:Nat} {ca:Option Addr} {cc:Nat} {Bs:Nat} {Post:Value->World->Prop} {cs:List Frame} {J:Nat->Gh->Rn->World->Prop} (hE:Ut0 rb0 m ca cc Bs Post cs J) {X:Gh} {R:Rn} {w:World} (hJ:J m X R w) {e:Env} (s0:e 0= .p rb0):ZA (Fin prog Post X 0) 43 (base 80) cs e [.code Hm0] w:=by
 obtain⟨hM,hrb,hm,hca,hcc⟩:=hE.mem _ _ _ _ hJ;obtain⟨hno,Z2,hp,hdn,ny0,hK⟩:=hE.fin _ _ _ hJ;letI:Ctx prog:=j2 prog true;refine U206 ?_;intro hZ hb;rw[<- hrb]at s0;rw[P0 s0];clear s0;refine ZA.upto hZ hb 3 rfl rfl (R:=fun e' w'=>ZA _ _ _ _ e' _ w') ?_ (fun _ _ h=>h);refine U305 ?_;refine U481 ?_;refine ZA.call (i:=3) (rest:=[]) hZ hb (f:=64) (args:=#[.pointer (some ⟨R.rb,8,none⟩)]) rfl rfl (E2 rfl func64 rfl qi1 rfl) (fun a ha=>?_);rw[hrb];refine Fin.wait (G:=⟨rb0,8⟩) (K:=fun g'=>g'=_) Z2 hno hp hdn (bw1 ⟨rb0,8⟩ (fun g'=>g'=_) rfl X.cap ny0) (fun g' hg'=>?_);subst hg';refine ZA.home (i:=3) rfl rfl ha ?_;have hZ':Ctx.Zs prog (Fin prog Post {X with pend:=0,cap:=0,dn:=0} 0):=B6;refine ZA.M4 hZ' ?_;refine ZA.done hZ' ?_;exact ZA.leaves (fn:=Tryz.f80) (f:=80) rfl func80 rfl hK
set_option maxRecDepth 20000 in
theorem Ou0 {rb0 m:Nat} {ca:Option Addr} {cc:Nat} {Bs:Nat} {Post:Value->World->Prop} {cs:List Frame} {J:Nat->Gh->Rn->World->Prop} (hE:Ut0 rb0 m ca cc Bs Post cs J) (hm1:m <=1000):∀(k i:Nat),i+k=m->∀X R w,J i X R w->∀e:Env,e 0= .p rb0->e 7= .slice ca m cc->e 8= .i (m:Int)->e 9= .i (i:Int)->ZA (Fin prog Post X 0) 43 (base 80) cs e [.code endLoop,.inLoop endLoop,.inBlock 0,.code Hm0] w:=by
 intro k
 induction k with
 |zero=>
  intro i hk X R w hJ e s0 s7 s8 s9;obtain⟨hM,hrb,hm,hca,hcc⟩:=hE.mem _ _ _ _ hJ;letI:Ctx prog:=j2 prog true;refine U206 ?_;intro hZ hb;rw[<- hrb]at s0;rw[<- hca,<- hm,<- hcc]at s7;rw[<- hm]at s8;refine U189 ?_;refine ZA.seq hZ ?_;obtain rfl:i=R.cl.length:=by omega
  refine U145 ?_;refine U397 ?_;refine U281 ?_;exact Ot0 hE (by rw[<- hm];exact hJ) (by rw[<- hrb];rfl)
 |succ k ih=>
  intro i hk X R w hJ e s0 s7 s8 s9;obtain⟨hM,hrb,hm,hca,hcc⟩:=hE.mem _ _ _ _ hJ;letI:Ctx prog:=j2 prog true;refine U206 ?_;intro hZ hb;rw[<- hrb]at s0;rw[<- hca,<- hm,<- hcc]at s7;rw[<- hm]at s8;refine U189 ?_;have I1:i<R.cl.length:=by omega
  obtain⟨c,hc⟩:∃c,R.cl[i]? =some c:=⟨_,List.getElem?_eq_getElem I1⟩
  refine U136 ?_;refine U283 ?_;refine U309 ?_;refine U315 ?_;refine U409 ?_;refine L.va (ii0 rfl) ?_;refine U122 ?_;refine U4 ?_;refine U446 ?_;refine U2 ?_;by_cases hwt:c.wt=false
  ·refine ZA.Q6 hZ (rb hwt) ?_;refine ZA.skip hZ ?_;refine ZA.inBlock hZ ?_;refine U133 ?_;exact ih (i+1) (by omega) X R w (hE.skip i X R w c hJ hc hwt) _ (by rw[<- hrb];rfl) (by rw[<- hca,<- hm,<- hcc];rfl) (by rw[<- hm];rfl) rfl
  ·have hwt:c.wt=true:=by simpa using hwt
   refine ZA.X7 hZ (rb hwt) ?_;obtain⟨g,z1,me1,X9,hX0,hdn,R2,hsh,p7⟩:=hE.stop i X R w c hJ hc hwt;have hg:=hM.rg;refine U85 ?_;refine U102 ?_;intro hR hC;refine W.nh0 11 (fun w'=>Below w.heap.size w w') (by kernel_rfl) (by kernel_rfl) (by kernel_rfl) (by kernel_rfl) ((Below.refl w.heap.size w).drew) ?_;refine U60 ?_;refine D.va (fun w' L1=>(B0 rfl underlying173 rfl jz0 (by decide))) ?_;refine D.va (fun w' L1=>(B0 rfl underlying45 rfl bq1 (by decide))) ?_;refine D.va (fun w' L1=>(A0 rfl underlying43 rfl ((hR.j0 L1).q0 4 (v:=.slice (pt R.wb) R.m R.m) rfl))) ?_;refine D.va (fun w' L1=>(o4 rfl)) ?_;refine U60 ?_;refine D.va (fun w' L1=>(B0 rfl underlying248 rfl yt0 (by decide))) ?_;refine D.va (fun w' L1=>(B2 (cs:=[.i c.sp.kind,.i c.sp.obj,.i c.sp.num]) rfl underlying65 rfl yt0 rfl ((hC.j0 L1).L6 rfl))) ?_;refine D.va (fun w' L1=>ay0 (i:=i) rfl rfl underlying43 yt0 (Nat.lt_of_lt_of_le I1 hM.lcl)) ?_;refine U144 ?_;intro w I2 hg;have hR:=hR.j0 I2;have hC:=hC.j0 I2;clear I2;refine L.stW (i:=i) (z:=c.sp) hg (Nat.lt_of_lt_of_le I1 hM.lcl) rfl rfl yt0 (fun w hg Z2=>?_);clear Z2;refine L.nil ?_
   try clear hR
   try clear hC
   refine U88 ?_;refine ZA.seq hZ ?_;refine ZA.upto hZ hb 4 rfl rfl (R:=fun e' w'=>ZA _ _ _ _ e' _ w') ?_ (fun _ _ h=>h);refine U482 ?_;refine L.va (A0 rfl underlying246 rfl ((hg.m.blk i c hc).q0 2 (v:=.chan (some c.rc)) rfl)) ?_;refine U2 ?_;refine ZA.give (i:=4) (rest:=[]) (s:=⟨c.rc,z1,me1⟩) (j:=g) (st:=[(⟨R.rb,7,none⟩,.chan (some R.yb))]) (K:=fun s=>s.ch=R.yb/\s.z= .i 0/\∀X' R' u v,J (i+1) X' R' u->Fin prog Post X' 0 (Go.Conc.served s.me v) u) (ft:=60) hb rfl rfl rfl hX0 X9 hdn R2 ?_ ?_ ?_
   ·have hY:=yw0 (P:=prog) (main:=true) (l:=[((⟨R.rb,7,none⟩:Addr),Value.chan (some R.yb))]) (K:=fun s=>s.ch=R.yb/\s.z= .i 0/\∀X' R' u v,J (i+1) X' R' u->Fin prog Post X' 0 (Go.Conc.served s.me v) u);refine U303 ?_;refine U271 ?_;refine U257 ?_;refine M0.S1 (E:=3) (z:=.i 0) hb underlying170 zr3 rfl (fun me hs=>⟨rfl,rfl,?_⟩) rfl;intro X R' w v hJ';refine hs.go ?_;have hZ:Ctx.Zs prog (Fin prog Post X 0):=B6;refine U301 ?_;refine U133 ?_;exact ih (i+1) (by omega) X R' w hJ' _ (by rw[<- hrb];rfl) (by rw[<- hca,<- hm,<- hcc];rfl) (by rw[<- hm];rfl) rfl
   ·rintro s2 ⟨h1,_,_⟩;rw[h1];exact hsh
   ·rintro⟨ch,z,me⟩ ⟨h1,h2,h3⟩;cases h1;cases h2;exact p7 _ me hg h3
set_option maxRecDepth 20000 in
theorem Hn0 {rb0 m:Nat} {ca:Option Addr} {cc:Nat} {Bs:Nat} {Post:Value->World->Prop} {cs:List Frame} {J:Nat->Gh->Rn->World->Prop} (hE:Ut0 rb0 m ca cc Bs Post cs J) (hm1:m <=1000) {X:Gh} {R:Rn} {w:World} (hJ:J 0 X R w):Fin prog Post X 0 (G (Frame.enter prog 80 #[.p rb0] .normal) cs) w:=by
 obtain⟨hM,hrb,hm,hca,hcc⟩:=hE.mem _ _ _ _ hJ;letI:Ctx prog:=j2 prog true;refine U206 ?_;intro hZ hb;rw[enter_at _ func80 rfl];rw[<- hrb];refine(?_:ZA (Fin prog Post X 0) 43 (base 80) cs (Vc.bp0 #[.p R.rb]) [.code (Tryz.f80.body.getD .skip)] w) _ (v8 _ _ rfl);refine ZA.seq hZ ?_;refine U4 ?_;refine U176 ?_;refine U410 ?_;refine U317 ?_;refine U311 ?_;exact Ou0 hE hm1 m 0 (by omega) X R w hJ _ (by rw[<- hrb];rfl) (by rw[<- hca,<- hm,<- hcc];rfl) (by rw[<- hm];rfl) rfl
end
end Go.Vy.Sc
end
section
namespace Go.Vy
open Go Go.Conc Go.Yc Go.RowKit
open Go.Vc Go.Wg
def ChanAt (w:World) (b:Nat):Prop:=w.heap[b]? =some (.chan 0 #[] false 0 0 false)
section
variable {w w':World}{b:Nat}
theorem ChanAt.lt (h:ChanAt w b):b<w.heap.size:=(Array.getElem?_eq_some_iff.1 h).1
theorem ChanAt.j0 (h:ChanAt w b) (hb:Below w.heap.size w w'):ChanAt w' b:=(hb.block b h.lt).trans h
theorem ChanAt.grown {row:Option Nat} (h:ChanAt w b) (hg:w.grownBy w' row) (hr:∀r,row=some r->∃cs T f,M1 w r cs T f):ChanAt w' b :=
 (hg.block b h.lt fun e=>by
  obtain⟨cs,T,f,h'⟩:=hr b e.symm;unfold ChanAt at h;unfold M1 at h';rw[h]at h';cases h').trans h
end
theorem L.makeChan {P:Program} [Ctx P] {n:Nat} {Q:Exit->Env->World->Prop} {e:Env} {w:World} {ops:Array Oper} {rest:List Oper} {d:Nat} {ty:TypeId} {ps:String} {af:Array Edge} {T E:TypeId} {x:Operand} {dd:ChanDir} (hx:ev e x= .int .i64 0) (hT:P.underlying T=some (.chan dd E)) (hi:∃z,(P.info? E).map (·.size)=some z)
  (k:∀w1,Below w.heap.size w w1->ChanAt w1 w.heap.size->w1.heap.size=w.heap.size+1->L P n ops Q rest (upd e d (.chan (some w.heap.size))) w1):L P n ops Q (⟨some d,.makeChan T x,ty,ps,af,none⟩::rest) e w:=by
 obtain⟨z,hz⟩:=hi;obtain⟨i,hi,_⟩:=Option.map_eq_some_iff.1 hz;refine L.va (v:=.chan (some w.heap.size)) (w':=w.alloc (.chan 0 #[] false 0 0 false)) (.O0 (V1 rfl _) rfl rfl fun τ d'=>?_) (k _ ((Below.refl _ _).alloc (Nat.le_refl _) _) (by unfold ChanAt;show(w.heap.push _)[_]? =_;simp) (by show(w.heap.push _).size=_;simp));have:=run_makeChan (P:=P) (w:=T2 w τ d') hT hi .i64 0 (by decide) (by simp);show _=Result.ok (Next.value (.chan (some (T2 w τ d').heap.size))) ((T2 w τ d').alloc (.chan 0 #[] false 0 0 false));simp only[execOp,hx];have h2:((0:Nat):Int)=0:=rfl;rw[h2]at this;simp[this]
section
variable {P:Program}{Post:Value->World->Prop}{X:Gh}{h n:Nat}{b:Frame}{cs:List Frame}{e:Env}{k:List Item}{w:World}
theorem ZA.freeze {bb:Nat} {cells:Array Value} {T:TypeId} {f:Nat×Nat} (hl:lw0 X bb) (hB:M1 w bb cells T (0,0)) (hz:ZA (Fin P Post (X.lower bb) h) n b cs e k (O1 w bb cells T f)):ZA (Fin P Post X h) n b cs e k w :=
 fun a ha=>Fin.freeze (f:=(0,0)) (f':=f) hl hB (fun i hi=>by unfold inR at hi;omega) (hz a ha)
def yz0 (X:Gh) (rb yb off:Nat):Gh:=⟨X.S1,Go.ConcN.upd X.stay 0 [(⟨rb,off-1,none⟩,.chan (some yb))],some ⟨rb,off⟩,X.J4.toList++X.old,X.o5,fun c=>X.chs c\/c=yb,fun k=>(X.low k\/k=yb)\/k=rb,X.w7,X.cap,X.pend,X.dn,X.n⟩
theorem ZA.begin {rb yb:Nat} {c8:Array Value} {T:TypeId} (ny0:X.cap=0) (hU:X.et0 rb) (hUy:X.et0 yb) (hpr:X.w7 rb= .all) (hpy:X.w7 yb= .all) (hch:ChanAt w yb) (hB:K0 w rb (c8 ++ #[.int .u64 0,.int .u32 0]) T) (h0:0<c8.size) (hy:c8[c8.size-1]? =some (.chan (some yb)))
  (hz:ZA (Fin P Post (yz0 X rb yb c8.size) 0) n b cs e k (O1 (V2 w yb nothing) rb c8 T (c8.size-1,c8.size))):ZA (Fin P Post X 0) n b cs e k w:=by
 have X3:yb≠rb:=by
  intro e;subst e;unfold ChanAt at hch;unfold K0 at hB;rw[hch]at hB;cases hB
 intro a ha;refine Fin.chan (b:=yb) (k:=0) (hUy.jo0 (Nat.le_refl _)) (fun hl=>absurd (hUy.low _ hl) (Nat.lt_irrefl _)) hpy hch ?_;have E6:(V2 w yb nothing).heap[rb]? =some (.cells (c8 ++ #[.int .u64 0,.int .u32 0]) T (0,0)):=by rw[z7 _ _ X3];exact hB
 refine Fin.aj1 (f':=(c8.size-1,c8.size)) (b:=rb) ny0 ?_ ?_ hpr E6 (Nat.zero_le _) ?_
 ·have hl:=hU.jo0 (Nat.le_refl rb);exact⟨hl.stay,hl.o5,fun h=>h.elim hl.chs fun h=>X3 h.symm,hl.J4⟩
 ·intro h;rcases h with h|h
  ·exact absurd (hU.low _ h) (Nat.lt_irrefl _)
  ·exact X3 h.symm
 have Z1:(V2 (V2 w yb nothing) rb (.cells c8 T (c8.size-1,c8.size))).heap[rb]? =some (.cells c8 T (c8.size-1,c8.size)):=y8 _ E6;refine Fin.stay (l:=[(⟨rb,c8.size-1,none⟩,.chan (some yb))]) (fun p hp=>?_) (hz a ha);obtain rfl:p=(⟨rb,c8.size-1,none⟩,.chan (some yb)):=by simpa using hp
 exact⟨M1.cell (f:=(c8.size-1,c8.size)) Z1 hy,by rw[M1.frozen (f:=(c8.size-1,c8.size)) Z1];simp;omega⟩
end
end Go.Vy
end
section
namespace Go.Vy.Sc
open Go Go.Conc Go.Yc Go.RowKit Go.Proofs Go.Proofs.YtinppmaojmdmhaaGreat Tryz
open Go.Vc Go.Wg
section
attribute [local irreducible] KK
noncomputable def Ho0:Code:=match Tryz.f76.body with|some (.seq _ (.block _ (.loop c)))=>c|_=>.skip
def sp0:Stp:=⟨0,0,0⟩
abbrev R4 (cb rc:Nat):CB:=⟨cb,rc,sp0,.nilFunc,.nilFunc,0,false,false⟩
structure ce1 (rb0 m:Nat) (ba:Option Addr) (fv:Nat->Value) (Bs:Nat) (Post:Value->World->Prop) (cs:List Frame) (J:Nat->Gh->Rn->World->Prop):Prop where
 sl:SL ba m
 fn:∀i,i<m->fv i= .nilFunc\/∃f fn caps,fv i= .func (.func f) #[] caps/\prog.funcs[f]? =some fn/\fn.body.isSome=true/\(fn.name== "runtime.NumGoroutine")=false
 mem:∀i X R w,J i X R w->j5 w Bs R/\R.rb=rb0/\R.cl.length=i/\R.m=m/\Bs <=w.heap.size/\X.et0 w.heap.size/\∀j,j<m->w.cell? ⟨ab ba,ao ba+j*1,none⟩=some (fv j)
 nil:∀i X R w w' a n cb rc,i<m->J i X R w->fv i= .nilFunc->w.heap.size <=cb->w.heap.size <=rc->Rg R.fp w.heap.size w w' Bs {R with ca:=a,cc:=n,cl:=R.cl ++ [R4 cb rc],ends:=R.ends.set i 1}->J (i+1) (X.lower cb) {R with ca:=a,cc:=n,cl:=R.cl ++ [R4 cb rc],ends:=R.ends.set i 1} w'
 go:∀i X R w w' a n cb rc,i<m->J i X R w->fv i≠.nilFunc->w.heap.size <=cb->w.heap.size <=rc->cb≠rc->ChanAt w' rc->Rg R.fp w.heap.size w w' Bs {R with ca:=a,cc:=n,cl:=R.cl ++ [R4 cb rc]} ->
  X.J4=some ⟨rb0,8⟩/\X.pend=0/\X.cap<65536/\X.dn=0/\X.stay 0=[(⟨R.rb,7,none⟩,.chan (some R.yb))]/\(X.chs R.yb/\∀i s2,X.S1 i=some s2->s2.ch≠R.yb) /\
  ∀me0,(∀X' R' u v,J (i+1) X' R' u->Fin prog Post X' 0 (Go.Conc.served me0 v) u)->Fin prog Post (Gh.hire {X.lower cb with pend:=1,cap:=X.cap+1,dn:=0} ⟨R.yb,.i 0,me0⟩) X.n (born prog (dcall 128 #[.p cb,fv i])) w'
 fin:∀X R w,J m X R w->∀fr,fr.fn=76->Leaves prog fr w (.returned (.tuple #[]))->Fin prog Post X 0 (G fr cs) w
theorem lc1 (x0:Int) (x1:Option Addr) (x2:Option Nat):prog.built 248 [(0,.i x0),(1,.pointer x1),(2,.chan x2)]=some #[.i x0,.pointer x1,.chan x2,.i 0,.i 0,.i 0,.nilFunc,.nilFunc,.i 0,.bool false,.bool false]:=by kernel_rfl
set_option maxRecDepth 20000 in
theorem Ov0 {rb0 m:Nat} {ba:Option Addr} {fv:Nat->Value} {Bs:Nat} {Post:Value->World->Prop} {cs:List Frame} {J:Nat->Gh->Rn->World->Prop} (hE:ce1 rb0 m ba fv Bs Post cs J) (hm1:m <=1000) {bc:Nat}:∀(k i:Nat),i+k=m->∀X R w1,J i X R w1->∀e:Env,e 0= .p rb0->e 7= .slice ba m bc->e 8= .i (m:Int)->e 9= .i (i:Int)->ZA (Fin prog Post X 0) 50 (base 76) cs e [.code Ho0,.inLoop Ho0,.inBlock 0] w1:=by
 intro k
 induction k with
 |zero=>
  intro i hk X R w1 hJ e s0 s7 s8 s9;obtain⟨hM,hrb,hlen,hRm,hBs,hU,gu0⟩:=hE.mem _ _ _ _ hJ;letI:Ctx prog:=j2 prog true;refine U324 ?_;intro hZ hb;rw[<- hrb]at s0;refine U189 ?_;have hg:=hM.rg;refine U136 ?_;refine U281 ?_;refine ZA.done hZ ?_;obtain rfl:i=m:=by omega
  exact ZA.leaves (fn:=Tryz.f76) (f:=76) rfl func76 rfl (hE.fin X R w1 hJ)
 |succ k ih=>
  intro i hk X R w1 hJ e s0 s7 s8 s9;obtain⟨hM,hrb,hlen,hRm,hBs,hU,gu0⟩:=hE.mem _ _ _ _ hJ;letI:Ctx prog:=j2 prog true;refine U324 ?_;intro hZ hb;rw[<- hrb]at s0;refine U189 ?_;have hg:=hM.rg;have I1:i<m:=by omega
  refine U136 ?_;refine U283 ?_;refine U309 ?_;refine U315 ?_;refine L.va (n8 (i:=i) rfl rfl underlying101 im1 hE.sl I1) ?_;refine L.va (A0 (v:=fv i) rfl underlying72 rfl (gu0 i I1)) ?_;refine L.va (ii0 rfl) ?_;refine L.va m8 ?_;refine U2 ?_;refine U315 ?_;refine L.va (B3 rfl) ?_;refine L.makeChan rfl underlying246 ⟨_,sz4⟩ (fun w2 I2 hch ld1=>?_);obtain⟨rc,hrc⟩:∃rc,rc=w1.heap.size:=⟨_,rfl⟩
  have lrc:w1.heap.size <=rc:=Nat.le_of_eq hrc.symm;rw[<- hrc]at hch⊢;have hg:=hg.j0 I2;refine L.va (G2 (parts:=[(0,.tmp 14),(1,.tmp 15),(2,.tmp 16)]) rfl (lc1 (i:Int) ((pt R.rb)) (some rc))) ?_;refine L.box (cs:=(R4 0 rc).cells R.rb i) rfl rfl (fun w3 cb F=>?_);have lcb:w1.heap.size <=cb:=by have:=F.here;have:=I2.size;omega
  have X3:cb≠rc:=by have:=F.here;omega
  have hg:=hg.j0 F.below;have hch:=hch.j0 F.below;have hX:=L3 F.blk;have hBs:=Nat.le_trans hBs (Nat.le_trans I2.size F.below.size);clear F I2;refine U122 ?_;have hfb:∀k,R.fp k->k≠cb:=fun k hk e=>by have:=hM.lt hk;omega
  refine ZA.freeze (f:=(0,3)) (hU.jo0 lcb) hX ?_;have hg:=hg.fresh ((R4 0 rc).cells R.rb i) 248 (0,3) hfb lcb;have hch:ChanAt (O1 w3 cb ((R4 0 rc).cells R.rb i) 248 (0,3)) rc:=hch.grown (A2 _ _ _ _ _) (fun r e=>by cases e;exact⟨_,_,_,hX⟩);have hX:M1 (O1 w3 cb ((R4 0 rc).cells R.rb i) 248 (0,3)) cb ((R4 cb rc).cells R.rb R.cl.length) 248 (0,3):=by rw[hlen];exact z5 hX _ _ _
  rw[<- M6 (w:=w3) (b:=cb) (cs:=(R4 0 rc).cells R.rb i) (T:=248) (f:=(0,3))]at hBs;generalize O1 w3 cb ((R4 0 rc).cells R.rb i) 248 (0,3)=w at *;have hZ:Ctx.Zs prog (Fin prog Post (X.lower cb) 0):=B6;refine U12 ?_;refine U176 ?_;refine L.va (A0 rfl underlying171 rfl (hg.m.run.q0 0 (v:=.slice R.ca R.cl.length R.cc) rfl)) ?_;refine L.va (B3 rfl) ?_;refine L.bq0 (cs:=#[.p cb]) rfl rfl underlying171 Bg0 rfl ⟨_,Yi0⟩ (by decide) (fun w b25 F25=>?_);have hBs:=Nat.le_trans hBs F25.below.size;have hg:=hg.j0 F25.below;have hch:=hch.j0 F25.below;have hX:=hX.j0 F25.below;have mg0:=F25.blk;have hX0:=hX;have hR:=hg.m.run;refine L.gi0 (B:=Bs) (m:=1) rfl rfl underlying171 Nm0 rfl (by decide) hg.m.cls (news:=[.p cb]) rfl (fun j u hj=>by
   rw[Addr.add_lit]
   match j,hj with
   |0,hj=>cases hj;exact mg0.q0 0 rfl) (fun u hu=>by simp only[List.mem_cons,List.not_mem_nil,or_false]at hu;subst hu;rfl) (by omega) (by omega) hBs (fun a26 c26 w2 hO Z2 hli=>?_)
  have hch:=hch.grown Z2 (Up0 hg.m.cls);have hX:=True.intro;have hR:=S2 hR Z2 (H5 hg.m.cls (by decide));refine L.va (C1 rfl) ?_;refine L.va (B0 rfl underlying173 rfl Np0 (by decide)) ?_;refine L.qx1 hg (R4 cb rc) hX0 (.inr lcb) (by rw[hlen,hRm];exact I1) Z2 hO hli rfl rfl Np0 (fun w hg le1=>?_);have hch:=hch.grown le1 (fun r e=>by cases e;exact⟨_,_,_,hR⟩);clear le1 Z2 hO hli;refine U11 ?_;refine ZA.seq hZ ?_;by_cases Iy0:fv i= .nilFunc
  ·refine ZA.W hZ hb ?_;refine U125 ?_;refine L.va (cg0 (v:=fv i) (b:=true) rfl (.inl ⟨Iy0,rfl⟩) rfl underlying72 ⟨_,_,_,rfl⟩) ?_;refine U49 ?_;refine U4 ?_;refine U284 ?_;refine L.va (B0 rfl underlying45 rfl nz0 (by decide)) ?_;refine L.va (A0 rfl underlying37 rfl (hg.m.run.q0 3 (v:=.slice (pt R.eb) R.m R.m) rfl)) ?_;refine L.va (o4 rfl) ?_;refine L.va (ay0 (i:=i) rfl rfl underlying37 sz3 (by rw[hRm];exact I1)) ?_;refine L.stE (i:=i) hg (by show i<R.m;rw[hRm];exact I1) rfl rfl sz3 (fun w hg Z2=>?_);clear Z2;refine U2 ?_;refine ZA.exit hZ rfl ?_;refine U133 ?_;exact ih (i+1) (by omega) _ _ w (hE.nil i X R w1 w _ _ cb rc I1 hJ Iy0 lcb lrc hg) _ (by rw[<- hrb];rfl) rfl rfl rfl
  ·refine ZA.W hZ hb ?_;refine U125 ?_;obtain⟨f,fn,caps,hfv,hff,hbd,hnm⟩:=(hE.fn i I1).resolve_left Iy0;refine L.va (cg0 (v:=fv i) (b:=false) rfl (.inr ⟨_,_,_,hfv,rfl⟩) rfl underlying72 ⟨_,_,_,rfl⟩) ?_;refine U71 ?_;obtain⟨Tj0,Gq0,ny0,hdn,R2,hsh,hgo⟩:=hE.go i X R w1 w _ _ cb rc I1 hJ Iy0 lcb lrc X3 hch hg;refine ZA.upto hZ hb 3 rfl rfl (R:=fun e' w'=>ZA _ _ _ _ e' _ w') ?_ (fun _ _ h=>h);refine U305 ?_;refine U481 ?_;refine ZA.call (i:=3) (rest:=[]) hZ hb (f:=60) (args:=#[.pointer (some ⟨R.rb,8,none⟩),.i 1]) rfl rfl (L2 rfl rfl func60 rfl jh1 rfl) (fun a ha=>?_);have hXe:X.lower cb={X.lower cb with dn:=0}:=by show X.lower cb={X.lower cb with dn:=0};cases X;simp only[Gh.lower]at hdn⊢;subst hdn;rfl
   rw[hXe,hrb];refine Fin.To0 (G:=⟨rb0,8⟩) (X:=X.lower cb) (K:=fun g'=>g'=_) Tj0 Gq0 ny0 (fun g' hg'=>?_) _ _ _ (kt1 ⟨rb0,8⟩ (fun g'=>g'=_) rfl);subst hg';refine ZA.home (i:=3) rfl rfl ha ?_;have hZ:Ctx.Zs prog (Fin prog Post {X.lower cb with pend:=1,cap:=(X.lower cb).cap+1,dn:=0} 0):=B6;refine U46 ?_;refine ZA.upto hZ hb 2 rfl rfl (R:=fun e' w'=>ZA _ _ _ _ e' _ w') ?_ (fun _ _ h=>h);refine U124 ?_;refine L.va C5 ?_;refine U2 ?_;refine ZA.spawn (i:=2) (rest:=[]) (gr:=⟨rb0,8⟩) (vs:=#[.p cb,fv i]) (st:=[(⟨R.rb,7,none⟩,.chan (some R.yb))]) (K:=fun s=>s.ch=R.yb/\s.z= .i 0/\∀X' R' u v,J (i+1) X' R' u->Fin prog Post X' 0 (Go.Conc.served s.me v) u) (ft:=60) hb rfl (Wg.bi0 (vl:=[.p cb,fv i]) rfl) rfl rfl Tj0 R2 ?_ ?_ ?_
   ·have hY:=yw0 (P:=prog) (main:=true) (l:=[((⟨R.rb,7,none⟩:Addr),Value.chan (some R.yb))]) (K:=fun s=>s.ch=R.yb/\s.z= .i 0/\∀X' R' u v,J (i+1) X' R' u->Fin prog Post X' 0 (Go.Conc.served s.me v) u);refine U303 ?_;refine U271 ?_;refine U257 ?_;refine M0.S1 (E:=3) (z:=.i 0) hb underlying170 zr3 rfl (fun me hs=>⟨rfl,rfl,?_⟩) rfl;intro X' R' w v hJ';refine hs.go ?_;have hZ:Ctx.Zs prog (Fin prog Post X' 0):=B6;refine U301 ?_;refine U133 ?_;exact ih (i+1) (by omega) X' R' w hJ' _ (by rw[<- hrb];rfl) rfl rfl rfl
   ·rintro s2 ⟨h1,_,_⟩;rw[h1];exact hsh
   ·rintro⟨ch,z,me⟩ ⟨h1,h2,h3⟩;cases h1;cases h2;exact hgo me h3
set_option maxRecDepth 20000 in
theorem Uu0 {rb0 m:Nat} {ba:Option Addr} {fv:Nat->Value} {Bs:Nat} {Post:Value->World->Prop} {cs:List Frame} {J:Nat->Gh->Rn->World->Prop} (hE:ce1 rb0 m ba fv Bs Post cs J) (hm1:m <=1000) {bc:Nat} {X:Gh} {R:Rn} {w:World} (hJ:J 0 X R w):Fin prog Post X 0 (G (Frame.enter prog 76 #[.p rb0,.slice ba m bc] .normal) cs) w:=by
 obtain⟨hM,hrb,hlen,hRm,hBs,hU,gu0⟩:=hE.mem _ _ _ _ hJ;letI:Ctx prog:=j2 prog true;refine U324 ?_;intro hZ hb;rw[enter_at _ func76 rfl];rw[<- hrb];have hg:=hM.rg;refine(?_:ZA (Fin prog Post X 0) 50 (base 76) cs (Vc.bp0 #[.p R.rb,.slice ba m bc]) [.code (Tryz.f76.body.getD .skip)] w) _ (v8 _ _ rfl);refine U4 ?_;refine U180 ?_;refine U317 ?_;refine U311 ?_;exact Ov0 hE hm1 m 0 (by omega) X R w hJ _ (by rw[<- hrb];rfl) rfl rfl rfl
end
section
attribute [local irreducible] KK
noncomputable def Hp0:Code:=match Tryz.f41.body with|some (.seq _ (.seq _ (.seq _ (.seq _ (.seq _ (.seq _ (.seq _ (.seq (.seq _ (.block _ (.loop c))) _))))))))=>c|_=>.skip
noncomputable def za0:Code:=match Tryz.f41.body with|some (.seq _ (.seq _ (.seq _ (.seq _ (.seq _ (.seq _ (.seq _ (.seq _ c))))))))=>c|_=>.skip
def rn0 (rb yb eb wb m:Nat):Rn:=⟨rb,yb,eb,wb,m,none,0,[],none,0,[],none,0,[],List.replicate m 0,List.replicate m sp0,false,0⟩
def Y9 (e:Int) (n:Nat):Nat:=(e%(n:Int)).toNat
theorem Jo0 (e:Int) {n:Nat} (hn:0<n):Y9 e n<n:=by
 refine U515 ?_;intro h1 h2;unfold Y9;omega
theorem lf1 (e:Int) {n:Nat} (hn:0<n):(e.tmod (n:Int)+(n:Int)).tmod (n:Int)=((Y9 e n:Nat):Int):=by
 refine U515 ?_;intro h1 h2;have h3:-(n:Int)<e.tmod (n:Int):=by
  have:=Int.lt_tmod_of_pos e (b:=(n:Int)) (by omega);omega
 have h4:((Y9 e n:Nat):Int)=e%(n:Int):=by unfold Y9;omega
 rw[h4,Int.tmod_eq_emod_of_nonneg (by omega),Int.add_emod_right];rw[Int.tmod_eq_emod];split
 ·simp
 ·rw[Int.sub_emod,Int.emod_emod];have:(((n:Int).natAbs:Int))%(n:Int)=0:=by simp
  rw[this,Int.sub_zero,Int.emod_emod]
theorem Hq0 (e:Int) {n:Nat} (hn:0<n) (h:n <=1000):-1000 <=e.tmod (n:Int)/\e.tmod (n:Int) <=1000:=by
 have h1:=Int.lt_tmod_of_pos e (b:=(n:Int)) (by omega);have h2:=Int.tmod_lt_of_pos e (b:=(n:Int)) (by omega);omega
structure Ow0 (rb0 m sn tb:Nat) (ba sa:Option Addr) (fv:Nat->Value) (sc:Nat->Int) (Bs:Nat) (Post:Value->World->Prop) (JB J2 JE:Nat->Gh->Rn->World->Prop) (rr:Nat->Nat->Bool):Prop where
 beg:∀cs,(∀X R w,JB m X R w->∀fr,fr.fn=76->Leaves prog fr w (.returned (.tuple #[]))->Fin prog Post X 0 (G fr cs) w)->ce1 rb0 m ba fv Bs Post cs JB
 b2s:∀X R w,JB m X R w->J2 0 X R w
 ssl:SL sa sn
 mem:∀n X R w,J2 n X R w->j5 w Bs R/\R.rb=rb0/\R.cl.length=m/\Bs <=w.heap.size/\R.evs.length <=1000000/\R.used <=1000000/\(∀(i:Nat) (c:CB),R.cl[i]? =some c->c.W1 <=1000000)/\∀j,j<sn->w.cell? ⟨ab sa,ao sa+j*1,none⟩=some (.i (sc j))
 j0:∀n X R w w',J2 n X R w->Below w.heap.size w w'->J2 n X R w'
 rdy:∀n X R w,J2 n X R w->∀(i:Nat) (c:CB),R.cl[i]? =some c->c.wt=true->@yv0 (j2 prog true) w c.rf (rr n i)
 pick:∀n X R w i c,J2 n X R w->n<sn->(rdl R.cl (rr n) m)[Y9 (sc n) (rdl R.cl (rr n) m).length]? =some i->R.cl[i]? =some c->∃g z1 me1,g≠0/\X.S1 g=some ⟨c.rc,z1,me1⟩/\X.dn=0/\X.stay 0=[(⟨R.rb,7,none⟩,.chan (some R.yb))]/\(X.chs R.yb/\∀i s2,i≠g->X.S1 i=some s2->s2.ch≠R.yb) /\
  ∀w' a nn me0,Rg R.fp w.heap.size w w' Bs {R with ea:=a,ec:=nn,evs:=R.evs ++ [(i,c.sp)],used:=R.used+1,cl:=R.cl.set i {c with W1:=c.W1+1,wt:=false}}->(∀X' R' u v,J2 (n+1) X' R' u->Fin prog Post X' 0 (Go.Conc.served me0 v) u)->Fin prog Post (X.pass 0 g (some ⟨R.yb,.i 0,me0⟩)) g (Go.Conc.served me1 (.bool true)) w'
 toE:∀n X R w w' b,J2 n X R w->(n=sn\/rdl R.cl (rr n) m=[])->b=(R.cl.any (·.wt)&&(rdl R.cl (rr n) m).isEmpty)->Rg R.fp w.heap.size w w' Bs {R with stuck:=b}->JE 0 X {R with stuck:=b} w'
 en:∀ca cc cs,(∀X R w,JE m X R w->R.ca=ca->R.cc=cc->∀fr,fr.fn=80->Leaves prog fr w (.returned (.tuple #[]))->Fin prog Post {X with pend:=0,cap:=0,dn:=0} 0 (G fr cs) w)->Ut0 rb0 m ca cc Bs Post cs (fun i X R w=>JE i X R w/\R.ca=ca/\R.cc=cc)
 ra1:∀X R w,JE m X R w->j5 w Bs R/\R.rb=rb0/\M1 w tb #[.slice none 0 0,.slice none 0 0,.slice none 0 0,.slice none 0 0,.bool false,.i 0] 45 (0,0)
abbrev Ox0 (R:Rn):Value:=.agg #[.slice R.ea R.evs.length R.ec,.slice R.na R.nts.length R.nc,.slice (pt R.eb) R.m R.m,.slice (pt R.wb) R.m R.m,.bool R.stuck,.i (R.used:Int)]
structure Uv0 (m tb:Nat) (Post:Value->World->Prop) (cs:List Frame) (JE:Nat->Gh->Rn->World->Prop):Prop where
 ret:∀X R w w' fr,JE m X R w->w.grownBy w' (some tb)->fr.fn=41->Leaves prog fr w' (.returned (.tuple #[Ox0 R,.i 0]))->Fin prog Post {X with pend:=0,cap:=0,dn:=0} 0 (G fr cs) w'
theorem qc0 {Z:Goroutine->World->Prop} {n:Nat} {cs:List Frame} {e:Env} {w:World} {t u b:Nat} {T E:TypeId} {fn:Func} {f:FuncId} {cells:Array Value} {d:TypeDesc} {v:Value} (hf:prog.funcs[f]? =some fn) (hr:fn.results=#[.cell t T,.tmp u]) (he:e t= .p b) (hu0:e u=v) (hT:prog.underlying T=some d) (hu:bs0 d=false) (hB:K0 w b cells E) (hs:(prog.info? T).map (·.size)=some cells.size)
  (h:∀fr,fr.fn=f->Leaves prog fr w (.returned (.tuple #[.agg cells,v]))->Z (G fr cs) w):ZR Z n (base f) cs e w:=by
 intro todo a ha;letI:Ctx prog:=j2 prog true;have h1:ends prog fn (fun v' w'=>v'= .tuple #[.agg cells,v]/\w'=w) .ret e w:=ends.Ua0 (.inr rfl) hr he hT hu hs hB ⟨by rw[hu0],rfl⟩;obtain⟨_,v',h2,h3,h4⟩:=h1;subst h3;refine h _ rfl ⟨rfl,ha.defers,rfl,fn,hf,?_⟩;exact h2 _ ha.get
noncomputable def Uw0:Code:=match za0 with| .seq _ (.seq _ c)=>c|_=>.skip
theorem Oy0 {l:List Nat} (n:Nat) (h:l.length=n:=by rfl):decide (((n:Nat):Int)=0)=l.isEmpty:=by
 subst h;cases l <;> simp
 omega
theorem cf1 {cl:List CB} {r:Nat->Bool} {m j i:Nat} (h:(rdl cl r m)[j]? =some i):∃c,cl[i]? =some c:=by
 have:=List.mem_of_getElem? h;simp only[rdl,List.mem_filter,Bool.and_eq_true]at this;cases hc:cl[i]? with
 |none=>rw[hc]at this;simp at this
 |some c=>exact⟨c,rfl⟩
theorem Oz0 {cl:List CB} {r:Nat->Bool} {m j i:Nat} {c:CB} (h:(rdl cl r m)[j]? =some i) (hc:cl[i]? =some c):((rdl cl r m).map (Og0 cl))[j]? =some (.p c.cb):=by
 rw[List.getElem?_map,h];simp[Og0,hc]
set_option maxRecDepth 20000 in
theorem Ux0 {rb0 m sn tb:Nat} {ba sa:Option Addr} {fv:Nat->Value} {sc:Nat->Int} {Bs:Nat} {Post:Value->World->Prop} {cs:List Frame} {JB J2 JE:Nat->Gh->Rn->World->Prop} {rr:Nat->Nat->Bool} (hE:Ow0 rb0 m sn tb ba sa fv sc Bs Post JB J2 JE rr) (hT:Uv0 m tb Post cs JE) {X:Gh} {R:Rn} {w:World} (hJ:JE m X R w) {e:Env} {ops:Array Oper} (s6:e 6= .p rb0) (s4:e 4= .p tb):ZA (Fin prog Post {X with pend:=0,cap:=0,dn:=0} 0) 83 (base 41) cs e [.inRegion ops [],.code Uw0] w:=by
 obtain⟨hM,hrb,hT0⟩:=hE.ra1 _ _ _ hJ;letI:Ctx prog:=j2 prog true;have hZ:Ctx.Zs prog (Fin prog Post {X with pend:=0,cap:=0,dn:=0} 0):=B6;have hb:=K1 41;rw[<- hrb]at s6;rw[P0 s6,P0 s4];clear s6 s4;refine ZA.M4 hZ ?_;refine U4 ?_;refine U284 ?_;refine L.va (B2 (cs:=[.slice R.ea R.evs.length R.ec,.slice R.na R.nts.length R.nc,.slice (pt R.eb) R.m R.m,.slice (pt R.wb) R.m R.m,.bool R.stuck,.i (R.used:Int)]) rfl underlying45 rfl jz0 rfl (hM.run.L6 rfl)) ?_;refine L.put (b:=tb) (o:=0) (s:=6) (vs:=[.slice R.ea R.evs.length R.ec,.slice R.na R.nts.length R.nc,.slice (pt R.eb) R.m R.m,.slice (pt R.wb) R.m R.m,.bool R.stuck,.i (R.used:Int)]) #[.slice R.ea R.evs.length R.ec,.slice R.na R.nts.length R.nc,.slice (pt R.eb) R.m R.m,.slice (pt R.wb) R.m R.m,.bool R.stuck,.i (R.used:Int)] rfl rfl rfl jz0 rfl rfl hT0 (Nat.le_of_ble_eq_true rfl) rfl (fun w2 hB Z2 O2=>?_);refine U314 ?_;refine ZA.ret hZ ?_;exact qc0 (u:=5) (v:=.i 0) func41 rfl rfl rfl underlying45 rfl hB jz0 (fun fr h8 h9=>hT.ret X R w w2 fr hJ Z2 h8 h9)
set_option maxRecDepth 20000 in
theorem Bj0 {rb0 m sn tb:Nat} {ba sa:Option Addr} {fv:Nat->Value} {sc:Nat->Int} {Bs:Nat} {Post:Value->World->Prop} {cs:List Frame} {JB J2 JE:Nat->Gh->Rn->World->Prop} {rr:Nat->Nat->Bool} (hE:Ow0 rb0 m sn tb ba sa fv sc Bs Post JB J2 JE rr) (hT:Uv0 m tb Post cs JE) (hm1:m <=16) (hs1:sn <=1000000) {n:Nat} {X:Gh} {R:Rn} {w:World} (hJ:J2 n X R w) (hn:n=sn\/rdl R.cl (rr n) m=[]) {e:Env} (s6:e 6= .p rb0) (s4:e 4= .p tb):ZA (Fin prog Post X 0) 83 (base 41) cs e [.code za0] w:=by
 obtain⟨hM,hrb,hlen,hBs,hev,hus,hpk,gu0⟩:=hE.mem _ _ _ _ hJ;letI:Ctx prog:=j2 prog true;refine U207 ?_;intro hZ hb;rw[<- hrb]at s6;rw[P0 s6,P0 s4];clear s6 s4;have hg:=hM.rg;refine U12 ?_;refine L.va (B3 rfl) ?_;refine L.call (E2 rfl func79 rfl qo1 rfl) (Eu0 R Bs w hM (by omega)) ?_;rintro _ w1 ⟨rfl,hw⟩;refine U96 ?_;by_cases Uy0:R.cl.any (·.wt)=true
 ·rw[Uy0];refine U69 ?_;refine L.call (E2 rfl func77 rfl jk1 rfl) (wp0 R Bs w hM (by omega) (rr n) (hE.rdy n X R w hJ)) ?_;rintro _ w2 ⟨la,lc,rfl,hO,I2⟩;rw[hlen];have hg:=hg.j0 I2;refine L.on rfl ?_;refine L.va (K6 rfl underlying171 rfl) ?_;refine L.on rfl ?_;refine L.va (dr0 rfl rfl) ?_;refine L.va (A7 rfl) ?_;refine U489 ?_;refine L.stR (o:=5) (vs:=[.bool (decide ((((rdl R.cl (rr n) m).length:Nat):Int)=0))]) hg (decide ((((rdl R.cl (rr n) m).length:Nat):Int)=0)) R.used rfl rfl rfl sz4 rfl rfl (by decide) rfl (fun w hg Z2=>?_);clear Z2;refine U2 ?_;have hJE:=hE.toE n X R _ w _ hJ hn (by rw[Uy0,Bool.true_and];exact Oy0 _) hg;refine ZA.seq hZ ?_;refine ZA.upto hZ hb 1 rfl rfl (R:=fun e' w'=>ZA _ _ _ _ e' _ w') ?_ (fun _ _ h=>h);refine U124 ?_;refine U459 ?_;intro a ha;rw[hrb];refine Hn0 (hE.en R.ca R.cc _ (fun X' R' u hJ' hca hcc fr h8 h9=>?_)) (by omega) ⟨hJE,rfl,rfl⟩;exact U463
 ·rw[show R.cl.any (·.wt)=false by simpa using Uy0];refine U268 ?_;refine U203 ?_;refine U489 ?_;refine L.stR (o:=5) (vs:=[.bool false]) hg false R.used rfl rfl rfl sz4 rfl rfl (by decide) rfl (fun w hg Z2=>?_);clear Z2;refine U2 ?_;have hJE:=hE.toE n X R _ w _ hJ hn (by rw[show R.cl.any (·.wt)=false by simpa using Uy0];rfl) hg;refine ZA.seq hZ ?_;refine ZA.upto hZ hb 1 rfl rfl (R:=fun e' w'=>ZA _ _ _ _ e' _ w') ?_ (fun _ _ h=>h);refine U124 ?_;refine U459 ?_;intro a ha;rw[hrb];refine Hn0 (hE.en R.ca R.cc _ (fun X' R' u hJ' hca hcc fr h8 h9=>?_)) (by omega) ⟨hJE,rfl,rfl⟩;exact U463
set_option maxRecDepth 20000 in
theorem Pa0 {rb0 m sn tb:Nat} {ba sa:Option Addr} {fv:Nat->Value} {sc:Nat->Int} {Bs:Nat} {Post:Value->World->Prop} {cs:List Frame} {JB J2 JE:Nat->Gh->Rn->World->Prop} {rr:Nat->Nat->Bool} (hE:Ow0 rb0 m sn tb ba sa fv sc Bs Post JB J2 JE rr) (hT:Uv0 m tb Post cs JE) (hm1:m <=16) (hs1:sn <=1000000) {scp:Nat}:∀(k n:Nat),n+k=sn->∀X R w,J2 n X R w->∀e:Env,e 6= .p rb0->e 39= .slice sa sn scp->e 40= .i (sn:Int)->e 41= .i (n:Int)->e 4= .p tb->e 1= .slice sa sn scp->ZA (Fin prog Post X 0) 83 (base 41) cs e [.code Hp0,.inLoop Hp0,.inBlock 0,.code za0] w:=by
 intro k
 induction k with
 |zero=>
  intro n hk X R w hJ e s6 s39 s40 s41 s4 s1;obtain⟨hM,hrb,hlen,hBs,hev,hus,hpk,gu0⟩:=hE.mem _ _ _ _ hJ;letI:Ctx prog:=j2 prog true;refine U207 ?_;intro hZ hb;rw[<- hrb]at s6;refine U454 ?_;refine U136 ?_;refine U281 ?_;obtain rfl:n=sn:=by omega
  exact Bj0 hE hT hm1 hs1 hJ (.inl rfl) (by rw[<- hrb];rfl) rfl
 |succ k ih=>
  intro n hk X R w hJ e s6 s39 s40 s41 s4 s1;obtain⟨hM,hrb,hlen,hBs,hev,hus,hpk,gu0⟩:=hE.mem _ _ _ _ hJ;letI:Ctx prog:=j2 prog true;refine U207 ?_;intro hZ hb;rw[<- hrb]at s6;refine U454 ?_;have I1:n<sn:=by omega
  refine U136 ?_;refine U283 ?_;refine U309 ?_;refine U4 ?_;refine L.va (n8 (i:=n) rfl rfl underlying37 sz3 hE.ssl I1) ?_;refine L.va (A0 (v:=.i (sc n)) rfl underlying3 rfl (gu0 n I1)) ?_;refine U314 ?_;refine U12 ?_;refine L.call (E2 rfl func77 rfl jk1 rfl) (wp0 R Bs w hM (by omega) (rr n) (hE.rdy n X R w hJ)) ?_;rintro _ w2 ⟨la,lc,rfl,hO,I2⟩;rw[hlen]at hO⊢;have hJ:=hE.j0 n X R w w2 hJ I2;clear hM hBs gu0 I2;clear hev hus hpk;obtain⟨hM,_,_,hBs,hev,hus,hpk,gu0⟩:=hE.mem _ _ _ _ hJ;refine L.va (Ap0 rfl) ?_;refine U11 ?_;refine U519 ?_;refine L.va (dr0 rfl rfl) ?_;refine U2 ?_;by_cases hnl:(rdl R.cl (rr n) m).length=0
  ·refine ZA.X7 hZ (rb (decide_eq_true (by omega))) ?_;refine ZA.exit hZ rfl ?_;exact Bj0 hE hT hm1 hs1 hJ (.inr (List.eq_nil_of_length_eq_zero hnl)) (by rw[<- hrb];rfl) rfl
  ·refine ZA.Q6 hZ (rb (decide_eq_false (by omega))) ?_;refine ZA.skip hZ ?_;refine U519 ?_;refine U314 ?_;have hln:(rdl R.cl (rr n) m).length <=16:=Nat.le_trans (Et0 m) hm1;have htb:=Hq0 (sc n) (n:=(rdl R.cl (rr n) m).length) (by omega) (by omega);have hpl:=Jo0 (sc n) (n:=(rdl R.cl (rr n) m).length) (by omega);obtain⟨i,hi⟩:∃i,(rdl R.cl (rr n) m)[Y9 (sc n) (rdl R.cl (rr n) m).length]? =some i:=⟨_,List.getElem?_eq_getElem hpl⟩
   obtain⟨c,hc⟩:=cf1 hi;refine ZA.upto hZ hb 11 rfl rfl (R:=fun e' w'=>ZA _ _ _ _ e' _ w') ?_ (fun _ _ h=>h);refine U124 ?_;refine U34 ?_;refine L.va (o4 rfl) ?_;refine L.va (kq0 rfl rfl (by omega)) ?_;refine L.va (o4 rfl) ?_;refine U179 ?_;refine L.va (v:=.i ((Y9 (sc n) (rdl R.cl (rr n) m).length:Nat):Int)) (by rw[<- lf1 (sc n) (n:=(rdl R.cl (rr n) m).length) (by omega)];exact kq0 rfl rfl (by omega)) ?_;refine L.va (n8 (i:=Y9 (sc n) (rdl R.cl (rr n) m).length) rfl rfl underlying171 Bg0 hO.sl hpl) ?_;refine L.va (A0 (v:=.p c.cb) rfl underlying123 rfl (by rw[hO.off,Nat.zero_add,Nat.mul_one];exact hO.cell (Oz0 hi hc))) ?_;refine U2 ?_;obtain⟨g,z1,me1,X9,hX0,hdn,R2,hsh,p7⟩:=hE.pick n X R w2 i c hJ I1 hi hc;refine ZA.call (i:=11) (rest:=[]) hZ hb (f:=78) (args:=#[.p R.rb,.p c.cb]) rfl rfl (L2 rfl rfl func78 rfl qn1 rfl) (fun a ha=>?_);refine Os0 hM.rg hBs hc hev (hpk i c hc) hus X9 hX0 hdn R2 hsh (fun w' a' nn me0 hg hme=>p7 w' a' nn me0 hg (fun X' R' u v hJ'=>hme _ B6 u v fun fr h8 h9=>?_));refine ZA.back (fr0 prog Post X' 0) (i:=11) rfl rfl ha h9 ?_;have hZ:Ctx.Zs prog (Fin prog Post X' 0):=B6;refine U301 ?_;refine U133 ?_;exact ih (n+1) (by omega) X' R' u hJ' _ (by rw[<- hrb];rfl) rfl rfl rfl rfl rfl
end
section
attribute [local irreducible] KK
theorem Pb0 (m:Nat):(Array.replicate (m*1) (Value.i 0))=((List.replicate m (0:Int)).map (Value.int .i64)).toArray:=by
 rw[Nat.mul_one];apply Array.toList_inj.1;simp
theorem Pc0 (m:Nat):(Array.replicate (m*3) (Value.i 0))=((List.replicate m sp0).flatMap spC).toArray:=by
 apply Array.toList_inj.1;simp only[Array.toList_replicate]
 induction m with
 |zero=>rfl
 |succ m ih=>
  rw[List.replicate_succ,List.flatMap_cons,<- ih,Nat.succ_mul,Nat.add_comm (m*3) 3,<- List.replicate_append_replicate];rfl
structure Zi0 (w0 w:World) (rb yb eb wb tb m:Nat):Prop where
 mem:j5 w w0.heap.size (rn0 rb yb eb wb m)
 low:Below w0.heap.size w0 w
 le:w0.heap.size <=rb/\w0.heap.size <=yb/\w0.heap.size <=eb/\w0.heap.size <=wb/\w0.heap.size <=tb
 yb:w.heap[yb]? =some nothing
 tb:M1 w tb #[.slice none 0 0,.slice none 0 0,.slice none 0 0,.slice none 0 0,.bool false,.i 0] 45 (0,0)
theorem lg1 (x0:Option Nat):prog.built 173 [(2,.chan x0)]=some #[.slice none 0 0,.slice none 0 0,.slice none 0 0,.slice none 0 0,.slice none 0 0,.bool false,.i 0,.chan x0,.int .u64 0,.int .u32 0]:=by kernel_rfl
set_option maxRecDepth 20000 in
theorem Uz0 {ba sa:Option Addr} {m bc sn scp:Nat} {fv:Nat->Value} {sc:Nat->Int} {Post:Value->World->Prop} {cs:List Frame} {X:Gh} {w0:World} (hm1:m <=16) (hs1:sn <=262144) (hU:X.et0 w0.heap.size) (hpl:∀b,w0.heap.size <=b->X.w7 b= .all) (ny0:X.cap=0)
  (lh1:∀w4 rb yb eb wb tb,Zi0 w0 w4 rb yb eb wb tb m->∃JB J2 JE rr,Ow0 rb m sn tb ba sa fv sc w0.heap.size Post JB J2 JE rr/\Uv0 m tb Post cs JE/\JB 0 (yz0 X rb yb 8) (rn0 rb yb eb wb m) w4) :
  Fin prog Post X 0 (G (Frame.enter prog 41 #[.slice ba m bc,.slice sa sn scp] .normal) cs) w0:=by
 letI:Ctx prog:=j2 prog true;refine U207 ?_;intro hZ hb;rw[enter_at _ func41 rfl];refine(?_:ZA (Fin prog Post X 0) 83 (base 41) cs (Vc.bp0 #[.slice ba m bc,.slice sa sn scp]) [.code (Tryz.f41.body.getD .skip)] w0) _ (v8 _ _ rfl);have hb0:Below w0.heap.size w0 w0:=Below.refl _ _;refine U4 ?_;refine L.alloc (cs:=#[.slice none 0 0,.slice none 0 0,.slice none 0 0,.slice none 0 0,.bool false,.i 0]) Nj0 rfl (fun w b4 F4=>?_);have lt4:=F4.lq hb0.size;have hb0:=G0 hb0 F4.below;have C2:=F4.blk;refine U208 ?_;refine U4 ?_;refine U180 ?_;refine L.va (ne0 rfl rfl) ?_;refine U2 ?_;refine U485 ?_;refine ZA.seq hZ ?_;refine U300 ?_;refine L.va (K6 rfl underlying37 rfl) ?_;refine L.va (ne0 rfl rfl) ?_;refine U2 ?_;refine U485 ?_;refine U4 ?_;refine L.makeChan rfl underlying170 ⟨_,sz3⟩ (fun w1 I2 hch cg1=>?_);obtain⟨yb,hyb⟩:∃yb,yb=w.heap.size:=⟨_,rfl⟩
 have ch1:w0.heap.size <=yb:=by rw[hyb];exact hb0.size
 rw[<- hyb]at hch⊢;have hb0:=G0 hb0 I2;have C2:=C2.j0 I2;clear I2 cg1 hyb
 rename World=>w
 refine L.va (G2 (parts:=[(2,.tmp 19)]) rfl (lg1 (some yb))) ?_;refine L.box (cs:=#[.slice none 0 0,.slice none 0 0,.slice none 0 0,.slice none 0 0,.slice none 0 0,.bool false,.i 0,.chan (some yb),.int .u64 0,.int .u32 0]) rfl rfl (fun w b21 F21=>?_);have Pd0:=F21.lq hb0.size;have hb0:=G0 hb0 F21.below;have C2:=C2.j0 F21.below;have hch:=hch.j0 F21.below;have ej0:=F21.blk;refine U122 ?_;refine U12 ?_;refine U180 ?_;refine L.make (m:=m) rfl rfl underlying37 in3 (z0:=.i 0) rfl (by decide) (by omega) (by omega) (fun w b25 F25=>?_);have rb1:=F25.lq hb0.size;have hb0:=G0 hb0 F25.below;have C2:=C2.j0 F25.below;have hch:=hch.j0 F25.below;have ej0:=ej0.j0 F25.below;have mg0:=F25.blk;have mg0:K0 w b25 (Array.replicate (m*1) (.i 0)) 3:=mg0;refine U77 ?_;refine L.va (B0 rfl underlying45 rfl nz0 (by decide)) ?_;refine L.pu 3 [.slice (pt b25) m m] #[.slice none 0 0,.slice none 0 0,.slice none 0 0,.slice (pt b25) m m,.slice none 0 0,.bool false,.i 0,.chan (some yb),.int .u64 0,.int .u32 0] nz0 ej0 (fun w E1 hg O2=>?_);refine U478 ?_;intro C2 hch;have mg0:=mg0.other hg (K0.ne mg0 ej0 (by decide));have hb0:=p5 hb0 hb0.size hg Pd0;have P5:=True.intro;have ej0:=E1;clear P5;refine U2 ?_;refine U12 ?_;refine U180 ?_;refine L.make (m:=m) rfl rfl underlying43 pf1 (z0:=.i 0) rfl (by decide) (by omega) (by omega) (fun w b32 F32=>?_);have rc1:=F32.lq hb0.size;have hb0:=G0 hb0 F32.below;have C2:=C2.j0 F32.below;have hch:=hch.j0 F32.below;have ej0:=ej0.j0 F32.below;have mg0:=mg0.j0 F32.below;have Jp0:=F32.blk;have Jp0:K0 w b32 (Array.replicate (m*3) (.i 0)) 65:=Jp0;refine U77 ?_;refine L.va (B0 rfl underlying45 rfl bq1 (by decide)) ?_;refine L.pu 4 [.slice (pt b32) m m] #[.slice none 0 0,.slice none 0 0,.slice none 0 0,.slice (pt b25) m m,.slice (pt b32) m m,.bool false,.i 0,.chan (some yb),.int .u64 0,.int .u32 0] bq1 ej0 (fun w E1 hg O2=>?_);refine U478 ?_;intro C2 hch;have mg0:=mg0.other hg (K0.ne mg0 ej0 (by decide));have Jp0:=Jp0.other hg (K0.ne Jp0 ej0 (by decide));have hb0:=p5 hb0 hb0.size hg Pd0;have P5:=True.intro;have ej0:=E1;clear P5;refine U2 ?_;have ej0:K0 w b21 (#[.slice none 0 0,.slice none 0 0,.slice none 0 0,.slice (pt b25) m m,.slice (pt b32) m m,.bool false,.i 0,.chan (some yb)] ++ #[.int .u64 0,.int .u32 0]) 173:=ej0;have X3:yb≠b21:=fun e=>by subst e;unfold ChanAt at hch;unfold K0 at ej0;rw[hch]at ej0;cases ej0
 refine ZA.begin ny0 (hU.mono Pd0) (hU.mono ch1) (hpl _ Pd0) (hpl _ ch1) hch ej0 (Nat.zero_lt_succ _) rfl ?_;show ZA (Fin prog Post (yz0 X b21 yb 8) 0) _ _ _ _ _ (O1 (V2 w yb nothing) b21 _ _ (7,8));have hX:X.et0 w0.heap.size:=hU;have hap:∀(b:Nat) (cs:Array Value) (T:TypeId),K0 w b cs T->T≠173->M1 (O1 (V2 w yb nothing) b21 #[.slice none 0 0,.slice none 0 0,.slice none 0 0,.slice (pt b25) m m,.slice (pt b32) m m,.bool false,.i 0,.chan (some yb)] 173 (7,8)) b cs T (0,0):=fun b cs T h hT=>by
  have h1:b≠b21:=K0.ne h ej0 hT;have h2:yb≠b:=fun e=>by subst e;unfold ChanAt at hch;unfold K0 at h;rw[hch]at h;cases h
  unfold M1;rw[X8 h1,z7 _ _ h2];exact h
 have rd1:Zi0 w0 (O1 (V2 w yb nothing) b21 #[.slice none 0 0,.slice none 0 0,.slice none 0 0,.slice (pt b25) m m,.slice (pt b32) m m,.bool false,.i 0,.chan (some yb)] 173 (7,8)) b21 yb b25 b32 b4 m:=by
  have O2:b21<(V2 w yb nothing).heap.size:=by have:=ej0.lt;simpa [V2]using this
  refine⟨⟨?_,Own.nil _ _ _ _,Own.nil _ _ _ _,Own.nil _ _ _ _,?_,?_,by simp[rn0],by simp[rn0],Nat.zero_le _,fun i c hc=>by simp[rn0]at hc⟩,⟨hb0.os,hb0.tape,hb0.output,by rw[M6];simpa [V2]using hb0.size,fun k hk=>?_⟩,⟨Pd0,ch1,rb1,rc1,lt4⟩,?_,hap _ _ _ C2 (by decide)⟩
  ·simp[M1,O1,O2,rn0,Rn.cells]
  ·have:=hap _ _ _ mg0 (by decide);rw[Pb0]at this;exact this
  ·have:=hap _ _ _ Jp0 (by decide);rw[Pc0]at this;exact this
  ·rw[X8 (by omega),z7 _ _ (by omega)];exact hb0.block k hk
  ·rw[X8 X3];exact y8 w hch
 obtain⟨JB,J2,JE,rr,hE,hT,hJ0⟩:=lh1 _ _ _ _ _ _ rd1;generalize O1 (V2 w yb nothing) b21 #[.slice none 0 0,.slice none 0 0,.slice none 0 0,.slice (pt b25) m m,.slice (pt b32) m m,.bool false,.i 0,.chan (some yb)] 173 (7,8)=w4 at *;have hZ:Ctx.Zs prog (Fin prog Post (yz0 X b21 yb 8) 0):=B6;refine ZA.seq hZ ?_;refine ZA.upto hZ hb 2 rfl rfl (R:=fun e' w'=>ZA _ _ _ _ e' _ w') ?_ (fun _ _ h=>h);refine U124 ?_;refine L.va (aj0 rfl) ?_;refine U2 ?_;refine ZA.call (i:=2) (rest:=[]) hZ hb (f:=76) (args:=#[.p b21,.slice ba m bc]) rfl rfl (L2 rfl rfl func76 rfl qm1 rfl) (fun a ha=>?_);refine Uu0 (hE.beg _ (fun X' R' u hJ' fr h8 h9=>?_)) (by omega) hJ0;have hZ:Ctx.Zs prog (Fin prog Post X' 0):=B6;refine ZA.back (fr0 prog Post X' 0) (i:=2) rfl rfl ha h9 ?_;refine U46 ?_;refine U300 ?_;refine L.va (K6 rfl underlying37 rfl) ?_;refine U317 ?_;refine U311 ?_;exact Pa0 hE hT hm1 (by omega) sn 0 (by omega) X' R' u (hE.b2s _ _ _ hJ') _ rfl rfl rfl rfl rfl rfl
end
end Go.Vy.Sc
end
section
namespace Go.Vy.Sc
open Go Go.Conc Go.Yc Go.RowKit Go.Proofs Go.Proofs.YtinppmaojmdmhaaGreat Tryz
open Go.Vc Go.Wg
attribute [local irreducible] KK
structure Sys where
 S:Type
 L:Type
 m:Nat
 s0:S
 nil:Nat->Bool
 stp:Nat->L->Stp
 rdy:Nat->L->S->Bool
 beg:Nat->S->m6 S L
 go:Nat->L->S->m6 S L
 le:Nat->Gm->Gm->Prop
 Inv:S->Gm->World->(Nat->Prop)->Prop
 lb:Nat
 pl:Nat->E7
structure PR (Y:Sys) where
 s:Y.S
 ft:List (Y.L ⊕ Nat)
 evs:List (Nat×Stp)
 nts:List (Nat×Nat×Nte)
 outs:List (m6 Y.S Y.L)
 who:List (Option Nat)
 used:Nat
def tell (i n:Nat) (l:List Nte):List (Nat×Nat×Nte):=l.map fun k=>(n,i,k)
namespace Sys
section
variable (Y:Sys)
def p0:PR Y:=⟨Y.s0,[],[],[],[],[],0⟩
def bgn (p:PR Y):PR Y:=if Y.nil p.ft.length then{p with ft:=p.ft ++ [.inr 1]} else
 {p with s:=(Y.beg p.ft.length p.s).s,ft:=p.ft ++ [(Y.beg p.ft.length p.s).D2],nts:=p.nts++tell p.ft.length p.evs.length (Y.beg p.ft.length p.s).nts,outs:=p.outs ++ [Y.beg p.ft.length p.s],who:=p.who ++ [none]}
def D4:Nat->PR Y
 |0=>Y.p0
 |n+1=>Y.bgn (D4 n)
def K5 (p:PR Y) (i:Nat):PR Y:=match p.ft[i]? with
 |some (.inl l)=>{p with s:=(Y.go i l p.s).s,ft:=p.ft.set i (Y.go i l p.s).D2,evs:=p.evs ++ [(i,Y.stp i l)],nts:=p.nts++tell i (p.evs.length+1) (Y.go i l p.s).nts,outs:=p.outs ++ [Y.go i l p.s],who:=p.who ++ [some i],used:=p.used+1}
 |_=>p
def gv0 (p:PR Y) (i:Nat):Bool:=match p.ft[i]? with
 |some (.inl l)=>Y.rdy i l p.s
 |_=>false
def rds (p:PR Y):List Nat:=(List.range Y.m).filter (Y.gv0 p)
def step (p:PR Y) (e:Int):PR Y:=match(Y.rds p)[Y9 e (Y.rds p).length]? with
 |some i=>Y.K5 p i
 |none=>p
def pn (sc:Nat->Int):Nat->PR Y
 |0=>Y.D4 Y.m
 |n+1=>Y.step (pn sc n) (sc n)
def o0:m6 Y.S Y.L:=⟨Y.s0,[],.inr 0⟩
def Q4 (q:PR Y) (t:Nat):m6 Y.S Y.L:=(q.outs[t]?).getD Y.o0
def sAt (q:PR Y):Nat->Y.S
 |0=>Y.s0
 |t+1=>(Y.Q4 q t).s
def W1 (q:PR Y) (i t:Nat):Nat:=(q.who.take (t+1)).count (some i)
structure Le (p q:PR Y):Prop where
 outs:p.outs <+: q.outs
 who:p.who <+: q.who
theorem Le.refl (p:PR Y):Y.Le p p:=⟨List.prefix_refl _,List.prefix_refl _⟩
variable {Y}
theorem Le.trans {p q r:PR Y} (h:Y.Le p q) (h':Y.Le q r):Y.Le p r:=⟨h.outs.trans h'.outs,h.who.trans h'.who⟩
theorem ci1 (p:PR Y):Y.Le p (Y.bgn p):=by
 unfold bgn;split
 ·exact⟨List.prefix_refl _,List.prefix_refl _⟩
 ·exact⟨List.prefix_append _ _,List.prefix_append _ _⟩
theorem Va0 (p:PR Y) (i:Nat):Y.Le p (Y.K5 p i):=by
 unfold K5;split
 ·exact⟨List.prefix_append _ _,List.prefix_append _ _⟩
 ·exact Le.refl Y p
theorem le_step (p:PR Y) (e:Int):Y.Le p (Y.step p e):=by
 unfold step;split
 ·exact Va0 p _
 ·exact Le.refl Y p
theorem Vb0 {n k:Nat}:Y.Le (Y.D4 n) (Y.D4 (n+k)):=by
 induction k with
 |zero=>exact Le.refl Y _
 |succ k ih=>exact ih.trans (ci1 _)
theorem Zj0 {sc:Nat->Int} {n k:Nat}:Y.Le (Y.pn sc n) (Y.pn sc (n+k)):=by
 induction k with
 |zero=>exact Le.refl Y _
 |succ k ih=>exact ih.trans (le_step _ _)
structure Ok (p:PR Y):Prop where
 s:p.s=Y.sAt p p.outs.length
 who:p.who.length=p.outs.length
 used:p.evs.length=p.used
theorem cj1 {p q:PR Y} (h:Y.Le p q) {t:Nat} (ht:t <=p.outs.length):Y.sAt q t=Y.sAt p t:=by
 cases t with
 |zero=>rfl
 |succ t=>
  obtain⟨l,hl⟩:=h.outs;show(Y.Q4 q t).s=(Y.Q4 p t).s;unfold Q4;rw[<- hl,List.getElem?_append_left (by omega)]
theorem li1:Ok (Y.p0):=⟨rfl,rfl,rfl⟩
theorem Hr0 (p:PR Y) (o:m6 Y.S Y.L) {q:PR Y} (hq:q.outs=p.outs ++ [o]):Y.sAt q (p.outs.length+1)=o.s:=by
 show(Y.Q4 q p.outs.length).s=o.s;unfold Q4;rw[hq];simp
theorem Ok.bgn {p:PR Y} (h:Ok p):Ok (Y.bgn p):=by
 unfold Sys.bgn;split
 ·exact⟨h.s,h.who,h.used⟩
 ·refine⟨?_,by simp[h.who],h.used⟩;simp only[List.length_append,List.length_cons,List.length_nil,Nat.zero_add];exact(Hr0 p _ rfl).symm
theorem Ok.K5 {p:PR Y} (h:Ok p) (i:Nat):Ok (Y.K5 p i):=by
 unfold Sys.K5;split
 ·refine⟨?_,by simp[h.who],by simp[h.used]⟩;simp only[List.length_append,List.length_cons,List.length_nil,Nat.zero_add];exact(Hr0 p _ rfl).symm
 ·exact h
theorem Ok.step {p:PR Y} (h:Ok p) (e:Int):Ok (Y.step p e):=by
 unfold Sys.step;split
 ·exact h.K5 _
 ·exact h
theorem zb0:∀n,Ok (Y.D4 n)
 |0=>li1
 |n+1=>(zb0 n).bgn
theorem Bk0 (sc:Nat->Int):∀n,Ok (Y.pn sc n)
 |0=>zb0 _
 |n+1=>(Bk0 sc n).step _
theorem Vc0 {p q:PR Y} (h:Ok p) (hl:Y.Le p q):Y.sAt q p.outs.length=p.s:=by rw[cj1 hl (Nat.le_refl _),h.s]
theorem Pe0 {p q:PR Y} {o:m6 Y.S Y.L} {p':PR Y} (hp:p'.outs=p.outs ++ [o]) (hl:Y.Le p' q):Y.Q4 q p.outs.length=o:=by
 obtain⟨l,hl⟩:=hl.outs;unfold Q4;rw[<- hl,hp,List.append_assoc,List.getElem?_append_right (Nat.le_refl _)];simp
theorem l7:∀n,(Y.D4 n).ft.length=n
 |0=>rfl
 |n+1=>by
  show(Y.bgn (Y.D4 n)).ft.length=n+1;unfold bgn;split <;> simp[l7 n]
theorem Bl0 (p:PR Y) (i:Nat):(Y.K5 p i).ft.length=p.ft.length:=by
 unfold K5;split <;> simp
theorem Pf0 (p:PR Y) (e:Int):(Y.step p e).ft.length=p.ft.length:=by
 unfold step;split
 ·exact Bl0 p _
 ·rfl
def Reach (Y:Sys) (p:PR Y):Prop:=(∃n,n <=Y.m/\p=Y.D4 n)\/∃sc n,p=Y.pn sc n
theorem ao0 (sc:Nat->Int):∀n,(Y.pn sc n).ft.length=Y.m
 |0=>l7 _
 |n+1=>(Pf0 _ _).trans (ao0 sc n)
end
end Sys
structure LeOk (Y:Sys):Prop where
 refl:∀i a,Y.le i a a
 trans:∀i a b c,Y.le i a b->Y.le i b c->Y.le i a c
noncomputable def Sys.cfg (Y:Sys) (fb:Nat->FuncId) (q:PR Y) (w0:World) (i cb:Nat) (top:List Frame):V9 prog where
 S:=Y.S
 L:=Y.L
 stp:=Y.stp i
 rdy:=Y.rdy i
 go:=Y.go i
 out:=Y.Q4 q
 sOf:=Y.sAt q
 W1:=Y.W1 q i
 le:=Y.le i
 gu:=fun a b=>∀j,j≠i->Y.le j a b
 Inv:=Y.Inv
 At:=fun t l=>t <=300000/\∃p:PR Y,Y.Reach p/\p.outs.length=t/\p.s=Y.sAt q t/\p.ft[i]? =some (.inl l)
 BAt:=fun t=>t <=300000/\∃p:PR Y,Y.Reach p/\p.outs.length=t/\p.s=Y.sAt q t/\p.ft.length=i
 num:=i
 ptr:=cb
 base:=w0
 kz0:=126
 Mw0:=some 74
 N4:=172
 Mx0:=none
 My0:=fb i
 top:=top
structure Geo where
 gm:Gm
 gi:Nat->Nat
 ab:Nat->Nat
 eb:Nat->Nat
 top:Nat->List Frame
 pv:Nat->Nat->Prop
section
variable (Y:Sys)(fb:Nat->FuncId)(q:PR Y)(w0:World)(Γ:Geo)(X:Gh)(R:Rn)(w:World)
structure Wt (j:Nat) (c:CB) (l:Y.L):Prop where
 wt:c.wt=true
 st:c.st=false
 sp:c.sp=Y.stp j l
 he:M1 w (Γ.eb j) #[.bool false] 4 (0,0)
 node:∃(me:Goroutine) (cs:List Frame) (wn:World) (mn:Gm) (Fn:Nat->Prop) (Rdo:World->World->Prop),X.S1 (Γ.gi j)=some ⟨c.rc,.bool false,me⟩/\qa0 cs c.cb c.df me/\(Y.cfg fb q w0 j c.cb (Γ.top j)).gg0 wn mn Fn c.rf l/\FnV prog c.df /\
  (∀b,Γ.pv j b↔b<wn.heap.size/\wn.heap[b]? ≠some nothing/\¬Fn b)/\(∀b,Γ.pv j b->w.heap[b]? =wn.heap[b]?)/\wn.os=w0.os/\wn.output=w0.output/\wn.heap.size <=w.heap.size/\Y.le j mn Γ.gm /\
  (∀u F',(Y.cfg fb q w0 j c.cb (Γ.top j)).Goes wn mn Fn l u F'->Jd0 prog (Y.cfg fb q w0 j c.cb (Γ.top j)).E5 c.df u (Rdo u)) /\
  (∀u F' u2,(Y.cfg fb q w0 j c.cb (Γ.top j)).Goes wn mn Fn l u F'->Rdo u u2->u2.tape=u.tape->∀fr,fr.fn=126->Leaves prog fr u2 (.returned (.tuple #[]))->ad0 (Y.cfg fb q w0 j c.cb (Γ.top j)) (G fr cs) u2) /\
  (∀u F',(Y.cfg fb q w0 j c.cb (Γ.top j)).p6 wn mn Fn u F'->gh u 2=1->∀fr ch,fr.fn=126->Z5 ch->Leaves prog fr u (.panicked ch)->ad0 (Y.cfg fb q w0 j c.cb (Γ.top j)) (G fr cs) u)
structure Ck (j:Nat) (c:CB):Prop where
 top:Op0 (Γ.top j) (Γ.ab j) (Γ.eb j) R.rb c.cb
 ha:M1 w (Γ.ab j) #[.p c.cb] 123 (0,0)
 he:∃en,M1 w (Γ.eb j) #[.bool en] 4 (0,0)
 fg0:0<Γ.gi j/\Γ.gi j<X.n
 stay:X.stay (Γ.gi j)=[(⟨c.cb,2,none⟩,.chan (some c.rc))]
 ch:X.chs c.rc
def Cl1 (j:Nat) (c:CB) (f:Y.L ⊕ Nat):Prop :=
 (Y.nil j=true/\f= .inr 1/\c.wt=false/\R.ends[j]? =some 1)\/(Y.nil j=false/\match f with
  | .inl l=>Wt Y fb q w0 Γ X w j c l
  | .inr x=>c.wt=false/\R.ends[j]? =some (x:Int)/\X.S1 (Γ.gi j)=none)
variable (Mn:Nat->Option Obj)
structure ck1:Prop where
 le:Y.lb <=w0.heap.size
 low:∀b,X.low b->Y.lb <=b
 pl:X.w7=Y.pl
structure Fix (hold:Option Nat) (ft:Nat->Option (Y.L ⊕ Nat)):Prop where
 mem:j5 w w0.heap.size R
 m:R.m=Y.m
 cl:∀j c,R.cl[j]? =some c->some j≠hold->∃f,ft j=some f/\Cl1 Y fb q w0 Γ X R w j c f
 ck:∀j c,R.cl[j]? =some c->Y.nil j=false->Ck Γ X R w j c
 fpB:∀b,R.fp b->w0.heap.size <=b
 side:∀j,j<R.cl.length->Y.nil j=false->w0.heap.size <=Γ.ab j/\w0.heap.size <=Γ.eb j/\¬R.fp (Γ.ab j)/\¬R.fp (Γ.eb j)
 pv:∀j b,Γ.pv j b->b<w.heap.size/\¬R.fp b/\¬Mn b≠none/\(∀k,k<R.cl.length->Y.nil k=false->b≠Γ.ab k/\b≠Γ.eb k)/\∀k,k≠j->¬Γ.pv k b
 mn:∀b,Mn b≠none->w.heap[b]? =Mn b/\¬R.fp b/\∀k,k<R.cl.length->Y.nil k=false->b≠Γ.ab k/\b≠Γ.eb k
 qd0:0<X.n
 os:hold=none->w.os=w0.os
 output:hold=none->w.output=w0.output
 size:w0.heap.size <=w.heap.size
 J4:X.J4=some ⟨R.rb,8⟩
 no0:X.stay 0=[(⟨R.rb,7,none⟩,.chan (some R.yb))]
 chy:X.chs R.yb
 L4:∀g s,g≠0->X.S1 g=some s->∃j c,R.cl[j]? =some c/\Y.nil j=false/\g=Γ.gi j/\s.ch=c.rc/\some j≠hold
 Ez0:∀j k,j<R.cl.length->k<R.cl.length->Y.nil j=false->Y.nil k=false->Γ.gi j=Γ.gi k->j=k
 xb0:∀j k,j<R.cl.length->k<R.cl.length->Y.nil j=false->Y.nil k=false->Γ.eb j=Γ.eb k->j=k
 Jq0:∀j k c d,R.cl[j]? =some c->R.cl[k]? =some d->Y.nil j=false->Y.nil k=false->c.rc=d.rc->j=k
 ry:∀j c,R.cl[j]? =some c->Y.nil j=false->c.rc≠R.yb
 dn:X.dn=0
 pend:X.pend=0
 cap:X.cap <=R.cl.length
 under:X.et0 w.heap.size
 w7:∀b,w.heap.size <=b->X.w7 b= .all
 qe0:hold=none->X.S1 0=none
 base:ck1 Y w0 X
end
section
variable {Y:Sys}{fb:Nat->FuncId}{q:PR Y}{Γ Γ':Geo}{X X':Gh}{R R':Rn}{w w':World}{Mn:Nat->Option Obj}{w0:World}{hold:Option Nat}{ft:Nat->Option (Y.L ⊕ Nat)}
def Kept (Y:Sys) (Γ:Geo) (R:Rn) (Mn:Nat->Option Obj) (b:Nat):Prop:=Mn b≠none\/(∃k,k<R.cl.length/\Y.nil k=false/\(b=Γ.ab k\/b=Γ.eb k))\/∃j,Γ.pv j b
theorem Wt.K5 {j:Nat} (hle:∀a b c,Y.le j a b->Y.le j b c->Y.le j a c) (hgm:Y.le j Γ.gm Γ'.gm) {c:CB} {l:Y.L} (h:Wt Y fb q w0 Γ X w j c l) (hb:∀b,Γ.pv j b->w'.heap[b]? =w.heap[b]?) (O2:w.heap.size <=w'.heap.size) (hs:X'.S1 (Γ.gi j)=X.S1 (Γ.gi j)) (he:w'.heap[Γ.eb j]? =w.heap[Γ.eb j]?) (hge:Γ'.eb j=Γ.eb j) (hg:Γ'.gi j=Γ.gi j) (ht:Γ'.top j=Γ.top j) (hp:Γ'.pv j=Γ.pv j):Wt Y fb q w0 Γ' X' w' j c l:=by
 obtain⟨h1,h2,h3,h4,me,cs,wn,mn,Fn,Rdo,a1,a2,a3,a4,a5,a6,a7,a8,a9,ale,a10,a11,a12⟩:=h;refine⟨h1,h2,h3,by rw[hge];exact he.trans h4,me,cs,wn,mn,Fn,Rdo,?_⟩;rw[hg,ht,hp,hs];exact⟨a1,a2,a3,a4,a5,fun b o7=>(hb b o7).trans (a6 b o7),a7,a8,Nat.le_trans a9 O2,hle _ _ _ ale hgm,a10,a11,a12⟩
theorem Cl1.K5 {j:Nat} (hle:∀a b c,Y.le j a b->Y.le j b c->Y.le j a c) (hgm:Y.le j Γ.gm Γ'.gm) {c:CB} {f:Y.L ⊕ Nat} (h:Cl1 Y fb q w0 Γ X R w j c f) (hb:∀b,Γ.pv j b->w'.heap[b]? =w.heap[b]?) (O2:w.heap.size <=w'.heap.size) (hs:Y.nil j=false->X'.S1 (Γ.gi j)=X.S1 (Γ.gi j)) (heb:Y.nil j=false->w'.heap[Γ.eb j]? =w.heap[Γ.eb j]?) (hge:Γ'.eb j=Γ.eb j) (hg:Γ'.gi j=Γ.gi j) (ht:Γ'.top j=Γ.top j) (hp:Γ'.pv j=Γ.pv j) (he:R'.ends[j]? =R.ends[j]?):Cl1 Y fb q w0 Γ' X' R' w' j c f:=by
 rcases h with⟨h1,h2,h3,h4⟩|⟨h1,h2⟩
 ·exact .inl ⟨h1,h2,h3,by rw[he];exact h4⟩
 ·refine .inr ⟨h1,?_⟩;cases f with
  |inl l=>exact Wt.K5 hle hgm h2 hb O2 (hs h1) (heb h1) hge hg ht hp
  |inr x=>exact⟨h2.1,by rw[he];exact h2.2.1,by rw[hg,hs h1];exact h2.2.2⟩
theorem Fix.K5 (hY:LeOk Y) (h:Fix Y fb q w0 Γ X R w Mn hold ft) (hM:j5 w' w0.heap.size R') (hrb:R'.rb=R.rb) (hyb:R'.yb=R.yb) (hm:R'.m=R.m) (hfp:∀b,R'.fp b->R.fp b\/w.heap.size <=b) (hlen:R'.cl.length=R.cl.length)
  (p7:∀j c',R'.cl[j]? =some c'->∃c,R.cl[j]? =some c/\c'.cb=c.cb/\c'.rc=c.rc/\(some j≠hold->c'=c/\R'.ends[j]? =R.ends[j]?)) (O2:w.heap.size <=w'.heap.size) (cx0:∀b,b<w.heap.size->¬R.fp b->Kept Y Γ R Mn b->w'.heap[b]? =w.heap[b]?\/∃i en,hold=some i/\i<R.cl.length/\Y.nil i=false/\b=Γ.eb i/\M1 w' b #[.bool en] 4 (0,0)) (hos:hold=none->w'.os=w.os/\w'.output=w.output) :
  Fix Y fb q w0 Γ X R' w' Mn hold ft:=by
 have lt:∀j c',R'.cl[j]? =some c'->j<R.cl.length:=fun j c' hc=>by rw[<- hlen];exact(List.getElem?_eq_some_iff.1 hc).1
 have hpv:∀j b,Γ.pv j b->w'.heap[b]? =w.heap[b]?:=fun j b hb=>by
  have hp:=h.pv j b hb;rcases cx0 b hp.1 hp.2.1 (.inr (.inr ⟨j,hb⟩))with z|⟨i,en,_,z1,z2,z3,_⟩
  ·exact z
  ·exact absurd z3 (hp.2.2.2.1 i z1 z2).2
 have heb:∀j,j<R.cl.length->Y.nil j=false->w'.heap[Γ.eb j]? =w.heap[Γ.eb j]?\/(hold=some j/\∃en,M1 w' (Γ.eb j) #[.bool en] 4 (0,0)):=fun j hj hn=>by
  obtain⟨en,he⟩:=(h.ck j _ (List.getElem?_eq_getElem hj) hn).he;rcases cx0 _ he.lt (h.side j hj hn).2.2.2 (.inr (.inl ⟨j,hj,hn,.inr rfl⟩))with z|⟨i,en,z0,z1,z2,z3,z4⟩
  ·exact .inl z
  ·obtain rfl:=h.xb0 j i hj z1 hn z2 z3;exact .inr ⟨z0,en,z4⟩
 have re1:∀j,j<R.cl.length->Y.nil j=false->some j≠hold->w'.heap[Γ.eb j]? =w.heap[Γ.eb j]?:=fun j hj hn hh=>by
  rcases heb j hj hn with z|⟨z,_⟩
  ·exact z
  ·exact absurd z.symm hh
 refine⟨hM,hm.trans h.m,fun j c' hc hj=>?_,fun j c' hc hn=>?_,fun b hb=>?_,fun j hj hn=>?_,fun j b hb=>?_,fun b hb=>?_,h.qd0,fun z=>(hos z).1.trans (h.os z),fun z=>(hos z).2.trans (h.output z),Nat.le_trans h.size O2,by rw[hrb];exact h.J4,by rw[hrb,hyb];exact h.no0,by rw[hyb];exact h.chy,fun g s hg hs=>?_,by rw[hlen];exact h.Ez0,by rw[hlen];exact h.xb0,fun j k c d hc hd hn hk e=>?_,fun j c' hc hn=>?_,h.dn,h.pend,by rw[hlen];exact h.cap,h.under.mono O2,fun b hb=>h.w7 b (Nat.le_trans O2 hb),h.qe0,h.base⟩
 ·obtain⟨c,hc0,_,_,h4⟩:=p7 j c' hc;obtain⟨rfl,h5⟩:=h4 hj;obtain⟨f,hf,h6⟩:=h.cl j c' hc0 hj;exact⟨f,hf,h6.K5 (hY.trans _) (hY.refl _ Γ.gm) (fun b hb=>hpv j b hb) O2 (fun _=>rfl) (fun hn=>re1 j (lt j c' hc) hn hj) rfl rfl rfl rfl h5⟩
 ·obtain⟨c,hc0,hcb,hrc,_⟩:=p7 j c' hc;have hk:=h.ck j c hc0 hn;have hs:=h.side j (lt j c' hc) hn;refine⟨by rw[hrb,hcb];exact hk.top,?_,?_,hk.fg0,by rw[hcb,hrc];exact hk.stay,by rw[hrc];exact hk.ch⟩
  ·rw[hcb];rcases cx0 _ hk.ha.lt hs.2.2.1 (.inr (.inl ⟨j,lt j c' hc,hn,.inl rfl⟩))with z|⟨i,en,_,z1,z2,z3,_⟩
   ·exact z.trans hk.ha
   ·obtain⟨en',x9⟩:=(h.ck i _ (List.getElem?_eq_getElem z1) z2).he;exact absurd z3 (M1.ne hk.ha x9 (by decide))
  ·rcases heb j (lt j c' hc) hn with z|⟨_,z⟩
   ·obtain⟨en',x9⟩:=hk.he;exact⟨en',z.trans x9⟩
   ·exact z
 ·rcases hfp b hb with z|z
  ·exact h.fpB b z
  ·exact Nat.le_trans h.size z
 ·rw[hlen]at hj;have hs:=h.side j hj hn;obtain⟨c,hc⟩:∃c,R.cl[j]? =some c:=⟨_,List.getElem?_eq_getElem hj⟩
  have hk:=h.ck j c hc hn;exact⟨hs.1,hs.2.1,fun z=>by rcases hfp _ z with y|y;exact hs.2.2.1 y;have:=hk.ha.lt;omega,fun z=>by rcases hfp _ z with y|y;exact hs.2.2.2 y;have:=hk.he.choose_spec.lt;omega⟩
 ·have hp:=h.pv j b hb;exact⟨Nat.lt_of_lt_of_le hp.1 O2,fun z=>by rcases hfp _ z with y|y;exact hp.2.1 y;have:=hp.1;omega,hp.2.2.1,by rw[hlen];exact hp.2.2.2.1,hp.2.2.2.2⟩
 ·have hm':=h.mn b hb;have I1:b<w.heap.size:=by
   rcases Nat.lt_or_ge b w.heap.size with z|z
   ·exact z
   ·exact absurd (hm'.1.symm.trans (Array.getElem?_eq_none z)) hb
  refine⟨?_,fun z=>by rcases hfp b z with y|y;exact hm'.2.1 y;omega,by rw[hlen];exact hm'.2.2⟩;rcases cx0 b I1 hm'.2.1 (.inl hb)with z|⟨i,en,_,z1,z2,z3,_⟩
  ·exact z.trans hm'.1
  ·exact absurd z3 (hm'.2.2 i z1 z2).2
 ·obtain⟨j,c,h1,h2,h3,h4,h5⟩:=h.L4 g s hg hs;have hj:j<R'.cl.length:=by rw[hlen];exact(List.getElem?_eq_some_iff.1 h1).1
  obtain⟨c',hc'⟩:∃c',R'.cl[j]? =some c':=⟨_,List.getElem?_eq_getElem hj⟩
  obtain⟨c2,e1,_,e3,_⟩:=p7 j c' hc';rw[h1]at e1;obtain rfl:=Option.some.inj e1;exact⟨j,c',hc',h2,h3,by rw[e3];exact h4,h5⟩
 ·obtain⟨c2,e1,_,e3,_⟩:=p7 j c hc;obtain⟨d2,f1,_,f3,_⟩:=p7 k d hd;exact h.Jq0 j k c2 d2 e1 f1 hn hk (by rw[<- e3,<- f3];exact e)
 ·obtain⟨c2,e1,_,e3,_⟩:=p7 j c' hc;rw[e3,hyb];exact h.ry j c2 e1 hn
end
end Go.Vy.Sc
end
section
namespace Go.Vy.Sc
open Go Go.Conc Go.Yc Go.RowKit Go.Proofs Go.Proofs.YtinppmaojmdmhaaGreat Tryz
open Go.Vc Go.Wg
section
attribute [local irreducible] KK
structure qf0 (Y:Sys):Prop extends LeOk Y where
 loc:∀s m (w w':World) F,Y.Inv s m w F->(∀b,F b->w'.heap[b]? =w.heap[b]?)->Y.Inv s m w' F
 vis:∀s m (w:World) F,Y.Inv s m w F->∀b,F b->b<w.heap.size/\w.heap[b]? ≠some nothing
section
variable {Y:Sys}{fb:Nat->FuncId}{q:PR Y}{Γ:Geo}{X:Gh}{R:Rn}{w:World}{Mn:Nat->Option Obj}{w0:World}{ft:Nat->Option (Y.L ⊕ Nat)}{i:Nat}
theorem iy0 {h j:Nat} {sh:Option P6} {g:Nat} (h1:g≠h) (h2:g≠j):(X.pass h j sh).S1 g=X.S1 g:=by
 show Go.ConcN.upd (Go.ConcN.upd X.S1 j none) h sh g=_;rw[Go.ConcN.upd_ne _ _ h1,Go.ConcN.upd_ne _ _ h2]
theorem bk0 {h j:Nat} {sh:Option P6}:(X.pass h j sh).S1 h=sh:=Go.ConcN.upd_same _ _ _
theorem np0 {h j:Nat} {sh:Option P6} (hj:j≠h):(X.pass h j sh).S1 j=none:=by
 show Go.ConcN.upd (Go.ConcN.upd X.S1 j none) h sh j=_;rw[Go.ConcN.upd_ne _ _ hj,Go.ConcN.upd_same]
def Geo.put (Γ:Geo) (i:Nat) (N:Nat->Prop):Geo:={Γ with pv:=fun j b=>if j=i then N b else Γ.pv j b}
def Geo.oc0 (Γ:Geo) (i:Nat) (N:Nat->Prop) (m:Gm):Geo:={Γ.put i N with gm:=m}
theorem ld0 {N:Nat->Prop} {m:Gm} {j:Nat} (h:j≠i):(Γ.oc0 i N m).pv j=Γ.pv j:=by funext b;simp[Geo.oc0,Geo.put,h]
theorem zc0 {N:Nat->Prop} {j:Nat} (h:j≠i):(Γ.put i N).pv j=Γ.pv j:=by funext b;simp[Geo.put,h]
theorem Fix.back (hY:LeOk Y) {m:Gm} (hm:∀j,j≠i->Y.le j Γ.gm m) (h:Fix Y fb q w0 Γ X R w Mn (some i) ft) (hn:Y.nil i=false) {c:CB} (hc:R.cl[i]? =some c) {N:Nat->Prop} (hN:∀b,N b->b<w.heap.size/\¬R.fp b/\¬Kept Y Γ R Mn b) {sh:Option P6} (hsh:∀s,sh=some s->s.ch=c.rc) {f:Y.L ⊕ Nat}
  (hf:Cl1 Y fb q w0 (Γ.oc0 i N m) (X.pass (Γ.gi i) 0 sh) R w i c f) (hos:w.os=w0.os/\w.output=w0.output):Fix Y fb q w0 (Γ.oc0 i N m) (X.pass (Γ.gi i) 0 sh) R w Mn none (fun j=>if j=i then some f else ft j):=by
 have hi:=(List.getElem?_eq_some_iff.1 hc).1;have hg:=(h.ck i c hc hn).fg0;have X9:Γ.gi i≠0:=by omega
 refine⟨h.mem,h.m,fun j c' hc' _=>?_,fun j c' hc' hn'=>?_,h.fpB,h.side,fun j b hb=>?_,h.mn,h.qd0,fun _=>hos.1,fun _=>hos.2,h.size,h.J4,h.no0,h.chy,fun g s hg' hs=>?_,h.Ez0,h.xb0,h.Jq0,h.ry,h.dn,h.pend,h.cap,⟨h.under.stay,h.under.o5,h.under.chs,h.under.J4,h.under.low⟩,h.w7,fun _=>np0 X9.symm,⟨h.base.le,h.base.low,h.base.pl⟩⟩
 ·by_cases hj:j=i
  ·subst hj;rw[hc]at hc';obtain rfl:=Option.some.inj hc';exact⟨f,by simp,hf⟩
  ·obtain⟨f',h1,h2⟩:=h.cl j c' hc' (by simpa using hj);have hjl:=(List.getElem?_eq_some_iff.1 hc').1;refine⟨f',by simp[hj,h1],h2.K5 (Γ':=Γ.oc0 i N m) (hY.trans _) (hm j hj) (fun _ _=>rfl) (Nat.le_refl _) (fun r9=>iy0 (fun e=>hj (h.Ez0 j i hjl hi r9 hn e)) ?_) (fun _=>rfl) rfl rfl rfl (ld0 hj) rfl⟩;have:=(h.ck j c' hc' r9).fg0;omega
 ·have:=h.ck j c' hc' hn';exact⟨this.top,this.ha,this.he,this.fg0,this.stay,this.ch⟩
 ·by_cases hj:j=i
  ·subst hj;have o7:N b:=by simpa [Geo.oc0,Geo.put]using hb
   obtain⟨h1,h2,h3⟩:=hN b o7;refine⟨h1,h2,fun z=>h3 (.inl z),fun k hk hnk=>⟨fun e=>h3 (.inr (.inl ⟨k,hk,hnk,.inl e⟩)),fun e=>h3 (.inr (.inl ⟨k,hk,hnk,.inr e⟩))⟩,fun k hk hp=>?_⟩;rw[ld0 hk]at hp;exact h3 (.inr (.inr ⟨k,hp⟩))
  ·rw[ld0 hj]at hb;obtain⟨h1,h2,h3,h4,h5⟩:=h.pv j b hb;refine⟨h1,h2,h3,h4,fun k hk hp=>?_⟩;by_cases hki:k=i
   ·subst hki;have o7:N b:=by simpa [Geo.oc0,Geo.put]using hp
    exact(hN b o7).2.2 (.inr (.inr ⟨j,hb⟩))
   ·rw[ld0 hki]at hp;exact h5 k hk hp
 ·by_cases hgi:g=Γ.gi i
  ·subst hgi;rw[bk0]at hs;exact⟨i,c,hc,hn,rfl,hsh s hs,by simp⟩
  ·rw[iy0 hgi hg']at hs;obtain⟨j,c',h1,h2,h3,h4,_⟩:=h.L4 g s hg' hs;exact⟨j,c',h1,h2,h3,h4,by simp⟩
theorem Fix.lj1 (hY:LeOk Y) (h:Fix Y fb q w0 Γ X R w Mn none ft) (hn:Y.nil i=false) {c:CB} (hc:R.cl[i]? =some c) {s0:P6}:Fix Y fb q w0 (Γ.put i fun _=>False) (X.pass 0 (Γ.gi i) (some s0)) R w Mn (some i) ft:=by
 have hi:=(List.getElem?_eq_some_iff.1 hc).1;have hg:=(h.ck i c hc hn).fg0;have X9:Γ.gi i≠0:=by omega
 refine⟨h.mem,h.m,fun j c' hc' u9=>?_,fun j c' hc' hn'=>?_,h.fpB,h.side,fun j b hb=>?_,h.mn,h.qd0,fun z=>by simp at z,fun z=>by simp at z,h.size,h.J4,h.no0,h.chy,fun g s hg' hs=>?_,h.Ez0,h.xb0,h.Jq0,h.ry,h.dn,h.pend,h.cap,⟨h.under.stay,h.under.o5,h.under.chs,h.under.J4,h.under.low⟩,h.w7,(fun z=>by simp at z),⟨h.base.le,h.base.low,h.base.pl⟩⟩
 ·have hj:j≠i:=by simpa using u9
  obtain⟨f',h1,h2⟩:=h.cl j c' hc' (by simp);have hjl:=(List.getElem?_eq_some_iff.1 hc').1;refine⟨f',h1,h2.K5 (Γ':=Γ.put i fun _=>False) (hY.trans _) (hY.refl _ Γ.gm) (fun _ _=>rfl) (Nat.le_refl _) (fun r9=>iy0 ?_ (fun e=>hj (h.Ez0 j i hjl hi r9 hn e))) (fun _=>rfl) rfl rfl rfl (zc0 hj) rfl⟩;have:=(h.ck j c' hc' r9).fg0;omega
 ·have:=h.ck j c' hc' hn';exact⟨this.top,this.ha,this.he,this.fg0,this.stay,this.ch⟩
 ·by_cases hj:j=i
  ·subst hj;simp[Geo.put]at hb
  ·rw[zc0 hj]at hb;obtain⟨h1,h2,h3,h4,h5⟩:=h.pv j b hb;refine⟨h1,h2,h3,h4,fun k hk hp=>?_⟩;by_cases hki:k=i
   ·subst hki;simp[Geo.put]at hp
   ·rw[zc0 hki]at hp;exact h5 k hk hp
 ·by_cases hgi:g=Γ.gi i
  ·subst hgi;rw[np0 X9]at hs;cases hs
  ·rw[iy0 hg' hgi]at hs;obtain⟨j,c',h1,h2,h3,h4,_⟩:=h.L4 g s hg' hs;refine⟨j,c',h1,h2,h3,h4,?_⟩;intro e;obtain rfl:j=i:=by simpa using e
   exact hgi h3
structure Main (Y:Sys) (fb:Nat->FuncId) (q:PR Y) (w0:World) (Γ:Geo) (X:Gh) (R:Rn) (w:World) (Mn:Nat->Option Obj) (ft:Nat->Option (Y.L ⊕ Nat)) (s:Y.S):Prop where
 fix:Fix Y fb q w0 Γ X R w Mn none ft
 inv:∃F,Y.Inv s Γ.gm w F/\∀b,F b->¬R.fp b/\¬Kept Y Γ R Mn b
def mh0 {L:Type} (e:List Int) (i:Nat):L ⊕ Nat->List Int
 | .inl _=>e
 | .inr x=>e.set i (x:Int)
def Rel (R0 R':Rn) (i:Nat) (nts:List (Nat×Nat×Nte)) (ends:List Int):Prop:=∃na nc c c',R0.cl[i]? =some c/\c'.W1=c.W1/\R'={R0 with na:=na,nc:=nc,nts:=nts,cl:=R0.cl.set i c',ends:=ends}
structure br0 (Y:Sys) (fb:Nat->FuncId) (q:PR Y) (w0:World) (Γ:Geo) (X:Gh) (Mn:Nat->Option Obj) (ft:Nat->Option (Y.L ⊕ Nat)) (i t at_ cb:Nat) (n0:List (Nat×Nat×Nte)) (R0 R:Rn) (H:Hid) (v:World):Prop where
 fix:Fix Y fb q w0 Γ X R (over H v) Mn (some i) ft
 o5:p8 H v
 no:∀b o,H b=some o->v.heap[b]? =some nothing
 all:∀b,(R.fp b\/Kept Y Γ R Mn b)->H b≠none
 tq:gh v 0=t
 gmq:gm v=Γ.gm
 atq:R.evs.length=at_
 cl:∃c,R.cl[i]? =some c/\c.cb=cb/\((gh v 2=0/\c.st=false/\R.nts=n0++tell i at_ ((Y.Q4 q t).nts.take (gh v 1))/\c.W1=Y.W1 q i t)\/(gh v 2=1/\c.st=true/\R.nts=n0))
 rel:∃na nc nts,R={R0 with na:=na,nc:=nc,nts:=nts}
 nil:Y.nil i=false
 he:M1 (over H v) (Γ.eb i) #[.bool false] 4 (0,0)
theorem br0.il {Y:Sys} {fb:Nat->FuncId} {q:PR Y} {w0:World} {Γ:Geo} {X:Gh} {Mn:Nat->Option Obj} {ft:Nat->Option (Y.L ⊕ Nat)} {i t at_ cb:Nat} {n0:List (Nat×Nat×Nte)} {R0 R:Rn} {H:Hid} {v:World} (h:br0 Y fb q w0 Γ X Mn ft i t at_ cb n0 R0 R H v):i<R.cl.length:=by
 obtain⟨c,hc,_⟩:=h.cl;exact(List.getElem?_eq_some_iff.1 hc).1
theorem Hs0 {H:Hid} {v:World} {b:Nat} {o:Obj} (o5:p8 H v) (h:H b=some o):(over H v).heap[b]? =some o:=bh0 h (o5.gone b o h).lt
theorem Bm0 {v v':World} (he:Evo v v') {b:Nat} (h:v.heap[b]? =some nothing):v'.heap[b]? =some nothing:=by
 obtain⟨y,hy,hk⟩:=he.obj _ _ h;obtain⟨c,rfl,h1,_⟩:=v9 hk;have:c=#[]:=by simpa using h1
 subst this;exact hy
theorem br0.evo {Y:Sys} (hY:LeOk Y) {fb:Nat->FuncId} {q:PR Y} {w0:World} {Γ:Geo} {X:Gh} {Mn:Nat->Option Obj} {ft:Nat->Option (Y.L ⊕ Nat)} {i t at_ cb:Nat} {n0:List (Nat×Nat×Nte)} {R0 R:Rn} {H:Hid} {v v':World} (h:br0 Y fb q w0 Γ X Mn ft i t at_ cb n0 R0 R H v) (he:Evo v v') (ht:v'.tape=v.tape):br0 Y fb q w0 Γ X Mn ft i t at_ cb n0 R0 R H v':=by
 have lk1:=h.o5.evo he;have hk:∀b,(R.fp b\/Kept Y Γ R Mn b)->(over H v').heap[b]? =(over H v).heap[b]?:=fun b hb=>by
  cases hh:H b with
  |none=>exact absurd hh (h.all b hb)
  |some o=>rw[Hs0 lk1 hh,Hs0 h.o5 hh]
 refine⟨h.fix.K5 hY (h.fix.mem.congr fun b hb=>hk b (.inl hb)) rfl rfl rfl (fun b hb=>.inl hb) rfl (fun j c hc=>⟨c,hc,rfl,rfl,fun _=>⟨rfl,rfl⟩⟩) (by rw[X4,X4];exact he.size) (fun b _ _ hb=>.inl (hk b (.inr hb))) (fun z=>by cases z),lk1,fun b o hb=>Bm0 he (h.no b o hb),h.all,by rw[H3 ht];exact h.tq,by rw[bz0 ht];exact h.gmq,h.atq,?_,h.rel,h.nil,(hk _ (.inr (.inr (.inl ⟨i,h.il,h.nil,.inr rfl⟩)))).trans h.he⟩;rw[H3 ht,H3 ht];exact h.cl
end
end
section
attribute [local irreducible] KK
theorem Fix.T2 {Y:Sys} (hY:LeOk Y) {fb:Nat->FuncId} {q:PR Y} {Γ:Geo} {X:Gh} {R:Rn} {w:World} {Mn:Nat->Option Obj} {w0:World} {ft:Nat->Option (Y.L ⊕ Nat)} {hold:Option Nat} (h:Fix Y fb q w0 Γ X R w Mn hold ft) (τ:Tape) (d:Nat):Fix Y fb q w0 Γ X R (Yc.T2 w τ d) Mn hold ft :=
 h.K5 hY (h.mem.congr fun _ _=>rfl) rfl rfl rfl (fun _b hb=>.inl hb) rfl (fun _j c hc=>⟨c,hc,rfl,rfl,fun _=>⟨rfl,rfl⟩⟩) (Nat.le_refl _) (fun _ _ _ _=>.inl rfl) (fun _=>⟨rfl,rfl⟩)
theorem xc0 {v:Value} (h:FnV prog v):v.cells=#[v]/\v.oneCell'=true:=by
 rcases h with rfl|⟨f,caps,rfl,_⟩ <;> exact⟨rfl,rfl⟩
theorem V9.gg0.fnV {K:V9 prog} {w:World} {m:Gm} {F:Nat->Prop} {rf:Value} {l:K.L} (h:K.gg0 w m F rf l):FnV prog rf:=by
 rcases h with⟨h,_⟩|⟨f,caps,h,_⟩
 ·exact .inl h
 ·exact .inr ⟨f,caps,h⟩
theorem Bn0 {fr:Frame} {w w':World} {v:Value} {fn:Func} (hf:prog.funcs[fr.fn]? =some fn) (hr:fn.results=#[]\/∃t,fn.results=#[.tmp t]) (hv:fn.results=#[]->v= .tuple #[]) (h:Leaves prog fr w (.returned v)) (hnv:Q7 w):Leaves prog fr w' (.returned v):=by
 obtain⟨h1,h2,h3,fn',h4,h5⟩:=h;rw[hf]at h4;obtain rfl:=Option.some.inj h4;refine⟨h1,h2,h3,fn,hf,?_⟩;rcases hr with hr|⟨t,hr⟩
 ·rw[hv hr];exact C8 (fun w=>results_none hr _ _ w) (fun w=>events_results_none hr _ _)
 ·obtain⟨x',es,h6,_⟩:=h5 w.tape w.drawn _ w hnv.sim;have h7:=results_tmp hr fr.tmps prog w;rw[Sem.runT_eq]at h6;have h8:=(Prod.mk.inj h6).1;rw[h7]at h8;injection h8 with h9 h10
  rw[<- h9];exact C8 (fun w=>results_tmp hr _ _ w) (fun w=>events_results_tmp hr _ _)
section
variable {Y:Sys}{fb:Nat->FuncId}{q:PR Y}{Γ:Geo}{X:Gh}{R R0:Rn}{w:World}{Mn:Nat->Option Obj}{w0:World}{ft:Nat->Option (Y.L ⊕ Nat)}{i t at_ cb:Nat}{n0:List (Nat×Nat×Nte)}
theorem Fix.Vd0 (h:Fix Y fb q w0 Γ X R w Mn (some i) ft) {b:Nat} (hb:R.fp b\/Kept Y Γ R Mn b):b<w.heap.size:=by
 rcases hb with hb|hb|⟨k,hk,hn,hb⟩|⟨j,hb⟩
 ·exact h.mem.lt hb
 ·rcases Nat.lt_or_ge b w.heap.size with z|z
  ·exact z
  ·exact absurd ((h.mn b hb).1.symm.trans (Array.getElem?_eq_none z)) hb
 ·have:=h.ck k _ (List.getElem?_eq_getElem hk) hn;rcases hb with rfl|rfl
  ·exact this.ha.lt
  ·exact this.he.choose_spec.lt
 ·exact(h.pv j b hb).1
theorem br0.enter (hY:LeOk Y) (V:Nat->Prop) [DecidablePred V] {τ:Tape} {d:Nat} (fix:Fix Y fb q w0 Γ X R w Mn (some i) ft) (hV:∀b,(R.fp b\/Kept Y Γ R Mn b)->¬V b) (nv:Q7 w) (h1:gh (Yc.T2 (O3 V w) τ d) 0=t) (hgm:gm (Yc.T2 (O3 V w) τ d)=Γ.gm) (h2:R.evs.length=at_)
  (h3:∃c,R.cl[i]? =some c/\c.cb=cb/\((gh (Yc.T2 (O3 V w) τ d) 2=0/\c.st=false/\R.nts=n0++tell i at_ ((Y.Q4 q t).nts.take (gh (Yc.T2 (O3 V w) τ d) 1))/\c.W1=Y.W1 q i t)\/(gh (Yc.T2 (O3 V w) τ d) 2=1/\c.st=true/\R.nts=n0)))
  (h4:∃na nc nts,R={R0 with na:=na,nc:=nc,nts:=nts}) (hn:Y.nil i=false) (he:M1 w (Γ.eb i) #[.bool false] 4 (0,0)):br0 Y fb q w0 Γ X Mn ft i t at_ cb n0 R0 R (T9 V w) (Yc.T2 (O3 V w) τ d):=by
 refine⟨?_,(pp0 nv).T2 τ d,fun b o hb=>?_,fun b hb=>?_,h1,hgm,h2,h3,h4,hn,?_⟩
 ·rw[S9,kw0];exact fix.T2 hY τ d
 ·by_cases hv:V b
  ·simp[T9,hv]at hb
  ·simp only[T9,hv,if_false]at hb;exact jt0 hv (Array.getElem?_eq_some_iff.1 hb).1
 ·have hv:=hV b hb;have I1:=fix.Vd0 hb;simp only[T9,hv,if_false];rw[Array.getElem?_eq_getElem I1];simp
 ·rw[S9,kw0];exact he
def After (Y:Sys) (fb:Nat->FuncId) (q:PR Y) (w0:World) (Mn:Nat->Option Obj) (ft:Nat->Option (Y.L ⊕ Nat)) (i t:Nat) (n0:List (Nat×Nat×Nte)) (R0:Rn) (st:Bool) (Γ':Geo) (X':Gh) (R':Rn) (w':World):Prop :=
 (st=false/\Main Y fb q w0 Γ' X' R' w' Mn (fun j=>if j=i then some (Y.Q4 q t).D2 else ft j) (Y.Q4 q t).s/\Rel R0 R' i (n0++tell i R0.evs.length (Y.Q4 q t).nts) (mh0 R0.ends i (Y.Q4 q t).D2)) \/
 (st=true/\Main Y fb q w0 Γ' X' R' w' Mn (fun j=>if j=i then some (.inr 0) else ft j) (Y.sAt q t)/\Rel R0 R' i n0 (R0.ends.set i 0))
theorem br0.cl1 {H:Hid} {v:World} (h:br0 Y fb q w0 Γ X Mn ft i t at_ cb n0 R0 R H v) {b:Nat} (hb:v.heap[b]? ≠some nothing):H b=none/\¬R.fp b/\¬Kept Y Γ R Mn b:=by
 have hn:H b=none:=by
  cases hh:H b with
  |none=>rfl
  |some o=>exact absurd (h.no b o hh) hb
 exact⟨hn,fun z=>h.all b (.inl z) hn,fun z=>h.all b (.inr z) hn⟩
theorem br0.chs {H:Hid} {v:World} (h:br0 Y fb q w0 Γ X Mn ft i t at_ cb n0 R0 R H v) (hn:Y.nil i=false) {c:CB} (hc:R.cl[i]? =some c):∀g s2,g≠0->X.S1 g=some s2->s2.ch≠c.rc:=by
 intro g s2 hg hs e;obtain⟨j,d,h1,h2,h3,h4,h5⟩:=h.fix.L4 g s2 hg hs;have:=h.fix.Jq0 j i d c h1 hc h2 hn (h4.symm.trans e);subst this;exact h5 rfl
theorem br0.home (hY:qf0 Y) {H:Hid} {v w':World} (h:br0 Y fb q w0 Γ X Mn ft i t at_ cb n0 R0 R H v) (hn:Y.nil i=false) {c c':CB} {ends:List Int} {S:Nat->Prop} {B:Nat} (hc:R.cl[i]? =some c) (ll1:c'.cb=c.cb) (rf1:c'.rc=c.rc) (_hc'p:c'.W1=c.W1) (hg:Rg S B (over H v) w' w0.heap.size {R with cl:=R.cl.set i c',ends:=ends}) (hB:B=(over H v).heap.size) (hS:∀k,S k->R.fp k\/(k=Γ.eb i)) (rg1:∃en,M1 w' (Γ.eb i) #[.bool en] 4 (0,0)) (nq0:∀j,j≠i->ends[j]? =R.ends[j]?)
  (F:Nat->Prop) {s:Y.S} {m:Gm} (hm:∀j,j≠i->Y.le j (gm v) m) (hinv:Y.Inv s m v F) (hos:v.os=w0.os/\v.output=w0.output) {sh:Option P6} (hsh:∀s,sh=some s->s.ch=c'.rc) {f:Y.L ⊕ Nat} {N:Nat->Prop} (hN:∀b,N b->v.heap[b]? ≠some nothing/\b<v.heap.size/\¬F b) (hf:(∀b,v.heap[b]? ≠some nothing->b<v.heap.size->w'.heap[b]? =v.heap[b]?)->Cl1 Y fb q w0 (Γ.oc0 i N m) (X.pass (Γ.gi i) 0 sh) {R with cl:=R.cl.set i c',ends:=ends} w' i c' f) :
  Main Y fb q w0 (Γ.oc0 i N m) (X.pass (Γ.gi i) 0 sh) {R with cl:=R.cl.set i c',ends:=ends} w' Mn (fun j=>if j=i then some f else ft j) s/\(∃na nc,{R with cl:=R.cl.set i c',ends:=ends}={R0 with na:=na,nc:=nc,nts:=R.nts,cl:=R0.cl.set i c',ends:=ends}):=by
 subst hB;have Y7:=(List.getElem?_eq_some_iff.1 hc).1;have Zk0:∀b,b<(over H v).heap.size->¬R.fp b->b≠Γ.eb i->w'.heap[b]? =(over H v).heap[b]?:=fun b hb hf he=>hg.md.block b hb fun hs=>(hS b hs).elim hf he;have bl0:∀b,v.heap[b]? ≠some nothing->b<v.heap.size->w'.heap[b]? =v.heap[b]?:=fun b hb I1=>by
  obtain⟨h1,h2,h3⟩:=h.cl1 hb;rw[Zk0 b (by rw[X4];exact I1) h2 (fun e=>h3 (.inr (.inl ⟨i,Y7,hn,.inr e⟩))),D6 v h1]
 have hfp:∀b,Rn.fp {R with cl:=R.cl.set i c',ends:=ends} b->R.fp b:=fun b hb=>Rn.Hj0 (R:=R) hc ll1 hb;have hK:∀b,Kept Y Γ {R with cl:=R.cl.set i c',ends:=ends} Mn b↔Kept Y Γ R Mn b:=fun b=>by simp[Kept]
 have ln1:=h.fix.K5 hY.toLeOk (R':={R with cl:=R.cl.set i c',ends:=ends}) (w':=w') hg.m rfl rfl rfl (fun b hb=>.inl (hfp b hb)) (by simp) (fun j d hd=>by
  have J6:(R.cl.set i c')[j]? =some d:=hd;rw[List.getElem?_set]at J6;by_cases hj:i=j
  ·subst hj;rw[if_pos rfl,if_pos Y7]at J6;obtain rfl:=Option.some.inj J6;exact⟨c,hc,ll1,rf1,fun z=>absurd rfl z⟩
  ·rw[if_neg hj]at J6;exact⟨d,J6,rfl,rfl,fun _=>⟨rfl,nq0 j (Ne.symm hj)⟩⟩) hg.md.size (fun b hb hf _=>by
   by_cases he:b=Γ.eb i
   ·subst he;obtain⟨en,he⟩:=rg1;exact .inr ⟨i,en,rfl,Y7,hn,rfl,he⟩
   ·exact .inl (Zk0 b hb hf he)) (fun z=>by cases z)
 have hc':Rn.cl {R with cl:=R.cl.set i c',ends:=ends}=R.cl.set i c':=rfl;have hci:(Rn.cl {R with cl:=R.cl.set i c',ends:=ends})[i]? =some c':=by rw[hc'];simp[Y7]
 have lo1:=ln1.back hY.toLeOk (m:=m) (by rw[<- h.gmq];exact hm) hn hci (N:=N) (fun b hb=>by
  obtain⟨h1,h2,h3⟩:=hN b hb;obtain⟨h4,h5,h6⟩:=h.cl1 h1;refine⟨Nat.lt_of_lt_of_le h2 (by have:=hg.md.size;rw[X4]at this;exact this),fun z=>h5 (hfp b z),fun z=>h6 ((hK b).1 z)⟩) hsh (hf bl0) ⟨hg.md.os.trans hos.1,hg.md.output.trans hos.2⟩
 refine⟨⟨lo1,F,hY.loc _ _ v w' F hinv fun b hb=>?_,fun b hb=>?_⟩,?_⟩
 ·have:=hY.vis _ _ v F hinv b hb;exact bl0 b this.2 this.1
 ·have hv:=hY.vis _ _ v F hinv b hb;obtain⟨h4,h5,h6⟩:=h.cl1 hv.2;refine⟨fun z=>h5 (hfp b z),fun z=>?_⟩;rcases z with z|z|⟨j,z⟩
  ·exact h6 (.inl z)
  ·exact h6 ((hK b).1 (.inr (.inl z)))
  ·by_cases hj:j=i
   ·subst hj;have:N b:=by simpa [Geo.oc0,Geo.put]using z
    exact(hN b this).2.2 hb
   ·rw[ld0 hj]at z;exact h6 (.inr (.inr ⟨j,z⟩))
 ·obtain⟨na,nc,nts,rfl⟩:=h.rel;exact⟨na,nc,rfl⟩
end
end
section
attribute [local irreducible] KK
section
variable {Y:Sys}{fb:Nat->FuncId}{q:PR Y}{Γ:Geo}{X:Gh}{R R0:Rn}{Mn:Nat->Option Obj}{w0:World}{ft:Nat->Option (Y.L ⊕ Nat)}{i t at_ cb:Nat}{n0:List (Nat×Nat×Nte)}{H:Hid}{v:World}
theorem br0.fg0 (h:br0 Y fb q w0 Γ X Mn ft i t at_ cb n0 R0 R H v):0<Γ.gi i:=(h.fix.ck i _ (List.getElem?_eq_getElem h.il) h.nil).fg0.1
theorem br0.lp1 (h:br0 Y fb q w0 Γ X Mn ft i t at_ cb n0 R0 R H v) {b:Nat} (hb:H b=none):¬R.fp b/\¬Kept Y Γ R Mn b:=⟨fun z=>h.all b (.inl z) hb,fun z=>h.all b (.inr z) hb⟩
theorem br0.again (hY:LeOk Y) (h:br0 Y fb q w0 Γ X Mn ft i t at_ cb n0 R0 R H v) {w':World} {R':Rn} {τ:Tape} {d:Nat} (hg:Rg R.fp (over H v).heap.size (over H v) w' w0.heap.size R') (V:Nat->Prop) [DecidablePred V] (hV:∀b,V b↔(H b=none/\¬R'.fp b)) (nv:Q7 w') (hR:∃na nc nts,R'={R with na:=na,nc:=nc,nts:=nts})
  (h1:gh (Yc.T2 (O3 V w') τ d) 0=t) (hgm:gm (Yc.T2 (O3 V w') τ d)=gm v) (h3:∃c,R'.cl[i]? =some c/\c.cb=cb/\((gh (Yc.T2 (O3 V w') τ d) 2=0/\c.st=false/\R'.nts=n0++tell i at_ ((Y.Q4 q t).nts.take (gh (Yc.T2 (O3 V w') τ d) 1))/\c.W1=Y.W1 q i t)\/(gh (Yc.T2 (O3 V w') τ d) 2=1/\c.st=true/\R'.nts=n0))) :
  br0 Y fb q w0 Γ X Mn ft i t at_ cb n0 R0 R' (T9 V w') (Yc.T2 (O3 V w') τ d)/\im0 v (Yc.T2 (O3 V w') τ d):=by
 obtain⟨na,nc,nts,rfl⟩:=hR;have hkb:∀b,b<(over H v).heap.size->¬R.fp b->w'.heap[b]? =(over H v).heap[b]?:=fun b hb hf=>hg.md.block b hb hf;have nx0:=h.fix.K5 hY (R':={R with na:=na,nc:=nc,nts:=nts}) (w':=w') hg.m rfl rfl rfl hg.fp rfl (fun j c hc=>⟨c,hc,rfl,rfl,fun _=>⟨rfl,rfl⟩⟩) hg.md.size (fun b hb hf _=>.inl (hkb b hb hf)) (fun z=>by cases z);have heL:=h.he.lt;have heF:¬R.fp (Γ.eb i):=(h.fix.side i h.il h.nil).2.2.2;refine⟨br0.enter hY V nx0 (fun b hb hv=>?_) nv h1 (hgm.trans h.gmq) h.atq h3 ?_ h.nil ((hkb _ heL heF).trans h.he),⟨?_,?_,?_,fun b hb=>?_⟩⟩
 ·obtain⟨h4,h5⟩:=(hV b).1 hv;rcases hb with hb|hb
  ·exact h5 hb
  ·exact h.all b (.inr hb) h4
 ·obtain⟨a,c,n,e⟩:=h.rel;exact⟨na,nc,nts,by rw[e]⟩
 ·exact hg.md.os
 ·exact hg.md.output
 ·show v.heap.size <=(O3 V w').heap.size;rw[an0,<- X4 H v];exact hg.md.size
 ·show(O3 V w').heap[b]? =v.heap[b]?;have o7:b<(over H v).heap.size:=by rw[X4];exact hb
  cases hh:H b with
  |none=>
   have hf:=h.lp1 hh;have hf':¬Rn.fp {R with na:=na,nc:=nc,nts:=nts} b:=fun z=>(hg.fp b z).elim hf.1 (Nat.not_le_of_lt o7);rw[ch0 _ ((hV b).2 ⟨hh,hf'⟩),hkb b o7 hf.1,D6 v hh]
  |some o=>
   rw[jt0 (fun z=>by rw[((hV b).1 z).1]at hh;cases hh) (Nat.lt_of_lt_of_le o7 hg.md.size),h.no b o hh]
theorem ka0 {Post:Value->World->Prop} {z0:Value} {me0:Goroutine} {st:Bool} (hY:qf0 Y) (hX0:X.S1 0=some ⟨R0.yb,z0,me0⟩) (hnt:n0.length+(Y.Q4 q t).nts.length <=1000000000)
  (H9:∀Γ' X' R' w',After Y fb q w0 Mn ft i t n0 R0 st Γ' X' R' w'->Fin prog Post X' 0 (Go.Conc.served me0 (.i (i:Int))) w') {g:Goroutine} {v:World} (hp:ad0 (Y.cfg fb q w0 i cb (Γ.top i)) g v) :
  ∀H R,br0 Y fb q w0 Γ X Mn ft i t at_ cb n0 R0 R H v->(∀c,R.cl[i]? =some c->c.st=st)->kv0 prog Post X (Γ.gi i) H g v:=by
 induction hp with
 |own hr g' u' d' hf hk ih=>
  intro H R h R2;have X9:(Γ.gi i==0)=false:=by have:=h.fg0;simp;omega
  refine po0 hr fun τ d=>⟨g' τ d,u' τ d,by rw[X9];exact hf τ d,fun he=>cu0 (ih τ d H R (h.evo hY.toLeOk ⟨he.size,he.obj⟩ rfl) R2)⟩
 |ign h0 ih=>
  intro H R h R2;exact Hl0.2 _ _ fun hv=>ih hv H R h R2
 | @number cs v hN k ih=>
  obtain⟨fn,h1,h2⟩:=hN;have h1:prog.funcs[172]? =some fn:=h1;rw[func172]at h1;cases h1;exact absurd h2 (by rw[show Tryz.f172.body.isSome=false by kernel_rfl];exact fun h=>by cases h)
 |W1 hfn=>cases hfn
 | @again cs v s rf df h2 hs k ih=>
  intro H R h R2 hH;obtain⟨c,hc,hcb,p7⟩:=h.cl;have hB:=h.fix.mem.blk i c hc;have ou0:c.st=true/\R.nts=n0:=by
   rcases p7 with p7|p7
   ·have:=p7.1;omega
   ·exact p7.2
  have X9:(Γ.gi i==0)=false:=by have:=h.fg0;simp;omega
  obtain⟨s0,rfl⟩:=hs;subst hcb;refine Ex0 (Z:=Fin prog Post X (Γ.gi i)) (by have:=@B6 prog Post X (Γ.gi i);rw[X9]at this;exact this) hB ou0.1 fun w' fr ch hb hf hr hl=>?_;refine by0 _ _ fun nv=>?_;haveI:DecidablePred fun b=>H b=none/\¬R.fp b:=fun _=>Classical.propDecidable _;have hg:Rg R.fp (over H v).heap.size (over H v) w' w0.heap.size R:=h.fix.mem.rg.j0 hb;have htp:w'.tape=v.tape:=hb.tape;obtain⟨h5,h6⟩:=h.again hY.toLeOk (τ:=w'.tape) (d:=w'.drawn) hg (fun b=>H b=none/\¬R.fp b) (fun _=>Iff.rfl) nv ⟨R.na,R.nc,R.nts,rfl⟩ ((H3 htp 0).trans h.tq) (bz0 htp) ⟨c,hc,rfl,.inr ⟨(H3 htp 2).trans h2,ou0⟩⟩;exact lb0 (fun b=>H b=none/\¬R.fp b) (ih _ fr ch h6 htp hf hr hl _ R h5 R2)
 | @note cs v kind text f hfn h2 hx k ih=>
  intro H R h R2 hH;obtain rfl:=Option.some.inj hfn;obtain⟨c,hc,hcb,p7⟩:=h.cl;have htq:=h.tq;have jh0:c.st=false/\R.nts=n0++tell i at_ ((Y.Q4 q t).nts.take (gh v 1))/\c.W1=Y.W1 q i t:=by
   rcases p7 with p7|p7
   ·exact p7.2
   ·have:=p7.1;omega
  have Q5:(Y.Q4 q t).nts[gh v 1]? =some ⟨kind,text⟩:=by rw[<- htq];exact hx
  have I1:=(List.getElem?_eq_some_iff.1 Q5).1;have hle:w0.heap.size <=(over H v).heap.size:=h.fix.size;subst hcb;refine @ca1 (j2 prog (Γ.gi i==0)) R.fp (over H v).heap.size (over H v) w0.heap.size R (over H v) h.fix.mem.rg hle i c hc jh0.1 (by
   rw[jh0.2.1];simp[tell];omega) kind text _ B6 cs fun e w' fr he hf hl=>?_
  cases e with
  |returned x=>
   obtain⟨rfl,a,n,hg⟩:=he;refine by0 _ _ fun nv=>?_;haveI:DecidablePred fun b=>H b=none/\¬Rn.fp {R with na:=a,nc:=n,nts:=R.nts ++ [(R.evs.length,i,⟨kind,text⟩)]} b:=fun _=>Classical.propDecidable _;have htp:w'.tape=v.tape:=hg.md.tape;have hg1:∀U:World,gh (Yc.T2 U (ex0 w' 1 (gh v 1+1)).tape w'.drawn) 1=gh v 1+1:=fun U=>bb1 w' 1 _;have hgn:∀(U:World) (j:Nat),j≠1->gh (Yc.T2 U (ex0 w' 1 (gh v 1+1)).tape w'.drawn) j=gh v j:=fun U j hj=>(Jc0 w' _ hj).trans (H3 htp j);obtain⟨h5,h6⟩:=h.again hY.toLeOk (τ:=(ex0 w' 1 (gh v 1+1)).tape) (d:=w'.drawn) hg (fun b=>H b=none/\¬Rn.fp {R with na:=a,nc:=n,nts:=R.nts ++ [(R.evs.length,i,⟨kind,text⟩)]} b) (fun _=>Iff.rfl) nv ⟨a,n,_,rfl⟩ ((hgn _ 0 (by decide)).trans h.tq) (funext fun j=>hgn _ (j+3) (by omega))
    ⟨c,hc,rfl,.inl ⟨(hgn _ 2 (by decide)).trans h2,jh0.1,by
     rw[hg1,jh0.2.1,h.atq,List.take_add_one,Q5];simp[tell],jh0.2.2⟩⟩
   refine lb0 (fun b=>H b=none/\¬Rn.fp {R with na:=a,nc:=n,nts:=R.nts ++ [(R.evs.length,i,⟨kind,text⟩)]} b) (cu0 (ih _ fr h6 (hgn _ 0 (by decide)) (hg1 _) ((hgn _ 2 (by decide)).trans h2) (funext fun j=>hgn _ (j+3) (by omega)) hf (Bn0 (by rw[hf];exact func74) (.inl rfl) (fun _=>rfl) hl nv) _ _ h5 R2))
  |panicked ch=>exact he.elim
  |outgrown=>exact he.elim
 | @step cs v s rf df l m F ht hs hr hdf Rdo hdo go stop ihg ihs=>
  intro H R h R2 hH;obtain⟨c,hc,hcb,p7⟩:=h.cl;have htq:=h.tq;have hn:=h.nil;have h2:gh v 2=0:=ht.on;have jh0:c.st=false/\R.nts=n0++tell i at_ ((Y.Q4 q t).nts.take (gh v 1))/\c.W1=Y.W1 q i t:=by
   rcases p7 with p7|p7
   ·exact p7.2
   ·have:=p7.1;omega
  have Zl0:(Y.Q4 q t).D2= .inl l:=by rw[<- htq];exact ht.D2
  have rh1:gh v 1=(Y.Q4 q t).nts.length:=by rw[<- htq];exact ht.nts
  have hinv:Y.Inv (Y.Q4 q t).s m v F:=by rw[<- htq];exact ht.inv
  have hck:=h.fix.ck i c hc hn;have Y7:=h.il;obtain⟨na,nc,nts,sv0⟩:=h.rel;have hyb:R.yb=R0.yb:=by rw[sv0]
  have hR0:R0.cl=R.cl:=by rw[sv0]
  have cm1:R0.evs=R.evs:=by rw[sv0]
  subst hcb hs;refine step_fin (Bs:=w0.heap.size) h.fix.mem.rg hc jh0.1 (xc0 (V9.gg0.fnV hr)) (xc0 hdf) (by have:=h.fg0;omega) (by rw[hyb];exact hX0) h.fix.dn hck.stay ⟨hck.ch,h.chs hn hc⟩ fun w' me hg hme=>?_;have hef:=(h.fix.side i Y7 hn).2.2.2;have heb:M1 w' (Γ.eb i) #[.bool false] 4 (0,0):=(hg.md.block _ h.he.lt hef).trans h.he;obtain⟨h7,h8⟩:=h.home hY hn (c':={c with sp:=Y.stp i l,rf:=rf,df:=df,wt:=true}) (ends:=R.ends) hc rfl rfl rfl hg rfl (fun k hk=>.inl hk) ⟨_,heb⟩ (fun _ _=>rfl) F ht.le hinv ⟨ht.os,ht.output⟩ (sh:=some ⟨c.rc,.bool false,me⟩) (fun s e=>by cases e;rfl) (f:=.inl l)
   (N:=fun b=>b<v.heap.size/\v.heap[b]? ≠some nothing/\¬F b) (fun b hb=>⟨hb.2.1,hb.1,hb.2.2⟩) (fun bl0=>.inr ⟨hn,rfl,jh0.1,rfl,heb,me,cs,v,m,F,Rdo,bk0,hme,hr,hdf,fun b=>by simp[Geo.oc0,Geo.put],fun b hb=>by
    have o7:b<v.heap.size/\v.heap[b]? ≠some nothing/\¬F b:=by simpa [Geo.oc0,Geo.put]using hb
    exact bl0 b o7.2.1 o7.1,ht.os,ht.output,by have:=hg.md.size;rw[X4]at this;exact this,hY.refl _ _,hdo,go,stop⟩)
  rw[<- Zl0]at h7;obtain⟨a,b,e⟩:=h8;refine H9 _ _ _ _ (.inl ⟨(R2 c hc).symm.trans jh0.1,h7,a,b,c,{c with sp:=Y.stp i l,rf:=rf,df:=df,wt:=true},by rw[hR0];exact hc,rfl,e.trans ?_⟩)
  ·rw[Zl0,show mh0 R0.ends i (Sum.inl l:Y.L ⊕ Nat)=R.ends from by rw[sv0];rfl,jh0.2.1,rh1,List.take_length,cm1,h.atq]
 | @done fr v e F hf hl hd=>
  intro H R h R2 hH;obtain⟨c,hc,hcb,p7⟩:=h.cl;have htq:=h.tq;have hn:=h.nil;have hck:=h.fix.ck i c hc hn;have Y7:=h.il;obtain⟨na,nc,nts,sv0⟩:=h.rel;have hyb:R.yb=R0.yb:=by rw[sv0]
  have hR0:R0.cl=R.cl:=by rw[sv0]
  have cm1:R0.evs=R.evs:=by rw[sv0]
  have hsd:=h.fix.side i Y7 hn;have hlen:R.ends.length=R.m:=h.fix.mem.he0;have him:i<R.ends.length:=by have:=h.fix.mem.lcl;omega
  have key:∀x:Nat,la1 c (x:Int) e->((st=false/\(Y.Q4 q t).D2= .inr x/\gh v 1=(Y.Q4 q t).nts.length/\∃m,(∀j,j≠i->Y.le j (gm v) m)/\Y.Inv (Y.Q4 q t).s m v F)\/(st=true/\x=0/\∃m,(∀j,j≠i->Y.le j (gm v) m)/\Y.Inv (Y.sAt q t) m v F))->v.os=w0.os->v.output=w0.output->Fin prog Post X (Γ.gi i) (G fr (Γ.top i)) (over H v):=by
   intro x hx hk hos gj0;have hg:Rg (fun b=>R.fp b\/b=Γ.eb i) (over H v).heap.size (over H v) (over H v) w0.heap.size R:=⟨h.fix.mem,jy0.refl _ _ _,fun k hk=>.inl (.inl hk),Nat.le_refl _⟩
   refine hck.top.leave (x:Int) hg rfl hc rfl hck.ha h.he (.inl (.inr rfl)) hx h.fg0 (by rw[hyb];exact hX0) h.fix.dn h.fix.J4 (fun w' hg' heb=>?_) (nj0 hH hl);have nq0:∀j,j≠i->(R.ends.set i (x:Int))[j]? =R.ends[j]?:=fun j hj=>by rw[List.getElem?_set_ne (Ne.symm hj)]
   have hmk:∀s m,(∀j,j≠i->Y.le j (gm v) m)->Y.Inv s m v F->_:=fun s m hm hs=>h.home hY hn (c':={c with wt:=false}) (ends:=R.ends.set i (x:Int)) hc rfl rfl rfl hg' rfl (fun k hk=>hk) heb nq0 F hm hs ⟨hos,gj0⟩ (sh:=none) (fun s e=>by cases e) (f:=.inr x) (N:=fun _=>False) (fun b hb=>hb.elim) (fun bl0=>.inr ⟨hn,rfl,by simp[him],bk0⟩);rcases hk with⟨h1,h2,h3,m,hm,h4⟩|⟨h1,h2,m,hm,h3⟩
   ·have ou0:c.st=false:=(R2 c hc).trans h1;have jh0:R.nts=n0++tell i at_ ((Y.Q4 q t).nts.take (gh v 1)):=by
     rcases p7 with p7|p7
     ·exact p7.2.2.1
     ·rw[ou0]at p7;exact absurd p7.2.1 (by decide)
    obtain⟨h7,a,b,e'⟩:=hmk _ m hm h4;rw[<- h2]at h7;refine H9 _ _ _ _ (.inl ⟨h1,h7,a,b,c,{c with wt:=false},by rw[hR0];exact hc,rfl,e'.trans ?_⟩)
    ·rw[h2,show mh0 R0.ends i (Sum.inr x:Y.L ⊕ Nat)=R.ends.set i (x:Int)from by rw[sv0];rfl,jh0,h3,List.take_length,cm1,h.atq]
   ·have ou0:c.st=true:=(R2 c hc).trans h1;have jh0:R.nts=n0:=by
     rcases p7 with p7|p7
     ·rw[ou0]at p7;exact absurd p7.2.1 (by decide)
     ·exact p7.2.2
    obtain⟨h7,a,b,e'⟩:=hmk _ m hm h3;subst h2;refine H9 _ _ _ _ (.inr ⟨h1,h7,a,b,c,{c with wt:=false},by rw[hR0];exact hc,rfl,e'.trans ?_⟩)
    ·rw[show R0.ends.set i 0=R.ends.set i ((0:Nat):Int)from by rw[sv0];rfl,jh0]
  have cn1:gh v 2=0->c.st=false:=fun z=>by rcases p7 with p7|p7;exact p7.2.1;have:=p7.1;omega
  have Ve0:gh v 2=1->c.st=true:=fun z=>by rcases p7 with p7|p7;have:=p7.1;omega;exact p7.2.1
  have io0:∀(x:Nat) m,(Y.cfg fb q w0 i cb (Γ.top i)).Told v m F (.inr x)->(st=false/\(Y.Q4 q t).D2= .inr x/\gh v 1=(Y.Q4 q t).nts.length/\∃m,(∀j,j≠i->Y.le j (gm v) m)/\Y.Inv (Y.Q4 q t).s m v F):=fun x m ht=>
   ⟨(R2 c hc).symm.trans (cn1 ht.on),by rw[<- htq];exact ht.D2,by rw[<- htq];exact ht.nts,m,ht.le,by rw[<- htq];exact ht.inv⟩
  cases e with
  |outgrown=>exact hd.elim
  |returned x=>
   rcases hd with⟨m,ht⟩|⟨h2,h3,h4,h5⟩
   ·exact key 1 (.inr ⟨cn1 ht.on,rfl⟩) (.inl (io0 1 m ht)) ht.os ht.output
   ·exact key 0 (.inl ⟨Ve0 h2,rfl⟩) (.inr ⟨(R2 c hc).symm.trans (Ve0 h2),rfl,by rw[<- htq];exact h3⟩) h4 h5
  |panicked ch=>
   obtain⟨k7,⟨m,ht⟩|⟨h2,h3,h4,h5⟩⟩:=hd
   ·exact key 2 ⟨k7,.inr ⟨cn1 ht.on,rfl⟩⟩ (.inl (io0 2 m ht)) ht.os ht.output
   ·exact key 0 ⟨k7,.inl ⟨Ve0 h2,rfl⟩⟩ (.inr ⟨(R2 c hc).symm.trans (Ve0 h2),rfl,by rw[<- htq];exact h3⟩) h4 h5
end
end
section
attribute [local irreducible] KK
def C3 {α:Type} (f:Nat->α) (i:Nat) (x:α):Nat->α:=fun j=>if j=i then x else f j
theorem B1 {α:Type} {f:Nat->α} {i:Nat} {x:α} {j:Nat} (h:j≠i):C3 f i x j=f j:=by simp[C3,h]
theorem Z0 {α:Type} {f:Nat->α} {i:Nat} {x:α}:C3 f i x i=x:=by simp[C3]
def Geo.add (Γ:Geo) (i g a e:Nat) (top:List Frame):Geo:=⟨Γ.gm,C3 Γ.gi i g,C3 Γ.ab i a,C3 Γ.eb i e,C3 Γ.top i top,C3 Γ.pv i fun _=>False⟩
def Bo0 (X:Gh) (cb rc:Nat) (s:P6):Gh :=
 {((Gh.hire {X.lower cb with pend:=1,cap:=X.cap+1,dn:=0} s).lower rc)with chs:=fun c=>X.chs c\/c=rc,stay:=Go.ConcN.upd X.stay X.n [(⟨cb,2,none⟩,.chan (some rc))]}
section
variable {Y:Sys}{fb:Nat->FuncId}{q:PR Y}{Γ:Geo}{X:Gh}{R:Rn}{w w1:World}{Mn:Nat->Option Obj}{w0:World}{ft:Nat->Option (Y.L ⊕ Nat)}{i:Nat}
theorem Z9 {α:Type} {l:List α} {x y:α} {j:Nat} (h:(l ++ [x])[j]? =some y):l[j]? =some y\/(j=l.length/\x=y):=by
 rcases Nat.lt_trichotomy j l.length with z|z|z
 ·rw[List.getElem?_append_left z]at h;exact .inl h
 ·subst z;simp at h;exact .inr ⟨rfl,h⟩
 ·rw[List.getElem?_eq_none (by simp;omega)]at h;cases h
theorem Fix.co1 (hY:LeOk Y) (h:Fix Y fb q w0 Γ X R w Mn none ft) (hn:Y.nil i=true) (hi:R.cl.length=i) {cb rc:Nat} {a:Option Addr} {n:Nat} (him:i<R.m) (hcb:w.heap.size <=cb) (hg:Rg R.fp w.heap.size w w1 w0.heap.size {R with ca:=a,cc:=n,cl:=R.cl ++ [R4 cb rc],ends:=R.ends.set i 1}) (hft:ft i=none) :
  Fix Y fb q w0 Γ (X.lower cb) {R with ca:=a,cc:=n,cl:=R.cl ++ [R4 cb rc],ends:=R.ends.set i 1} w1 Mn none (fun j=>if j=i then some (.inr 1) else ft j):=by
 have I1:∀b,b<w.heap.size->¬R.fp b->w1.heap[b]? =w.heap[b]?:=hg.md.block;have hle:∀j,j<(R.cl ++ [R4 cb rc]).length->Y.nil j=false->j<R.cl.length:=fun j hj r9=>by
  rw[List.length_append,List.length_singleton]at hj;rcases Nat.lt_or_ge j R.cl.length with z|z
  ·exact z
  ·have:j=i:=by omega
   rw[this,hn]at r9;cases r9
 have hold:∀j c,(R.cl ++ [R4 cb rc])[j]? =some c->Y.nil j=false->R.cl[j]? =some c:=fun j c hc r9=>by
  rcases Z9 hc with z|⟨z,_⟩
  ·exact z
  ·rw[z,hi,hn]at r9;cases r9
 have X3:R.ends.length=R.m:=h.mem.he0;have hfp:∀b,Rn.fp {R with ca:=a,cc:=n,cl:=R.cl ++ [R4 cb rc],ends:=R.ends.set i 1} b->R.fp b\/w.heap.size <=b:=hg.fp;have hnf:∀b,b<w.heap.size->¬R.fp b->¬Rn.fp {R with ca:=a,cc:=n,cl:=R.cl ++ [R4 cb rc],ends:=R.ends.set i 1} b:=fun b hb hf z=>(hfp b z).elim hf (Nat.not_le_of_lt hb);refine⟨hg.m,h.m,fun j c hc _=>?_,fun j c hc r9=>?_,fun b hb=>?_,fun j hj r9=>?_,fun j b hb=>?_,fun b hb=>?_,h.qd0,fun z=>hg.md.os.trans (h.os z),fun z=>hg.md.output.trans (h.output z),Nat.le_trans h.size hg.md.size,h.J4,h.no0,h.chy,fun g s hg' hs=>?_,fun j k hj hk r9 hnk=>h.Ez0 j k (hle j hj r9) (hle k hk hnk) r9 hnk,fun j k hj hk r9 hnk=>h.xb0 j k (hle j hj r9) (hle k hk hnk) r9 hnk,fun j k c d hc hd r9 hnk=>h.Jq0 j k c d (hold j c hc r9) (hold k d hd hnk) r9 hnk,fun j c hc r9=>h.ry j c (hold j c hc r9) r9,h.dn,h.pend,?_,?_,fun b hb=>h.w7 b (Nat.le_trans hg.md.size hb),h.qe0,⟨h.base.le,fun b hb=>hb.elim (h.base.low b) fun e=>by have:=h.base.le;have:=h.size;omega,h.base.pl⟩⟩
 ·rcases Z9 hc with z|⟨z,rfl⟩
  ·have hjl:=(List.getElem?_eq_some_iff.1 z).1;obtain⟨f,h1,h2⟩:=h.cl j c z (by simp);have K3:j≠i:=by omega
   refine⟨f,by simp[K3,h1],h2.K5 (Γ':=Γ) (hY.trans _) (hY.refl _ Γ.gm) (fun b hb=>I1 b (h.pv j b hb).1 (h.pv j b hb).2.1) hg.md.size (fun _=>rfl) (fun r9=>?_) rfl rfl rfl rfl (by show(R.ends.set i 1)[j]? =_;rw[List.getElem?_set_ne (Ne.symm K3)])⟩;exact I1 _ (h.ck j c z r9).he.choose_spec.lt (h.side j hjl r9).2.2.2
  ·rw[hi]at z;subst z;refine⟨.inr 1,by simp,.inl ⟨hn,rfl,rfl,?_⟩⟩;show(R.ends.set j 1)[j]? =some 1;simp[X3,him]
 ·have hc':=hold j c hc r9;have hk:=h.ck j c hc' r9;have hjl:=(List.getElem?_eq_some_iff.1 hc').1;have hs:=h.side j hjl r9;refine⟨hk.top,(I1 _ hk.ha.lt hs.2.2.1).trans hk.ha,?_,hk.fg0,hk.stay,hk.ch⟩;obtain⟨en,he⟩:=hk.he;exact⟨en,(I1 _ he.lt hs.2.2.2).trans he⟩
 ·rcases hfp b hb with z|z
  ·exact h.fpB b z
  ·exact Nat.le_trans h.size z
 ·have hjl:=hle j hj r9;have hs:=h.side j hjl r9;have hk:=h.ck j _ (List.getElem?_eq_getElem hjl) r9;exact⟨hs.1,hs.2.1,hnf _ hk.ha.lt hs.2.2.1,hnf _ hk.he.choose_spec.lt hs.2.2.2⟩
 ·have hp:=h.pv j b hb;exact⟨Nat.lt_of_lt_of_le hp.1 hg.md.size,hnf b hp.1 hp.2.1,hp.2.2.1,fun k hk hnk=>hp.2.2.2.1 k (hle k hk hnk) hnk,hp.2.2.2.2⟩
 ·have hm:=h.mn b hb;have o7:b<w.heap.size:=by
   rcases Nat.lt_or_ge b w.heap.size with z|z
   ·exact z
   ·exact absurd (hm.1.symm.trans (Array.getElem?_eq_none z)) hb
  exact⟨(I1 b o7 hm.2.1).trans hm.1,hnf b o7 hm.2.1,fun k hk hnk=>hm.2.2 k (hle k hk hnk) hnk⟩
 ·obtain⟨j,c,h1,h2⟩:=h.L4 g s hg' hs;have hjl:=(List.getElem?_eq_some_iff.1 h1).1;exact⟨j,c,by show(R.cl ++ [R4 cb rc])[j]? =some c;rw[List.getElem?_append_left hjl];exact h1,h2⟩
 ·show X.cap <=(R.cl ++ [R4 cb rc]).length;have:=h.cap;simp;omega
 ·have hu:=h.under.mono hg.md.size;have p7:cb<w1.heap.size:=(hg.m.blk i (R4 cb rc) (by show(R.cl ++ [R4 cb rc])[i]? =_;rw[<- hi];simp)).lt;exact⟨hu.stay,hu.o5,hu.chs,hu.J4,fun b hb=>by
   rcases hb with z|rfl
   ·exact hu.low b z
   ·exact p7⟩
theorem Fix.hire (hY:LeOk Y) (h:Fix Y fb q w0 Γ X R w Mn none ft) (hn:Y.nil i=false) (hi:R.cl.length=i) {cb rc P8 Z7:Nat} {a:Option Addr} {n:Nat} {top:List Frame} {s:P6} (hs:s.ch=R.yb) (hM:j5 w1 w0.heap.size {R with ca:=a,cc:=n,cl:=R.cl ++ [R4 cb rc]}) (O2:w.heap.size <=w1.heap.size) (_hos:w1.os=w.os/\w1.output=w.output)
  (I1:∀b,b<w.heap.size->¬R.fp b->w1.heap[b]? =w.heap[b]?) (hfp:∀b,Rn.fp {R with ca:=a,cc:=n,cl:=R.cl ++ [R4 cb rc]} b->R.fp b\/w.heap.size <=b) (hcb:w.heap.size <=cb) (hrc:w.heap.size <=rc/\rc<w1.heap.size) (hab:w.heap.size <=P8) (heb:w.heap.size <=Z7) (hA:M1 w1 P8 #[.p cb] 123 (0,0)) (hE:M1 w1 Z7 #[.bool false] 4 (0,0))
  (hnA:¬Rn.fp {R with ca:=a,cc:=n,cl:=R.cl ++ [R4 cb rc]} P8) (hnE:¬Rn.fp {R with ca:=a,cc:=n,cl:=R.cl ++ [R4 cb rc]} Z7) (hT:Op0 top P8 Z7 R.rb cb) :
  Fix Y fb q w0 (Γ.add i X.n P8 Z7 top) (Bo0 X cb rc s) {R with ca:=a,cc:=n,cl:=R.cl ++ [R4 cb rc]} w1 Mn (some i) ft:=by
 have hle:∀j,j<(R.cl ++ [R4 cb rc]).length->j≠i->j<R.cl.length:=fun j hj K3=>by
  rw[List.length_append,List.length_singleton]at hj;omega
 have hold:∀j c,(R.cl ++ [R4 cb rc])[j]? =some c->j≠i->R.cl[j]? =some c:=fun j c hc K3=>by
  rcases Z9 hc with z|⟨z,_⟩
  ·exact z
  ·exact absurd (z.trans hi) K3
 have E1:∀c,(R.cl ++ [R4 cb rc])[i]? =some c->c=R4 cb rc:=fun c hc=>by
  rw[<- hi]at hc;simp at hc;exact hc.symm
 have hnf:∀b,b<w.heap.size->¬R.fp b->¬Rn.fp {R with ca:=a,cc:=n,cl:=R.cl ++ [R4 cb rc]} b:=fun b hb hf z=>(hfp b z).elim hf (Nat.not_le_of_lt hb);have hgi:∀{j},j≠i->(Γ.add i X.n P8 Z7 top).gi j=Γ.gi j:=fun hj=>B1 hj;have Pg0:(Γ.add i X.n P8 Z7 top).gi i=X.n:=Z0;have Vf0:∀{j},j≠i->(Γ.add i X.n P8 Z7 top).ab j=Γ.ab j:=fun hj=>B1 hj;have Vg0:(Γ.add i X.n P8 Z7 top).ab i=P8:=Z0;have zd0:∀{j},j≠i->(Γ.add i X.n P8 Z7 top).eb j=Γ.eb j:=fun hj=>B1 hj;have Bp0:(Γ.add i X.n P8 Z7 top).eb i=Z7:=Z0;have htn:∀{j},j≠i->(Γ.add i X.n P8 Z7 top).top j=Γ.top j:=fun hj=>B1 hj;have hti:(Γ.add i X.n P8 Z7 top).top i=top:=Z0;have hpn:∀{j},j≠i->(Γ.add i X.n P8 Z7 top).pv j=Γ.pv j:=fun hj=>B1 hj;have hpi:(Γ.add i X.n P8 Z7 top).pv i=fun _=>False:=Z0;have hgn:∀j,j<R.cl.length->Y.nil j=false->Γ.gi j≠X.n:=fun j hj r9 e=>by
  have:=(h.ck j _ (List.getElem?_eq_getElem hj) r9).fg0;omega
 have S7:∀g,g≠0->(Bo0 X cb rc s).S1 g=X.S1 g:=fun g hg=>Go.ConcN.upd_ne _ _ hg;have Bq0:∀g,g≠X.n->(Bo0 X cb rc s).stay g=X.stay g:=fun g hg=>Go.ConcN.upd_ne _ _ hg;have Ph0:∀b,b<w.heap.size->(∀k,k<R.cl.length->Y.nil k=false->b≠Γ.ab k/\b≠Γ.eb k)->∀k,k<(R.cl ++ [R4 cb rc]).length->Y.nil k=false->b≠(Γ.add i X.n P8 Z7 top).ab k/\b≠(Γ.add i X.n P8 Z7 top).eb k:=fun b hb hk k hkl hnk=>by
  by_cases hki:k=i
  ·rw[hki,Vg0,Bp0];constructor <;> omega
  ·rw[Vf0 hki,zd0 hki];exact hk k (hle k hkl hki) hnk
 refine⟨hM,h.m,fun j c hc hj=>?_,fun j c hc r9=>?_,fun b hb=>?_,fun j hj r9=>?_,fun j b hb=>?_,fun b hb=>?_,Nat.succ_pos _,(fun z=>by cases z),(fun z=>by cases z),Nat.le_trans h.size O2,h.J4,?_,.inl h.chy,fun g s' hg' hs'=>?_,fun j k hj hk r9 hnk=>?_,fun j k hj hk r9 hnk=>?_,fun j k c d hc hd r9 hnk=>?_,fun j c hc r9=>?_,rfl,rfl,?_,?_,fun b hb=>h.w7 b (Nat.le_trans O2 hb),(fun z=>by cases z),⟨h.base.le,fun b hb=>?_,h.base.pl⟩⟩
 ·have K3:j≠i:=fun e=>hj (by rw[e]);have z:=hold j c hc K3;have hjl:=(List.getElem?_eq_some_iff.1 z).1;obtain⟨f,h1,h2⟩:=h.cl j c z (by simp);refine⟨f,h1,h2.K5 (Γ':=Γ.add i X.n P8 Z7 top) (hY.trans _) (hY.refl _ Γ.gm) (fun b hb=>I1 b (h.pv j b hb).1 (h.pv j b hb).2.1) O2 (fun r9=>?_) (fun r9=>?_) (zd0 K3) (hgi K3) (htn K3) (hpn K3) rfl⟩
  ·have:=(h.ck j c z r9).fg0;exact S7 _ (by omega)
  ·exact I1 _ (h.ck j c z r9).he.choose_spec.lt (h.side j hjl r9).2.2.2
 ·by_cases K3:j=i
  ·subst K3;obtain rfl:=E1 c hc;refine⟨by rw[hti,Vg0,Bp0];exact hT,by rw[Vg0];exact hA,⟨false,by rw[Bp0];exact hE⟩,⟨by rw[Pg0];exact h.qd0,by rw[Pg0];exact Nat.lt_succ_self _⟩,by rw[Pg0];exact Go.ConcN.upd_same _ _ _,.inr rfl⟩
  ·have z:=hold j c hc K3;have hk:=h.ck j c z r9;have hjl:=(List.getElem?_eq_some_iff.1 z).1;have hs:=h.side j hjl r9;refine⟨by rw[htn K3,Vf0 K3,zd0 K3];exact hk.top,by rw[Vf0 K3];exact(I1 _ hk.ha.lt hs.2.2.1).trans hk.ha,?_,⟨by rw[hgi K3];exact hk.fg0.1,by rw[hgi K3];exact Nat.lt_succ_of_lt hk.fg0.2⟩,by rw[hgi K3,Bq0 _ (hgn j hjl r9)];exact hk.stay,.inl hk.ch⟩;obtain⟨en,he⟩:=hk.he;exact⟨en,by rw[zd0 K3];exact(I1 _ he.lt hs.2.2.2).trans he⟩
 ·rcases hfp b hb with z|z
  ·exact h.fpB b z
  ·exact Nat.le_trans h.size z
 ·by_cases K3:j=i
  ·subst K3;rw[Vg0,Bp0];exact⟨Nat.le_trans h.size hab,Nat.le_trans h.size heb,hnA,hnE⟩
  ·have hjl:=hle j hj K3;have hs:=h.side j hjl r9;have hk:=h.ck j _ (List.getElem?_eq_getElem hjl) r9;rw[Vf0 K3,zd0 K3];exact⟨hs.1,hs.2.1,hnf _ hk.ha.lt hs.2.2.1,hnf _ hk.he.choose_spec.lt hs.2.2.2⟩
 ·by_cases K3:j=i
  ·subst K3;rw[hpi]at hb;exact hb.elim
  ·rw[hpn K3]at hb;have hp:=h.pv j b hb;refine⟨Nat.lt_of_lt_of_le hp.1 O2,hnf b hp.1 hp.2.1,hp.2.2.1,Ph0 b hp.1 hp.2.2.2.1,fun k hk hkp=>?_⟩;by_cases hki:k=i
   ·subst hki;rw[hpi]at hkp;exact hkp
   ·rw[hpn hki]at hkp;exact hp.2.2.2.2 k hk hkp
 ·have hm:=h.mn b hb;have o7:b<w.heap.size:=by
   rcases Nat.lt_or_ge b w.heap.size with z|z
   ·exact z
   ·exact absurd (hm.1.symm.trans (Array.getElem?_eq_none z)) hb
  exact⟨(I1 b o7 hm.2.1).trans hm.1,hnf b o7 hm.2.1,Ph0 b o7 hm.2.2⟩
 ·rw[Bq0 0 (by have:=h.qd0;omega)];exact h.no0
 ·rw[S7 g hg']at hs';obtain⟨j,c,h1,h2,h3,h4,_⟩:=h.L4 g s' hg' hs';have hjl:=(List.getElem?_eq_some_iff.1 h1).1;have K3:j≠i:=by omega
  exact⟨j,c,by show(R.cl ++ [R4 cb rc])[j]? =some c;rw[List.getElem?_append_left hjl];exact h1,h2,by rw[hgi K3];exact h3,h4,fun e=>K3 (Option.some.inj e)⟩
 ·intro e;by_cases K3:j=i <;> by_cases hki:k=i
  ·rw[K3,hki]
  ·rw[K3,Pg0,hgi hki]at e;exact absurd e.symm (hgn k (hle k hk hki) hnk)
  ·rw[hki,Pg0,hgi K3]at e;exact absurd e (hgn j (hle j hj K3) r9)
  ·rw[hgi K3,hgi hki]at e;exact h.Ez0 j k (hle j hj K3) (hle k hk hki) r9 hnk e
 ·have hlo:∀j,j<R.cl.length->Y.nil j=false->Γ.eb j<w.heap.size:=fun j hj r9=>(h.ck j _ (List.getElem?_eq_getElem hj) r9).he.choose_spec.lt;intro e;by_cases K3:j=i <;> by_cases hki:k=i
  ·rw[K3,hki]
  ·rw[K3,Bp0,zd0 hki]at e;have:=hlo k (hle k hk hki) hnk;omega
  ·rw[hki,Bp0,zd0 K3]at e;have:=hlo j (hle j hj K3) r9;omega
  ·rw[zd0 K3,zd0 hki]at e;exact h.xb0 j k (hle j hj K3) (hle k hk hki) r9 hnk e
 ·have hlo:∀j c,R.cl[j]? =some c->Y.nil j=false->c.rc<w.heap.size:=fun j c hc r9=>h.under.chs _ (h.ck j c hc r9).ch;intro e;by_cases K3:j=i <;> by_cases hki:k=i
  ·rw[K3,hki]
  ·subst K3;obtain rfl:=E1 c hc;have:=hlo k d (hold k d hd hki) hnk;have e:rc=d.rc:=e;omega
  ·subst hki;obtain rfl:=E1 d hd;have:=hlo j c (hold j c hc K3) r9;have e:c.rc=rc:=e;omega
  ·exact h.Jq0 j k c d (hold j c hc K3) (hold k d hd hki) r9 hnk e
 ·by_cases K3:j=i
  ·subst K3;obtain rfl:=E1 c hc;have:=h.under.chs _ h.chy;show rc≠R.yb;omega
  ·exact h.ry j c (hold j c hc K3) r9
 ·show X.cap+1 <=(R.cl ++ [R4 cb rc]).length;have:=h.cap;simp;omega
 ·have hu:=h.under.mono O2;have p7:cb<w1.heap.size:=(hM.blk i (R4 cb rc) (by show(R.cl ++ [R4 cb rc])[i]? =_;rw[<- hi];simp)).lt;refine⟨fun g p hp=>?_,hu.o5,fun b hb=>?_,hu.J4,fun b hb=>?_⟩
  ·by_cases hg:g=X.n
   ·subst hg;have hp':p∈Go.ConcN.upd X.stay X.n [((⟨cb,2,none⟩:Addr),Value.chan (some rc))] X.n:=hp;rw[Go.ConcN.upd_same]at hp';simp at hp';rw[hp'];exact p7
   ·rw[Bq0 g hg]at hp;exact hu.stay g p hp
  ·rcases hb with z|rfl
   ·exact hu.chs b z
   ·exact hrc.2
  ·rcases hb with(z|rfl)|rfl
   ·exact hu.low b z
   ·exact p7
   ·exact hrc.2
 ·have h1:=h.base.le;have h2:=h.size;rcases hb with(z|rfl)|rfl
  ·exact h.base.low b z
  ·omega
  ·omega
end
end
end Go.Vy.Sc
end
