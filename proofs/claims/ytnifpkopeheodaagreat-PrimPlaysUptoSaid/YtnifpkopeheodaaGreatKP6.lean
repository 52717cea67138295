/- What the claim leans on, part 6. Laws. -/
import Derived.Test.YtnifpkopeheodaaGreatKP5
import Derived.Conc.LeavingOf
import Derived.JoinedCond
import Derived.Deep.CondSized
set_option linter.unusedVariables false
section
namespace Go.Vy
open Go Go.Conc
theorem Gq0 {H:Type} {enc:TypeId×Value->H} {a:Assume} {C:Checked} {os:Os} {f:FuncId} {fn:Func} {s:OpenSpec} {k:(H:Type)->List (DataW H)->Bool} (hk:s.cond=some k) {F:Stop.Interp} {conds:List PathCond} {apart fresh handsOn again:Bool}
  (own:ownKnob C.prog.godebug=none) (started:os.Started) (hfn:C.prog.funcs[f]? =some fn)
  (wit:∃(w:World) (tape:Tape) (i:Input),w.os=os/\(w.forCall tape i).Shaped C.prog/\i.vars=[]/\Input.okWide C.prog (w.forCall tape i) .any w.heap.size f i/\s.pre6 enc C.prog fn conds apart (w.forCall tape i).memory i.args/\a.holds C.prog (lone (Frame.enter C.prog f i.args .normal) [] (w.forCall tape i)))
  (runs:∀(W:World) (base:Nat) (args:Array Value) (ds gs:List (DataW H)) (before:List MemPlace),(∀(j:Nat) t v,fn.params[j]? =some t->args[j]? =some v->Value.okWide C.prog W .any base t v)->DataW.Whole enc C.prog fn.params.toList s.vars apart W args.toList ds gs before->k H (ds++gs)=true ->
   ∃M last o w' t',runNT C.prog (M+1) (solo (G (Frame.enter C.prog f args .normal) []) W) #[]=(.ended o w',t')/\runN C.prog M (solo (G (Frame.enter C.prog f args .normal) []) W)= .next last/\step C.prog last= .ended o w'/\Conc.Good C.prog (fun v W'=>(s.at F).post enc C.prog fn apart fresh handsOn again W args v W') last o w' t') :
  ReturnsInLeavingWide a C os f .any (s.pre6 enc C.prog fn conds apart) ((s.at F).post enc C.prog fn apart fresh handsOn again):=by
 refine returnsInLeavingWide_of_good own started wit fun w tape i _ _ _ hok nh1 _=>?_;obtain⟨_,_,_,fn',ho1,_,_,_,_,ni1⟩:=hok;rw[hfn]at ho1;obtain rfl:=Option.some.inj ho1;obtain⟨ds,gs,before,hw,_,hkk⟩:=(OpenSpec.pre_some hk conds apart _ _).1 nh1.1;obtain⟨M,last,o,w',t',h1,h2,h3,h4⟩:=runs (w.forCall tape i) w.heap.size i.args ds gs before ni1 (DataW.Whole.of_heap (w':=w.forCall tape i) (by rfl) hw) hkk;exact⟨M,last,o,w',t',h1,h2,h3,h4.mono fun v hp=>ChangeSpec.post_blind hp⟩
theorem Cx0 {p:Pinned} {s:OpenSpec} {c:OpenClaim} (f:FuncId) (fn:Func) (hn:c.program=p.name) (hs:c.sum=p.sum) (hsp:c.spec=s.name) (hstart:c.start= .entering) (bk0:c.outside=[]) (hin:c.inits=[]) (hun:c.under=none)
  (hi4:c.initsInPlace=[]/\c.initsUnfollowed=false/\c.initsRecurse=false/\c.initsNamed=[]/\c.initsPassed=[]) (hnb:c.noBlocks=false) (hlv:c.leaving=true) (hfo:c.followed=none) (nj1:c.narrowed=s.cond.isSome) (Zs0:c.still=false)
  (hfn:p.checked.prog.funcNamed c.func=some f) (hf:p.checked.prog.funcs[f]? =some fn) (closed:joinedFacts p.checked.prog f fn s.bare c=true) (hp1:fn.isInstance p.checked.prog c.origin c.targs) (hr1:fn.isWrapper p.checked.prog c.wrapper c.mainSum)
  (h:∀os:Os,os.Started->∀(H:Type) (enc:TypeId×Value->H),(∀a b,enc a=enc b->a=b)->∀F:Stop.Interp,ReturnsInLeavingWide c.assume p.checked os f .any (c.pre enc p.checked.prog fn s) ((s.at F).post enc p.checked.prog fn c.apart c.fresh c.handsOn c.again)):c.holds p s:=by
 simp only[joinedFacts,Bool.and_eq_true,beq_iff_eq,Array.all_eq_true_iff_forall_mem,List.all_eq_true,decide_eq_true_eq]at closed;obtain⟨⟨⟨⟨⟨⟨⟨⟨⟨⟨⟨⟨⟨⟨⟨⟨⟨⟨⟨⟨⟨⟨⟨⟨⟨⟨⟨⟨⟨⟨⟨q1,q2⟩,q3⟩,q4⟩,q5⟩,q6⟩,q7⟩,q8⟩,q9⟩,q10⟩,q11⟩,q12⟩,q13⟩,q14⟩,q15⟩,q16⟩,q17⟩,nk1⟩,q18⟩,q19⟩,q20⟩,q21⟩,q22⟩,q23⟩,nl1⟩,q24⟩,nm1⟩,nn1⟩,q25⟩,q26⟩,q27⟩,q28⟩:=closed;have hq:∀os:Os,Stop.quiet p.checked.prog os:=fun os k hk=>by rw[q9]at hk;cases hk
 have hex:∃os:Os,c.world os/\Stop.quiet p.checked.prog os:=⟨_,by unfold OpenClaim.world;rw[bk0,hstart];exact WideRow.started_initial,hq _⟩
 refine⟨q1,hn,hs,hsp,q2,q3,?_,?_,f,fn,hfn,hf,⟨q4,q19⟩,(fun hb=>by rw[hnb]at hb;cases hb),?_,hp1,hr1,q6.trans q7.symm,⟨q8.trans q9.symm,?_,nl1⟩,q10,q11,q12,q13,q14,⟨q15,q27,q28⟩,⟨q16,q20⟩,⟨q17,q21,q25,q26⟩,⟨q22,nm1,nn1,nk1⟩,?_,fun n hn'=>varReadable_some (q18 n hn'),hex,[],?_,fun os st _ H enc inj=>?_⟩
 ·unfold OpenClaim.startFits;rw[hstart];exact q24
 ·unfold OpenClaim.startTold;rw[hstart];exact⟨hin,hun,hi4⟩
 ·unfold OpenClaim.namedList;rw[hfo];exact q5
 ·unfold Program.envWorded;rw[q9];rfl
 ·rw[bk0,nj1];cases hsh:c.shortTexts with
  |none=>simp
  |some _=>rw[hsh]at q23;cases q23
 ·unfold OpenClaim.lists;rw[hfo]
 ·have st':os.Started:=by unfold OpenClaim.world at st;rw[bk0,hstart]at st;exact st
  rw[OpenClaim.post_not_still Zs0];unfold OpenClaim.form;rw[hstart,q6];intro F;have e1:c.okInput=Input.okWide:=by unfold OpenClaim.okInput;rw[hnb]
  have e2:c.atReturn p.checked.prog=leavingAtReturn p.checked.prog:=by unfold OpenClaim.atReturn;rw[hlv]
  have e3:c.always p.checked.prog []=nothingAlways:=by unfold OpenClaim.always;rw[hfo]
  have e4:s.post enc p.checked.prog fn F c.outside c.apart c.fresh c.handsOn c.again=(s.at F).post enc p.checked.prog fn c.apart c.fresh c.handsOn c.again:=by rw[bk0];rfl
  rw[e1,e2,e3];show ReturnsInOpen _ _ _ _ _ _ _ _ (s.post enc p.checked.prog fn F c.outside c.apart c.fresh c.handsOn c.again) _ _;rw[e4];exact h os st' H enc inj F q24
end Go.Vy
end
section
namespace Go.Vy.Sc
open Go Go.Conc Go.Yc Go.RowKit Go.Proofs Go.Proofs.YtnifpkopeheodaaGreat Tryz
open Go.Vc Go.Wg Go.ChangeShapes Go.WideShapes Go.ChangeAt Go.Deep
theorem Nt0 {H:Type} (d:DataW H):1 <=Rows.uptoBulk d:=by
 cases d with
 |lit l=>cases l <;> simp[Rows.uptoBulk]
 |_=>simp[Rows.uptoBulk]
theorem vl0 {H:Type} {d:DataW H}:∀{l:List (DataW H)},d∈l->Rows.uptoBulk d <=Rows.uptoBulkAll l
 |x::r,h=>by
  simp only[Rows.uptoBulkAll];rcases List.mem_cons.1 h with rfl|h
  ·omega
  ·have:=vl0 h;omega
theorem Ak0 {H:Type}:∀(l:List (DataW H)),l.length <=Rows.uptoBulkAll l
 | []=>Nat.zero_le _
 |x::r=>by
  have:=Nt0 x;have:=Ak0 r;simp only[Rows.uptoBulkAll,List.length_cons];omega
theorem Zt0 {H:Type} {l:List (DataW H)} (h:Rows.uptoSmall H l=true):Rows.uptoBulkAll l <=1048576:=of_decide_eq_true h
section
variable {H:Type}{enc:TypeId×Value->H}{W:World}{base:Nat}{spare:Nat->Bool}{held:Bool}{P:Program}
theorem pa0 {t e:TypeId} {s:Nat} {a:Option Addr} {len cap fuel:Nat} {x:DataW H×List MemPlace} (ht:P.underlying t=some (.slice e)) (hs:P.cellsOf e=s) (h0:0<s) (h:DataW.trod enc P W base spare held fuel t [.slice a len cap]=some x) :
  SL a len/\(a=none->len=0/\cap=0)/\(len <=cap/\len <=Rows.uptoBulk x.1)/\∃n,∀i,i<len->∃cs y,Rows.uptoBulk y.1 <=Rows.uptoBulk x.1/\cs.length=s/\(∀(j:Nat) v,cs[j]? =some v->W.cell? ⟨ab a,ao a+i*s+j,none⟩=some v)/\DataW.trod enc P W base spare held n e cs=some y:=by
 rcases open_slice ht h with⟨hcs,_⟩|⟨ad,l,c,m,n,D,Pl,hcs,hb,hl,hm,hmm,hx,hi⟩
 ·simp at hcs;obtain⟨rfl,rfl,rfl⟩:=hcs;exact⟨SL.zero _,fun _=>⟨rfl,rfl⟩,⟨Nat.le_refl _,Nat.zero_le _⟩,0,fun i hi=>absurd hi (Nat.not_lt_zero _)⟩
 ·simp at hcs;obtain⟨rfl,rfl,rfl⟩:=hcs;have hlm:len <=m:=by rw[hmm];split <;> omega
  have hbk:Rows.uptoBulkAll ((List.range len).map D) <=Rows.uptoBulk x.1:=by
   rw[hx];simp only[Rows.uptoBulk];omega
  have hE:∀i,i<len->∃cs y,Rows.uptoBulk y.1 <=Rows.uptoBulk x.1/\cs.length=s/\(∀(j:Nat) v,cs[j]? =some v->W.cell? ((ad.add (i*s)).add j)=some v)/\DataW.trod enc P W base spare held n e cs=some y:=fun i x7=>by
   obtain⟨cs,h1,h2⟩:=hi i (by omega);rw[hs]at h1;obtain⟨_,h4,h3⟩:=World.cells?_some h1;refine⟨cs,_,Nat.le_trans (vl0 (List.mem_map.2 ⟨i,by simpa using x7,rfl⟩)) hbk,h4,fun j v hj=>?_,h2⟩;have:j<s:=by rw[<- h4];exact(List.getElem?_eq_some_iff.1 hj).1
   rw[h3 j this];exact hj
  have hsp:0<len->ad=⟨ad.block,ad.off,none⟩:=fun hl0=>by
   obtain⟨cs,y,_,h1,h2,_⟩:=hE 0 hl0;obtain⟨v,hv⟩:∃v,cs[0]? =some v:=⟨_,List.getElem?_eq_getElem (by omega)⟩
   have:=h2 0 v hv;rw[Nat.zero_mul]at this;have e1:(ad.add 0).add 0=ad:=by simp[Addr.add]
   rw[e1]at this;obtain⟨b,o,sp⟩:=ad;cases sp with
   |none=>rfl
   |some sp=>unfold World.cell? at this;simp at this;split at this <;> simp at this
  refine⟨fun hl0=>by rw[hsp hl0];rfl,(fun h=>by cases h),⟨hl,?_⟩,n,fun i x7=>?_⟩
  ·have:=Ak0 ((List.range len).map D);rw[List.length_map,List.length_range]at this;omega
  ·obtain⟨cs,y,h5,h1,h2,h3⟩:=hE i x7;refine⟨cs,y,h5,h1,fun j v hj=>?_,h3⟩;have:=h2 j v hj;rw[hsp (by omega),Addr.add_lit,Addr.add_lit]at this;exact this
end
section
variable {H:Type}{enc:TypeId×Value->H}{W:World}{base:Nat}{spare:Nat->Bool}{held:Bool}
theorem Al0:prog.cellsOf 52=4:=by kernel_rfl
theorem Nu0:prog.cellsOf 2=1:=by kernel_rfl
theorem Go0:prog.cellsOf 50=1:=by kernel_rfl
theorem no1 {α:Type}:∀{cs:List α},cs.length=4->∃a b c d,cs=[a,b,c,d]
 | [a,b,c,d],_=>⟨a,b,c,d,rfl⟩
instance:Inhabited O1:=⟨⟨0,0,0,0⟩⟩
set_option maxRecDepth 100000 in
theorem Gp0 {n:Nat} {cs:List Value} {x:DataW H×List MemPlace} (h:DataW.trod enc prog W base spare held n 52 cs=some x):∃o:O1,cs=re0 o:=by
 obtain⟨m,hl,hf⟩:=Bx0 underlying52 h;rw[Al0]at hl;obtain⟨v0,v1,v2,v3,rfl⟩:=no1 hl;obtain⟨y0,h0⟩:∃y,DataW.trod enc prog W base spare held m 3 (([v0,v1,v2,v3].drop 0).take (prog.cellsOf 3))=some y:=hf 0 _ rfl;obtain⟨y1,h1⟩:∃y,DataW.trod enc prog W base spare held m 3 (([v0,v1,v2,v3].drop 1).take (prog.cellsOf 3))=some y:=hf 1 _ rfl;obtain⟨y2,h2⟩:∃y,DataW.trod enc prog W base spare held m 3 (([v0,v1,v2,v3].drop 2).take (prog.cellsOf 3))=some y:=hf 2 _ rfl;obtain⟨y3,h3⟩:∃y,DataW.trod enc prog W base spare held m 2 (([v0,v1,v2,v3].drop 3).take (prog.cellsOf 2))=some y:=hf 3 _ rfl;rw[zn0]at h0 h1 h2;rw[Nu0]at h3;obtain⟨z0,g0,_⟩:=DataW.trod_int underlying3 h0;obtain⟨z1,g1,_⟩:=DataW.trod_int underlying3 h1;obtain⟨z2,g2,_⟩:=DataW.trod_int underlying3 h2;obtain⟨z3,g3,_⟩:=DataW.trod_int underlying2 h3;refine⟨⟨z0,z1,z2,z3⟩,?_⟩;simp at g0 g1 g2 g3;rw[g0,g1,g2,g3];rfl
theorem Sl0 {n len cap:Nat} {a:Option Addr} {x:DataW H×List MemPlace} (h:DataW.trod enc prog W base spare held n 50 [.slice a len cap]=some x) (hx:Rows.uptoBulk x.1 <=1048576):∃l:List O1,l.length=len/\SL a len/\len <=1048576/\(∀(k:Nat) (o:O1),l[k]? =some o->∀(j:Nat) (v:Value),(re0 o)[j]? =some v->W.cell? ⟨ab a,ao a+k*4+j,none⟩=some v):=by
 obtain⟨h1,_,⟨_,h2⟩,m,h3⟩:=pa0 underlying50 Al0 (by decide) h;obtain⟨f,hf⟩:=of0 (α:=O1) (n:=len) (p:=fun i o=>∀(j:Nat) (v:Value),(re0 o)[j]? =some v->W.cell? ⟨ab a,ao a+i*4+j,none⟩=some v) fun i hi=>by
  obtain⟨cs,y,g0,_,g2,g3⟩:=h3 i hi;obtain⟨o,rfl⟩:=Gp0 g3;exact⟨o,g2⟩
 refine⟨(List.range len).map f,by simp,h1,by omega,fun k o hk=>?_⟩;have hkl:k<len:=by
  have:=(List.getElem?_eq_some_iff.1 hk).1;simpa using this
 simp[hkl]at hk;rw[<- hk];exact hf k hkl
theorem Sm0 {a:Option Addr} {len cap:Nat} {d:DataW H} {p:List MemPlace} (h:DataW.Trod enc prog W base spare held 23 (.slice a len cap) d p) (hd:Rows.uptoBulk d <=1048576):∃sc,od0 (ev0 W) a len cap sc/\len <=1048576:=by
 obtain⟨fuel,hf⟩:=h;obtain⟨h1,h2,h4,n,h3⟩:=pa0 underlying23 zn0 Nat.one_pos (show DataW.trod enc prog W base spare held fuel 23 [.slice a len cap]=_ from hf);have h4c:=h4.1;have h4:len <=Rows.uptoBulk d:=h4.2;obtain⟨sc,hsc⟩:=of0 (α:=Int) (n:=len) (p:=fun i z=>W.cell? ⟨ab a,ao a+i*1,none⟩=some (.int .i64 z)) fun i hi=>by
  obtain⟨cs,y,_,_,g2,g3⟩:=h3 i hi;obtain⟨z,rfl,_⟩:=DataW.trod_int underlying3 g3;exact⟨z,g2 0 _ rfl⟩
 exact⟨sc,⟨h1,h2,h4c,fun j hj=>km0 (hsc j hj)⟩,by omega⟩
theorem Sn0 {a:Option Addr} {len cap:Nat} {d:DataW H} {p:List MemPlace} (h:DataW.Trod enc prog W base spare held 22 (.slice a len cap) d p) (hd:Rows.uptoBulk d <=1048576):∃bo oa oc,A7 (ev0 W) a len bo oa oc/\len <=1048576/\∀i,len <=i->bo i=[]:=by
 obtain⟨fuel,hf⟩:=h;obtain⟨h1,h2,h4,n,h3⟩:=pa0 underlying22 Go0 Nat.one_pos (show DataW.trod enc prog W base spare held fuel 22 [.slice a len cap]=_ from hf);have h4c:=h4.1;have h4:len <=Rows.uptoBulk d:=h4.2;obtain⟨F,hF⟩:=of0 (α:=List O1×Option Addr×Nat) (n:=len) (p:=fun i z=>W.cell? ⟨ab a,ao a+i*1,none⟩=some (.slice z.2.1 z.1.length z.2.2)/\SL z.2.1 z.1.length/\z.1.length <=1048576/\∀(k:Nat) (o:O1),z.1[k]? =some o->∀(j:Nat) (v:Value),(re0 o)[j]? =some v->W.cell? ⟨ab z.2.1,ao z.2.1+k*4+j,none⟩=some v) fun i hi=>by
  obtain⟨cs,y,g0,g1,g2,g3⟩:=h3 i hi;have g0:Rows.uptoBulk y.1 <=Rows.uptoBulk d:=g0;have hcs:∃a' Zu0 So0,cs=[.slice a' Zu0 So0]:=by
   rcases DataW.trod_slice underlying50 g3 with⟨h0,_⟩|⟨a',Zu0,So0,_,_,_,_,h0,_⟩
   ·exact⟨_,_,_,h0⟩
   ·exact⟨_,_,_,h0⟩
  obtain⟨a',Zu0,So0,rfl⟩:=hcs;obtain⟨l,rfl,q1,q2,q3⟩:=Sl0 g3 (by omega);exact⟨(l,a',So0),g2 0 _ rfl,q1,q2,q3⟩
 refine⟨fun i=>if i<len then(F i).1 else [],fun i=>(F i).2.1,fun i=>(F i).2.2,⟨h1,fun i hi=>?_,fun i hi=>?_,fun i hi=>?_⟩,by omega,fun i hi=>if_neg (by omega)⟩
 ·show(ev0 W).cell? _=some (.slice _ (if i<len then(F i).1 else []).length _);rw[if_pos hi];exact km0 (hF i hi).1
 ·show gy0 (ev0 W) _ (if i<len then(F i).1 else []);rw[if_pos hi];exact⟨(hF i hi).2.1,fun k o ho j v hv=>km0 ((hF i hi).2.2.2 k o ho j v hv)⟩
 ·show(if i<len then(F i).1 else []).length <=_;rw[if_pos hi];exact(hF i hi).2.2.1
end
end Go.Vy.Sc
end
