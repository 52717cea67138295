/- What the claim leans on, part 6. Laws. -/
import Derived.Test.YtinppmaojmdmhaaGreatKF5
import Derived.Conc.LeavingOf
import Derived.JoinedCond
import Derived.Deep.CondSized
set_option linter.unusedVariables false
set_option maxHeartbeats 4000000
section
namespace Go.Vy
open Go Go.Conc
theorem Qz0{H:Type}{enc:TypeId×Value->H}{a:Assume}{C:Checked}{os:Os}{f:FuncId}{fn:Func}{s:OpenSpec}{k:(H:Type)->List (DataW H)->Bool}(hk:s.cond=some k){F:Stop.Interp}{conds:List PathCond}{apart fresh handsOn again:Bool}
  (own:ownKnob C.prog.godebug=none) (started:os.Started) (hfn:C.prog.funcs[f]? =some fn)
  (wit:∃(w:World) (tape:Tape) (i:Input),w.os=os/\(w.forCall tape i).Shaped C.prog/\i.vars=[]/\Input.okWide C.prog (w.forCall tape i) .any w.heap.size f i/\s.pre6 enc C.prog fn conds apart (w.forCall tape i).memory i.args/\a.holds C.prog (lone (Frame.enter C.prog f i.args .normal) [] (w.forCall tape i)))
  (runs:∀(W:World)(base:Nat)(args:Array Value)(ds gs:List (DataW H))(before:List MemPlace),(∀(j:Nat) t v,fn.params[j]? =some t->args[j]? =some v->Value.okWide C.prog W .any base t v)->DataW.Whole enc C.prog fn.params.toList s.vars apart W args.toList ds gs before->k H (ds++gs)=true ->
   ∃M last o w' t',runNT C.prog (M+1) (solo (G (Frame.enter C.prog f args .normal) []) W) #[]=(.ended o w',t')/\runN C.prog M (solo (G (Frame.enter C.prog f args .normal) []) W)= .next last/\step C.prog last= .ended o w'/\Conc.Good C.prog (fun v W'=>(s.at F).post enc C.prog fn apart fresh handsOn again W args v W') last o w' t') :
  ReturnsInLeavingWide a C os f .any (s.pre6 enc C.prog fn conds apart) ((s.at F).post enc C.prog fn apart fresh handsOn again):=by
 refine returnsInLeavingWide_of_good own started wit fun w tape i _ _ _ hok ec1 _=>?_;obtain⟨_,_,_,fn',vw1,_,_,_,_,Am1⟩:=hok;rw[hfn]at vw1;obtain rfl:=Option.some.inj vw1;obtain⟨ds,gs,before,hw,_,hkk⟩:=(OpenSpec.pre_some hk conds apart _ _).1 ec1.1;obtain⟨M,last,o,w',t',h1,h2,h3,h4⟩:=runs (w.forCall tape i) w.heap.size i.args ds gs before Am1 (DataW.Whole.of_heap (w':=w.forCall tape i) (by rfl) hw) hkk;exact⟨M,last,o,w',t',h1,h2,h3,h4.mono fun v hp=>ChangeSpec.post_blind hp⟩
theorem Ky0{p:Pinned}{s:OpenSpec}{c:OpenClaim}(f:FuncId)(fn:Func)(hn:c.program=p.name)(hs:c.sum=p.sum)(hsp:c.spec=s.name)(hstart:c.start= .entering)(lo0:c.outside=[])(hin:c.inits=[])(hun:c.under=none)
  (hi4:c.initsInPlace=[]/\c.initsUnfollowed=false/\c.initsRecurse=false/\c.initsNamed=[]/\c.initsPassed=[]) (hnb:c.noBlocks=false) (hlv:c.leaving=true) (hfo:c.followed=none) (An1:c.narrowed=s.cond.isSome) (np1:c.still=false)
  (hfn:p.checked.prog.funcNamed c.func=some f) (hf:p.checked.prog.funcs[f]? =some fn) (closed:joinedFacts p.checked.prog f fn s.bare c=true) (vx1:fn.isInstance p.checked.prog c.origin c.targs) (vy1:fn.isWrapper p.checked.prog c.wrapper c.mainSum)
  (h:∀os:Os,os.Started->∀(H:Type)(enc:TypeId×Value->H),(∀a b,enc a=enc b->a=b)->∀F:Stop.Interp,ReturnsInLeavingWide c.assume p.checked os f .any (c.pre enc p.checked.prog fn s) ((s.at F).post enc p.checked.prog fn c.apart c.fresh c.handsOn c.again)):c.holds p s:=by
 simp only[joinedFacts,Bool.and_eq_true,beq_iff_eq,Array.all_eq_true_iff_forall_mem,List.all_eq_true,decide_eq_true_eq]at closed;obtain⟨⟨⟨⟨⟨⟨⟨⟨⟨⟨⟨⟨⟨⟨⟨⟨⟨⟨⟨⟨⟨⟨⟨⟨⟨⟨⟨⟨⟨⟨⟨q1,q2⟩,q3⟩,q4⟩,q5⟩,q6⟩,q7⟩,q8⟩,q9⟩,q10⟩,q11⟩,q12⟩,q13⟩,q14⟩,q15⟩,q16⟩,q17⟩,Ao1⟩,q18⟩,q19⟩,q20⟩,q21⟩,q22⟩,q23⟩,Ap1⟩,q24⟩,Aq1⟩,Ar1⟩,q25⟩,q26⟩,q27⟩,q28⟩:=closed;have hq:∀os:Os,Stop.quiet p.checked.prog os:=fun os k hk=>by rw[q9]at hk;cases hk
 have hex:∃os:Os,c.world os/\Stop.quiet p.checked.prog os:=⟨_,by unfold OpenClaim.world;rw[lo0,hstart];exact WideRow.started_initial,hq _⟩
 refine⟨q1,hn,hs,hsp,q2,q3,?_,?_,f,fn,hfn,hf,⟨q4,q19⟩,(fun hb=>by rw[hnb]at hb;cases hb),?_,vx1,vy1,q6.trans q7.symm,⟨q8.trans q9.symm,?_,Ap1⟩,q10,q11,q12,q13,q14,⟨q15,q27,q28⟩,⟨q16,q20⟩,⟨q17,q21,q25,q26⟩,⟨q22,Aq1,Ar1,Ao1⟩,?_,fun n hn'=>varReadable_some (q18 n hn'),hex,[],?_,fun os st _ H enc inj=>?_⟩
 ·unfold OpenClaim.startFits;rw[hstart];exact q24
 ·unfold OpenClaim.startTold;rw[hstart];exact⟨hin,hun,hi4⟩
 ·unfold OpenClaim.namedList;rw[hfo];exact q5
 ·unfold Program.envWorded;rw[q9];rfl
 ·rw[lo0,An1];cases R9:c.shortTexts with
  |none=>simp
  |some _=>rw[R9]at q23;cases q23
 ·unfold OpenClaim.lists;rw[hfo]
 ·have st':os.Started:=by unfold OpenClaim.world at st;rw[lo0,hstart]at st;exact st
  rw[OpenClaim.post_not_still np1];unfold OpenClaim.form;rw[hstart,q6];intro F;have e1:c.okInput=Input.okWide:=by unfold OpenClaim.okInput;rw[hnb]
  have e2:c.atReturn p.checked.prog=leavingAtReturn p.checked.prog:=by unfold OpenClaim.atReturn;rw[hlv]
  have e3:c.always p.checked.prog []=nothingAlways:=by unfold OpenClaim.always;rw[hfo]
  have e4:s.post enc p.checked.prog fn F c.outside c.apart c.fresh c.handsOn c.again=(s.at F).post enc p.checked.prog fn c.apart c.fresh c.handsOn c.again:=by rw[lo0];rfl
  rw[e1,e2,e3];show ReturnsInOpen _ _ _ _ _ _ _ _ (s.post enc p.checked.prog fn F c.outside c.apart c.fresh c.handsOn c.again) _ _;rw[e4];exact h os st' H enc inj F q24
end Go.Vy
end
section
namespace Go.Vy.Sc
open Go Go.Conc Go.Yc Go.RowKit Go.Proofs Go.Proofs.YtinppmaojmdmhaaGreat Tryz
open Go.Vc Go.Wg Go.ChangeShapes Go.WideShapes Go.ChangeAt Go.Deep
theorem Yz0{H:Type}(d:DataW H):1 <=Rows.uptoBulk d:=by
 cases d with
 |lit l=>cases l <;> simp[Rows.uptoBulk]
 |_=>simp[Rows.uptoBulk]
theorem pi0{H:Type}{d:DataW H}:∀{l:List (DataW H)},d∈l->Rows.uptoBulk d <=Rows.uptoBulkAll l
 |x::r,h=>by
  simp only[Rows.uptoBulkAll];rcases List.mem_cons.1 h with rfl|h
  ·omega
  ·have:=pi0 h;omega
theorem Hz0{H:Type}:∀(l:List (DataW H)),l.length <=Rows.uptoBulkAll l
 | []=>Nat.zero_le _
 |x::r=>by
  have:=Yz0 x;have:=Hz0 r;simp only[Rows.uptoBulkAll,List.length_cons];omega
theorem nq1{H:Type}{l:List (DataW H)}(h:Rows.uptoSmall H l=true):Rows.uptoBulkAll l <=1048576:=of_decide_eq_true h
section
variable{H:Type}{enc:TypeId×Value->H}{W:World}{base:Nat}{spare:Nat->Bool}{held:Bool}{P:Program}
section
variable{t:TypeId}{fuel:Nat}{x:DataW H×List MemPlace}
theorem qk0{fs:Array Field}{cs:List Value}(ht:P.underlying t=some (.struct fs))(h:DataW.trod enc P W base spare held fuel t cs=some x):∃m,cs.length=P.cellsOf t/\∀(j:Nat) f,fs[j]? =some f->∃y,Rows.uptoBulk y.1 <=Rows.uptoBulk x.1/\DataW.trod enc P W base spare held m f.type ((cs.drop f.offset).take (P.cellsOf f.type))=some y:=by
 obtain⟨xs,m,_,hx,hl,hxl,hf⟩:=DataW.trod_struct ht h;refine⟨m,hl,fun j f hj=>?_⟩;have hjl:j<xs.length:=by rw[hxl];exact(Array.getElem?_eq_some_iff.1 hj).1
 refine⟨xs[j],?_,by rw[hf j f hj];exact List.getElem?_eq_getElem hjl⟩;rw[hx];have h1:Rows.uptoBulk xs[j].1 <=Rows.uptoBulkAll (xs.map (·.1)):=pi0 (List.mem_map.2 ⟨xs[j],List.getElem_mem hjl,rfl⟩);simp only[Rows.uptoBulk];omega
theorem uj0{e:TypeId}{s:Nat}{a:Option Addr}{len cap:Nat}(ht:P.underlying t=some (.slice e))(hs:P.cellsOf e=s)(h0:0<s)(h:DataW.trod enc P W base spare held fuel t [.slice a len cap]=some x):SL a len/\(a=none->len=0/\cap=0)/\(len <=cap/\len <=Rows.uptoBulk x.1)/\∃n,∀i,i<len->∃cs y,Rows.uptoBulk y.1 <=Rows.uptoBulk x.1/\cs.length=s/\(∀(j:Nat) v,cs[j]? =some v->W.cell? ⟨ab a,ao a+i*s+j,none⟩=some v)/\DataW.trod enc P W base spare held n e cs=some y:=by
 rcases open_slice ht h with⟨hcs,_⟩|⟨ad,l,c,m,n,D,Pl,hcs,hb,hl,hm,hmm,hx,hi⟩
 ·simp at hcs;obtain⟨rfl,rfl,rfl⟩:=hcs;exact⟨SL.zero _,fun _=>⟨rfl,rfl⟩,⟨Nat.le_refl _,Nat.zero_le _⟩,0,fun i hi=>absurd hi (Nat.not_lt_zero _)⟩
 ·simp at hcs;obtain⟨rfl,rfl,rfl⟩:=hcs;have hlm:len <=m:=by rw[hmm];split <;> omega
  have hbk:Rows.uptoBulkAll ((List.range len).map D) <=Rows.uptoBulk x.1:=by
   rw[hx];simp only[Rows.uptoBulk];omega
  have hE:∀i,i<len->∃cs y,Rows.uptoBulk y.1 <=Rows.uptoBulk x.1/\cs.length=s/\(∀(j:Nat) v,cs[j]? =some v->W.cell? ((ad.add (i*s)).add j)=some v)/\DataW.trod enc P W base spare held n e cs=some y:=fun i z8=>by
   obtain⟨cs,h1,h2⟩:=hi i Uo;rw[hs]at h1;obtain⟨_,h4,h3⟩:=World.cells?_some h1;refine⟨cs,_,Nat.le_trans (pi0 (List.mem_map.2 ⟨i,by simpa using z8,rfl⟩)) hbk,h4,fun j v hj=>?_,h2⟩;have:j<s:=by rw[<- h4];exact(List.getElem?_eq_some_iff.1 hj).1
   rw[h3 j this];exact hj
  have hsp:0<len->ad=⟨ad.block,ad.off,none⟩:=fun hl0=>by
   obtain⟨cs,y,_,h1,h2,_⟩:=hE 0 hl0;obtain⟨v,hv⟩:∃v,cs[0]? =some v:=⟨_,List.getElem?_eq_getElem Uo⟩
   have:=h2 0 v hv;rw[Nat.zero_mul]at this;have e1:(ad.add 0).add 0=ad:=by simp[Addr.add]
   rw[e1]at this;obtain⟨b,o,sp⟩:=ad;cases sp with
   |none=>rfl
   |some sp=>unfold World.cell? at this;simp at this;split at this <;> simp at this
  refine⟨fun hl0=>by rw[hsp hl0];rfl,Uz,⟨hl,?_⟩,n,fun i z8=>?_⟩
  ·have:=Hz0 ((List.range len).map D);rw[List.length_map,List.length_range]at this;omega
  ·obtain⟨cs,y,h5,h1,h2,h3⟩:=hE i z8;refine⟨cs,y,h5,h1,fun j v hj=>?_,h3⟩;have:=h2 j v hj;rw[hsp Uo,Addr.add_lit,Addr.add_lit]at this;exact this
end
end
section
variable{H:Type}{enc:TypeId×Value->H}{W:World}{base:Nat}{spare:Nat->Bool}{held:Bool}
theorem Za0:prog.cellsOf 9=1:=by kernel_rfl
theorem Qh0:prog.cellsOf 37=1:=by kernel_rfl
theorem Qi0{a:Option Addr}{len cap:Nat}{d:DataW H}{p:List MemPlace}{fuel:Nat}(hf:DataW.trod enc prog W base spare held fuel 37 [.slice a len cap]=some (d,p))(hd:Rows.uptoBulk d <=1048576):∃sc,wv0 (il0 W) a len cap sc/\len <=1048576:=by
 obtain⟨h1,h2,h4,n,h3⟩:=uj0 underlying37 tu0 Nat.one_pos hf;have h4c:=h4.1;have h4:len <=Rows.uptoBulk d:=h4.2;obtain⟨sc,hsc⟩:=tt0 (α:=Int) (n:=len) (p:=fun i z=>W.cell? ⟨ab a,ao a+i*1,none⟩=some (.int .i64 z)) fun i hi=>by
  obtain⟨cs,y,_,_,g2,g3⟩:=h3 i hi;obtain⟨z,rfl,_⟩:=DataW.trod_int underlying3 g3;exact⟨z,g2 0 _ rfl⟩
 exact⟨sc,⟨h1,h2,h4c,fun j hj=>oy0 (hsc j hj)⟩,by omega⟩
end
section
variable{H:Type}{enc:TypeId×Value->H}{W:World}{base:Nat}{spare:Nat->Bool}{held:Bool}
theorem Ia0:prog.cellsOf 85=3:=by kernel_rfl
theorem Qj0:prog.cellsOf 86=1:=by kernel_rfl
theorem Qk0:prog.cellsOf 36=1:=by kernel_rfl
theorem Kz0:prog.cellsOf 39=4:=by kernel_rfl
theorem As1{α:Type}:∀{cs:List α},cs.length=4->∃a b c d,cs=[a,b,c,d]
 | [a,b,c,d],_=>⟨a,b,c,d,rfl⟩
instance:Inhabited SOp:=⟨⟨0,0,⟨#[]⟩⟩⟩
section
variable{n len cap:Nat}{x:DataW H×List MemPlace}{a:Option Addr}
set_option maxRecDepth 100000 in
theorem Ql0{cs:List Value}(h:DataW.trod enc prog W base spare held n 85 cs=some x)(hx:Rows.uptoBulk x.1 <=1048576):∃o:SOp,cs=(Yr0 o).toList/\o.key.size <=1000000000000:=by
 obtain⟨m,hl,hf⟩:=qk0 underlying85 h;rw[Ia0]at hl;obtain⟨v0,v1,v2,rfl⟩:=zr1 hl;obtain⟨y0,_,h0⟩:∃y,Rows.uptoBulk y.1 <=Rows.uptoBulk x.1/\DataW.trod enc prog W base spare held m 3 (([v0,v1,v2].drop 0).take (prog.cellsOf 3))=some y:=hf 0 _ rfl;obtain⟨y1,_,h1⟩:∃y,Rows.uptoBulk y.1 <=Rows.uptoBulk x.1/\DataW.trod enc prog W base spare held m 3 (([v0,v1,v2].drop 1).take (prog.cellsOf 3))=some y:=hf 1 _ rfl;obtain⟨y2,b2,h2⟩:∃y,Rows.uptoBulk y.1 <=Rows.uptoBulk x.1/\DataW.trod enc prog W base spare held m 9 (([v0,v1,v2].drop 2).take (prog.cellsOf 9))=some y:=hf 2 _ rfl;rw[tu0]at h0 h1;rw[Za0]at h2;obtain⟨z0,g0,_⟩:=DataW.trod_int underlying3 h0;obtain⟨z1,g1,_⟩:=DataW.trod_int underlying3 h1;obtain⟨s,g2,hy,_⟩:=DataW.trod_string underlying9 h2;refine⟨⟨z0,z1,s⟩,?_,?_⟩
 ·simp at g0 g1 g2;rw[g0,g1,g2];rfl
 ·rw[hy]at b2;simp only[Rows.uptoBulk]at b2;have e:s.data.toList.length=s.size:=by rw[Array.length_toList];rfl
  show s.size <=_;omega
theorem ed1(h:DataW.trod enc prog W base spare held n 86 [.slice a len cap]=some x)(hx:Rows.uptoBulk x.1 <=1048576):∃l:List SOp,l.length=len/\SL a len/\len <=1048576/\(∀(k:Nat)(o:SOp),l[k]? =some o->∀(j:Nat)(v:Value),(Yr0 o)[j]? =some v->W.cell? ⟨ab a,ao a+k*3+j,none⟩=some v)/\∀o∈l,o.key.size <=1000000000000:=by
 obtain⟨h1,_,⟨_,h2⟩,m,h3⟩:=uj0 underlying86 Ia0 Ud h;obtain⟨f,hf⟩:=tt0 (α:=SOp) (n:=len) (p:=fun i o=>(∀(j:Nat)(v:Value),(Yr0 o)[j]? =some v->W.cell? ⟨ab a,ao a+i*3+j,none⟩=some v)/\o.key.size <=1000000000000) fun i hi=>by
  obtain⟨cs,y,g0,_,g2,g3⟩:=h3 i hi;obtain⟨o,rfl,hk⟩:=Ql0 g3 Uo;exact⟨o,fun j v hv=>g2 j v (by rw[Array.getElem?_toList];exact hv),hk⟩
 refine⟨(List.range len).map f,by simp,h1,by omega,fun k o hk=>?_,fun o ho=>?_⟩
 ·have hkl:k<len:=by
   have:=(List.getElem?_eq_some_iff.1 hk).1;simpa using this
  simp[hkl]at hk;rw[<- hk];exact(hf k hkl).1
 ·obtain⟨k,hk,rfl⟩:=List.mem_map.1 ho;exact(hf k (List.mem_range.1 hk)).2
theorem ee1{fuel:Nat}(h:DataW.trod enc prog W base spare held fuel 36 [.slice a len cap]=some x)(hd:Rows.uptoBulk x.1 <=1048576):∃bo oa oc,ay0 (il0 W) a len bo oa oc/\len <=1048576/\(∀i,len <=i->bo i=[])/\∀i o,o∈bo i->o.key.size <=1000000000000:=by
 obtain⟨h1,h2,h4,n,h3⟩:=uj0 underlying36 Qj0 Nat.one_pos h;have h4:len <=Rows.uptoBulk x.1:=h4.2;obtain⟨F,hF⟩:=tt0 (α:=List SOp×Option Addr×Nat) (n:=len) (p:=fun i z=>W.cell? ⟨ab a,ao a+i*1,none⟩=some (.slice z.2.1 z.1.length z.2.2)/\SL z.2.1 z.1.length/\z.1.length <=1048576/\(∀(k:Nat)(o:SOp),z.1[k]? =some o->∀(j:Nat)(v:Value),(Yr0 o)[j]? =some v->W.cell? ⟨ab z.2.1,ao z.2.1+k*3+j,none⟩=some v)/\∀o∈z.1,o.key.size <=1000000000000) fun i hi=>by
  obtain⟨cs,y,g0,g1,g2,g3⟩:=h3 i hi;have hcs:∃a' Zb0 Qm0,cs=[.slice a' Zb0 Qm0]:=by
   rcases DataW.trod_slice underlying86 g3 with⟨h0,_⟩|⟨a',Zb0,Qm0,_,_,_,_,h0,_⟩
   ·exact⟨_,_,_,h0⟩
   ·exact⟨_,_,_,h0⟩
  obtain⟨a',Zb0,Qm0,rfl⟩:=hcs;obtain⟨l,rfl,q1,q2,q3,q4⟩:=ed1 g3 Uo;exact⟨(l,a',Qm0),g2 0 _ rfl,q1,q2,q3,q4⟩
 refine⟨fun i=>if i<len then(F i).1 else [],fun i=>(F i).2.1,fun i=>(F i).2.2,⟨h1,fun i hi=>?_,fun i hi=>?_,fun i hi=>?_⟩,by omega,fun i hi=>if_neg Uo,fun i o ho=>?_⟩
 ·show(il0 W).cell? _=some (.slice _ (if i<len then(F i).1 else []).length _);rw[if_pos hi];exact oy0 (hF i hi).1
 ·show kv0 (il0 W) _ (if i<len then(F i).1 else []);rw[if_pos hi];exact⟨(hF i hi).2.1,fun k o ho j v hv=>oy0 ((hF i hi).2.2.2.1 k o ho j v hv)⟩
 ·show(if i<len then(F i).1 else []).length <=_;rw[if_pos hi];exact Nat.le_trans (hF i hi).2.2.1 Ud
 ·have ho:o∈(if i<len then(F i).1 else []):=ho;split at ho
  ·rename_i hi;exact(hF i hi).2.2.2.2 o ho
  ·cases ho
set_option maxRecDepth 100000 in
theorem nr1{r:Reach}{b0:Nat}{v:Value}{d:DataW H}{p:List MemPlace}(hv:Value.okWide prog W r b0 39 v)(h:DataW.Trod enc prog W base spare held 39 v d p)(hd:Rows.uptoBulk d <=1048576):∃obj n ba m bc sa sn scp bo oa oc sc,v= .agg #[.i obj,.i n,.slice ba m bc,.slice sa sn scp]/\ay0 (il0 W) ba m bo oa oc/\m <=1048576/\(∀i,m <=i->bo i=[])/\(∀i o,o∈bo i->o.key.size <=1000000000000)/\wv0 (il0 W) sa sn scp sc/\sn <=1048576:=by
 obtain⟨cs,rfl,H2⟩:=okWide_struct underlying39 hv;obtain⟨fuel,hf⟩:=h;have hf:DataW.trod enc prog W base spare held fuel 39 cs.toList=some (d,p):=hf;obtain⟨m0,hl,hff⟩:=qk0 underlying39 hf;rw[Kz0]at hl;obtain⟨v0,v1,v2,v3,hcs⟩:=As1 hl;rw[hcs]at hff;obtain⟨y0,_,h0⟩:∃y,Rows.uptoBulk y.1 <=Rows.uptoBulk d/\DataW.trod enc prog W base spare held m0 3 (([v0,v1,v2,v3].drop 0).take (prog.cellsOf 3))=some y:=hff 0 _ rfl;obtain⟨y1,_,h1⟩:∃y,Rows.uptoBulk y.1 <=Rows.uptoBulk d/\DataW.trod enc prog W base spare held m0 3 (([v0,v1,v2,v3].drop 1).take (prog.cellsOf 3))=some y:=hff 1 _ rfl;obtain⟨y2,b2,h2⟩:∃y,Rows.uptoBulk y.1 <=Rows.uptoBulk d/\DataW.trod enc prog W base spare held m0 36 (([v0,v1,v2,v3].drop 2).take (prog.cellsOf 36))=some y:=hff 2 _ rfl;obtain⟨y3,b3,h3⟩:∃y,Rows.uptoBulk y.1 <=Rows.uptoBulk d/\DataW.trod enc prog W base spare held m0 37 (([v0,v1,v2,v3].drop 3).take (prog.cellsOf 37))=some y:=hff 3 _ rfl;rw[tu0]at h0 h1;rw[Qk0]at h2;rw[Qh0]at h3;obtain⟨z0,g0,_⟩:=DataW.trod_int underlying3 h0;obtain⟨z1,g1,_⟩:=DataW.trod_int underlying3 h1;have s1:∃a len cap,([v2]:List Value)=[.slice a len cap]:=by
  rcases DataW.trod_slice underlying36 h2 with⟨h0,_⟩|⟨a',Zb0,Qm0,_,_,_,_,h0,_⟩
  ·exact⟨_,_,_,h0⟩
  ·exact⟨_,_,_,h0⟩
 have s2:∃a len cap,([v3]:List Value)=[.slice a len cap]:=by
  rcases DataW.trod_slice underlying37 h3 with⟨h0,_⟩|⟨a',Zb0,Qm0,_,_,_,_,h0,_⟩
  ·exact⟨_,_,_,h0⟩
  ·exact⟨_,_,_,h0⟩
 obtain⟨ba,m,bc,e1⟩:=s1;obtain⟨sa,sn,scp,e2⟩:=s2;simp at g0 g1;obtain rfl:=List.cons.inj e1 |>.1;obtain rfl:=List.cons.inj e2 |>.1;obtain⟨bo,oa,oc,q1,q2,q3,q6⟩:=ee1 (show DataW.trod enc prog W base spare held m0 36 [.slice ba m bc]=some y2 from h2) Uo;obtain⟨sc,q4,q5⟩:=Qi0 (d:=y3.1) (p:=y3.2) (show DataW.trod enc prog W base spare held m0 37 [.slice sa sn scp]=some y3 from h3) Uo;exact⟨z0,z1,ba,m,bc,sa,sn,scp,bo,oa,oc,sc,by rw[<- Array.toArray_toList (xs:=cs),hcs,g0,g1],q1,q2,q3,q6,q4,q5⟩
end
end
end Go.Vy.Sc
end
section
namespace Go.Yc
open Go Go.Vc
attribute [local irreducible] S0 dead
theorem Ib0{P:Program}{α β:Type}{f:α->β->Sem (ForInStep β)}:∀(l:List α)(b:β),(∀a,a∈l->∀b,S0 P (f a b))->S0 P (forIn l b f)
 | [],b,_=>by rw[List.forIn_nil];exact M0 _
 |a::l,b,h=>by
  rw[List.forIn_cons];refine O0 (h a List.mem_cons_self b) fun r=>?_;cases r with
  |done b=>exact M0 _
  |yield b=>exact Ib0 l b fun a ha=>h a (List.mem_cons_of_mem _ ha)
theorem Ci0{P:Program}{α β:Type}{f:α->β->Sem (ForInStep β)}(l:Array α)(b:β)(h:∀a,a∈l->∀b,S0 P (f a b)):S0 P (forIn l b f):=by
 rw[<- Array.forIn_toList];exact Ib0 _ _ fun a ha=>h a (by simpa using ha)
theorem uk0{P:Program}{r:Nat}{o:Obj}(h:S4 o=false/\C7 o=false):S0 P (setObj r o):=by
 unfold S0;exact⟨h,by unfold S0;trivial⟩
section
variable{P:Program}{T It:TypeId}{κ:IntKind}
def Zc0(v:Value):Prop:=(∃k m,v= .int k m)\/∃cs,v= .agg cs
section
variable{n:Nat}{b:Value}{fs:Array Field}
theorem El0(hT:P.underlying T=some (.int κ)){a:Value}(ha:Zc0 a):S0 P (Op.equalIn (n+1) T a b):=by
 unfold Op.equalIn;refine W6 hT ?_;rcases ha with⟨k,m,rfl⟩|⟨cs,rfl⟩
 ·split <;> first|exact M0 _|exact C4 _|exact j2 _|exact r8 (M0 _) (C4 _)|(rename_i h;cases h;done)|(rename_i h _;cases h;done)|(rename_i h1 h2 h3;first|(cases h1;done)|(cases h2;done)|(cases h3;done))|skip
 ·split <;> first|exact M0 _|exact C4 _|exact j2 _|exact r8 (M0 _) (C4 _)|(rename_i h;cases h;done)|(rename_i h _;cases h;done)|(rename_i h1 h2 h3;first|(cases h1;done)|(cases h2;done)|(cases h3;done))|skip
theorem Zd0(hT:P.underlying T=some (.struct fs))(hf:∀f∈fs,f.type=It)(hI:P.underlying It=some (.int κ)){xs:Array Value}(hx:∀v∈xs,Zc0 v):S0 P (Op.equalIn (n+1+1) T (.agg xs) b):=by
 unfold Op.equalIn;refine W6 hT ?_;split <;> first
  |exact M0 _|exact C4 _|exact j2 _
  |(rename_i h;cases h;done)
  |(rename_i h1 h2 h3;first|(cases h1;done)|(cases h2;done)|(cases h3;done))
  |skip
 rename_i h1 h2;obtain rfl:=TypeDesc.struct.inj h1;obtain rfl:=Value.agg.inj h2;refine O0 X5 fun p=>r8 (j2 _) (O0 (Ci0 _ _ fun f hf' r=>?_) fun r=>?_)
 ·refine r8 ?_ (M0 _);rw[hf f hf'];refine Dd0 (fun s=>?_) (fun v hv=>?_)
  ·exact O0 (am0 _ _ _) fun y=>O0 (El0 hI (.inr ⟨_,rfl⟩)) fun b=>r8 (M0 _) (M0 _)
  ·exact O0 (am0 _ _ _) fun y=>O0 (El0 hI (hx v hv)) fun b=>r8 (M0 _) (M0 _)
 ·obtain⟨_|r,z⟩:=r <;> exact M0 _
theorem Nl0(hT:P.underlying T=some (.int κ))(b:Bool)(n:Nat)(v:Value):S0 P (Instr.checkKey b (n+1) T v):=by
 unfold Instr.checkKey;refine W6 hT ?_;split <;> first|exact M0 _|exact C4 _|(rename_i h;cases h;done)|(rename_i h1 h2;first|(cases h1;done)|(cases h2;done))
theorem Ze0(hT:P.underlying T=some (.struct fs))(hf:∀f∈fs,f.type=It)(hI:P.underlying It=some (.int κ))(b:Bool)(n:Nat)(v:Value):S0 P (Instr.checkKey b (n+1+1) T v):=by
 unfold Instr.checkKey;refine W6 hT ?_;split <;> first|exact M0 _|exact C4 _|(rename_i h;cases h;done)|(rename_i h1 h2;first|(cases h1;done)|(cases h2;done))|skip
 rename_i h1;obtain rfl:=TypeDesc.struct.inj h1;refine O0 (Ci0 _ _ fun f hf' r=>?_) fun r=>M0 _;rw[hf f hf'];exact r8 (O0 (am0 _ _ _) fun x=>O0 (Nl0 hI b n x) fun _=>M0 _) (M0 _)
end
structure TK(P:Program)(T:TypeId)(k:Value):Prop where
 check:∀b,S0 P (Instr.checkKey b 10000 T k)
 eq:∀b,S0 P (Op.equal T k b)
theorem TK.int(hT:P.underlying T=some (.int κ)){k:IntKind}{m:Int}:TK P T (.int k m):=⟨fun b=>Nl0 hT b 9999 _,fun _b=>El0 hT (n:=9999) (.inl ⟨_,_,rfl⟩)⟩
theorem TK.pair{fs:Array Field}(hT:P.underlying T=some (.struct fs))(hf:∀f∈fs,f.type=It)(hI:P.underlying It=some (.int κ)){k l:IntKind}{m n:Int}:TK P T (.agg #[.int k m,.int l n]):=
 ⟨fun b=>Ze0 hT hf hI b 9998 _,fun b=>Zd0 hT hf hI (n:=9998) fun v hv=>by simp at hv;rcases hv with rfl|rfl <;> exact .inl ⟨_,_,rfl⟩⟩
theorem Ic0{k:Value}(h:∀b,S0 P (Op.equal T k b)):∀(es:List MapEntry)(i:Nat),S0 P (Instr.findAsking T k es i)
 | [],_=>M0 _
 |e::es,i=>by
  unfold Instr.findAsking;exact O0 (h _) fun b=>r8 (M0 _) (Ic0 h es (i+1))
theorem pj0{k:Value}(h:∀b,S0 P (Op.equal T k b))(es:List MapEntry):S0 P (Instr.findKey T k es):=by
 unfold Instr.findKey;refine O0 (M1 _) fun u=>?_;split
 ·exact M0 _
 ·exact Ic0 h es 0
theorem Nm0{a b:Value}:S0 P (Instr.keyThatStays a b):=by
 unfold Instr.keyThatStays;exact r8 (M0 _) (O0 (N6 _) fun _=>M0 _)
variable{KT ET:TypeId}{m k v:Value}
theorem Id0(hU:P.underlying T=some (.map KT ET))(hK:TK P KT k)(b:Bool):S0 P (Instr.lookup T m k b):=by
 unfold Instr.lookup;refine W6 hU ?_;dsimp only
 repeat' (first|exact M0 _|exact C4 _|exact O6 _|exact hK.check _|exact pj0 hK.eq _|exact I3 _|refine O0 ?_ fun _=>?_|refine r8 ?_ ?_|split|dsimp only)
theorem ql0(hU:P.underlying T=some (.map KT ET))(hK:TK P KT k):S0 P (Instr.mapUpdate T m k v):=by
 unfold Instr.mapUpdate;refine W6 hU ?_;dsimp only
 repeat' (first|exact C4 _|exact C2 _|exact O6 _|exact hK.check _|exact pj0 hK.eq _|exact Nm0|exact uk0 ⟨rfl,rfl⟩|refine O0 ?_ fun _=>?_|refine r8 ?_ ?_|split|dsimp only)
theorem La0(hU:P.underlying T=some (.map KT ET))(hK:TK P KT k):S0 P (Instr.mapEntry T m k):=by
 unfold Instr.mapEntry;refine W6 hU ?_;dsimp only
 repeat' (first|exact M0 _|exact C4 _|exact C2 _|exact O6 _|exact hK.check _|exact pj0 hK.eq _|exact I3 _|exact Nm0|exact uk0 ⟨rfl,rfl⟩|refine O0 ?_ fun _=>?_|refine r8 ?_ ?_|split|dsimp only)
theorem Em0:S0 P (Instr.entryStore T m k v):=by
 unfold Instr.entryStore;split
 ·refine O0 (O6 _) fun o=>?_;split
  ·refine O0 (J9 _) fun r=>?_;split
   ·exact uk0 ⟨rfl,rfl⟩
   ·exact j2 _
  ·exact C4 _
 ·exact C4 _
theorem Lb0:S0 P (Instr.makeMap T none):=by
 unfold Instr.makeMap;exact O0 (jl0 rfl) fun _=>M0 _
end
end Go.Yc
namespace Go.Vy
open Go Go.Yc Go.RowKit
open Go.Vc
section
variable{P:Program}{α:Type}[DecidableEq α]{T KT ET:TypeId}{κ:α->Value}{ρ:Operand->Value}{w:World}{d:Option Nat}{ty:TypeId}{ps:String}{af:Array Edge}{g:Option (Nat×Bool)}{x y:Operand}{r:Nat}{L:List (α×Value)}{a:α}{zv:Value}
theorem pk0:Does P (execOp ρ ⟨d,.makeMap T none,ty,ps,af,g⟩) w (.val (.map (some w.heap.size))) (w.alloc (.map #[] 0)):=
 .N0 (t_v Lb0) rfl rfl fun _ _=>rfl
theorem ki0(hU:P.underlying T=some (.map KT ET))(K:gi0 P KT κ)(hZ:(P.info? ET).bind (·.zero)=some zv)(hK:TK P KT (κ a))(hx:ρ x= .map (some r))(hy:ρ y=κ a)(hM:A5 w r κ L):Does P (execOp ρ ⟨d,.lookup T x y false,ty,ps,af,g⟩) w (.val ((O3 L a).getD zv)) w:=
 .N0 (by show S0 P (do pure (.value (<- Instr.lookup T (ρ x) (ρ y) false)):Sem Next);rw[hy];exact t_v (Id0 hU hK _)) rfl rfl fun τ d'=>Go.Vc.ki0 (w:=G2 w τ d') hU K hZ hx hy hM
theorem ly0(hU:P.underlying T=some (.map KT ET))(K:gi0 P KT κ)(hZ:(P.info? ET).bind (·.zero)=some zv)(hK:TK P KT (κ a))(hx:ρ x= .map (some r))(hy:ρ y=κ a)(hM:A5 w r κ L):Does P (execOp ρ ⟨d,.lookup T x y true,ty,ps,af,g⟩) w (.val (.tuple #[(O3 L a).getD zv,.bool (O3 L a).isSome])) w:=
 .N0 (by show S0 P (do pure (.value (<- Instr.lookup T (ρ x) (ρ y) true)):Sem Next);rw[hy];exact t_v (Id0 hU hK _)) rfl rfl fun τ d'=>Go.Vc.ly0 (w:=G2 w τ d') hU K hZ hx hy hM
end
section
variable{P:Program}[Ctx P]{α:Type}[DecidableEq α]{T KT ET:TypeId}{κ:α->Value}{w:World}{d:Option Nat}{ty:TypeId}{ps:String}{af:Array Edge}{x y z:Operand}{r:Nat}{Lm:List (α×Value)}{a:α}{v zv:Value}{n:Nat}{ops:Array Oper}{Q:Exit->Env->World->Prop}{rest:List Oper}{e:Env}
theorem L.At1[Go.Vc.K3](hU:P.underlying T=some (.map KT ET))(K:gi0 P KT κ)(hK:TK P KT (κ a))(hx:ev e x= .map (some r))(hy:ev e y=κ a)(hz:ev e z=v)(hM:A5 w r κ Lm)
  (k:∀o,A5 (K1 w r o) r κ (bs0 Lm a v)->L P n ops Q rest e (K1 w r o)):L P n ops Q (⟨none,.mapUpdate T x y z,ty,ps,af,none⟩::rest) e w:=by
 refine L.op' (K:=fun q w'=>q= .skip/\∃o,w'=K1 w r o/\A5 (K1 w r o) r κ (bs0 Lm a v)) rfl (fun τ d'=>?_) ?_
 ·obtain⟨o,h1,h2⟩:=lt0 (w:=G2 w τ d') (a:=a) hU K hM v;refine⟨.skip,K1 (G2 w τ d') r o,X7 ?_ ?_,rfl,o,rfl,h2⟩
  ·show S0 P (do Instr.mapUpdate T (ev e x) (ev e y) (ev e z);pure .skip:Sem Next);rw[hy];exact t_u (ql0 hU hK)
  ·simp only[execOp,hx,hy,hz,Sem.run_bind,h1,Result.andThen_ok,Sem.run_pure];rfl
 ·rintro q w' ⟨rfl,o,rfl,h⟩;exact k o h
theorem L.ul0[Go.Vc.K3](hU:P.underlying T=some (.map KT ET))(K:gi0 P KT κ)(hK:TK P KT (κ a))(hx:ev e x= .map (some r))(hy:ev e y=κ a)(hz:ev e z=v)(hM:A5 w r κ Lm)
  (k:∀o,A5 (K1 w r o) r κ (bs0 Lm a v)->L P n ops Q rest e (K1 w r o)):L P n ops Q (⟨none,.insert T x y z,ty,ps,af,none⟩::rest) e w:=by
 refine L.op' (K:=fun q w'=>q= .skip/\∃o,w'=K1 w r o/\A5 (K1 w r o) r κ (bs0 Lm a v)) rfl (fun τ d'=>?_) ?_
 ·obtain⟨o,h1,h2⟩:=lt0 (w:=G2 w τ d') (a:=a) hU K hM v;refine⟨.skip,K1 (G2 w τ d') r o,X7 ?_ ?_,rfl,o,rfl,h2⟩
  ·show S0 P (do Instr.mapUpdate T (ev e x) (ev e y) (ev e z);pure .skip:Sem Next);rw[hy];exact t_u (ql0 hU hK)
  ·simp only[execOp,hx,hy,hz,Sem.run_bind,h1,Result.andThen_ok,Sem.run_pure];rfl
 ·rintro q w' ⟨rfl,o,rfl,h⟩;exact k o h
theorem L.Au1[Go.Vc.K3]{d:Nat}(hU:P.underlying T=some (.map KT ET))(K:gi0 P KT κ)(hZ:(P.info? ET).bind (·.zero)=some zv)(hK:TK P KT (κ a))(hx:ev e x= .map (some r))(hy:ev e y=κ a)(hM:A5 w r κ Lm)
  (k:∀o (t:Nat),sd0 (K1 w r o) r κ (sc0 Lm a zv) a t->L P n ops Q rest (upd e d (.tuple #[(O3 Lm a).getD zv,.int .i64 (t:Int)])) (K1 w r o)):L P n ops Q (⟨some d,.mapEntry T x y,ty,ps,af,none⟩::rest) e w:=by
 refine L.op' (K:=fun q w'=>∃o,∃t:Nat,q= .val (.tuple #[(O3 Lm a).getD zv,.int .i64 (t:Int)])/\w'=K1 w r o/\sd0 (K1 w r o) r κ (sc0 Lm a zv) a t) rfl (fun τ d'=>?_) ?_
 ·obtain⟨o,t,h1,h2⟩:=Cw0 (w:=G2 w τ d') (a:=a) hU K hZ hM;refine⟨.val (.tuple #[(O3 Lm a).getD zv,.int .i64 (t:Int)]),K1 (G2 w τ d') r o,X7 ?_ ?_,o,t,rfl,rfl,h2⟩
  ·show S0 P (do pure (.value (<- Instr.mapEntry T (ev e x) (ev e y))):Sem Next);rw[hy];exact t_v (La0 hU hK)
  ·simp only[execOp,hx,hy,Sem.run_bind,h1,Result.andThen_ok,Sem.run_pure];rfl
 ·rintro q w' ⟨o,t,rfl,rfl,h⟩;exact k o t h
theorem L.Av1[Go.Vc.K3]{t:Nat}(hx:ev e x= .map (some r))(hy:ev e y= .int .i64 (t:Int))(hz:ev e z=v)(hM:sd0 w r κ Lm a t)
  (k:∀o,A5 (K1 w r o) r κ (bs0 Lm a v)->L P n ops Q rest e (K1 w r o)):L P n ops Q (⟨none,.entryStore T x y z,ty,ps,af,none⟩::rest) e w:=by
 refine L.op' (K:=fun q w'=>q= .skip/\∃o,w'=K1 w r o/\A5 (K1 w r o) r κ (bs0 Lm a v)) rfl (fun τ d'=>?_) ?_
 ·obtain⟨o,h1,h2⟩:=se0 (P:=P) (T:=T) (w:=G2 w τ d') hM v;refine⟨.skip,K1 (G2 w τ d') r o,X7 ?_ ?_,rfl,o,rfl,h2⟩
  ·show S0 P (do Instr.entryStore T (ev e x) (ev e y) (ev e z);pure .skip:Sem Next);exact t_u Em0
  ·simp only[execOp,hx,hy,hz,Sem.run_bind,h1,Result.andThen_ok,Sem.run_pure];rfl
 ·rintro q w' ⟨rfl,o,rfl,h⟩;exact k o h
end
end Go.Vy
end
section
namespace Go.Vy.Sc.Ck
open Go Go.Yc Go.RowKit Go.Proofs Go.Proofs.YtinppmaojmdmhaaGreat Tryz
open Go.Vc
section
structure Ev where
 c:Int
 k:Int
 o:Int
 n:Int
def En0(x y:Ev):Bool:=x.o==y.o&&x.n==y.n
def Zf0(E:Nat->Ev)(j i:Nat):Nat->Bool
 |0=>true
 |m+1=>Zf0 E j i m && !(decide (i<m)&&En0 (E m) (E j)&&(E m).k==6)
def w8(E:Nat->Ev)(i j:Nat):Bool:=
 if(E i).c==(E j).c then true
 else if !En0 (E i) (E j) then false
 else if(E i).k==2 then(E j).k==1 ||(E j).k==3
 else if(E i).k==4 then(E j).k==1
 else if((E i).k==6 ||(E i).k==7)&&((E j).k==5 ||(E j).k==7) then Zf0 E j i j
 else false
inductive Ah(E:Nat->Ev):Nat->Nat->Prop
 |link {i j}:i<j->w8 E i j=true->Ah E i j
 |step {x i j}:Ah E x i->i<j->w8 E i j=true->Ah E x j
section
variable{E:Nat->Ev}{i j:Nat}
theorem Ah.lt(h:Ah E i j):i<j:=by
 induction h with
 |link h _=>exact h
 |step _ h _ ih=>omega
theorem Ah.ns1{x:Nat}:Ah E x j↔∃i,i<j/\w8 E i j=true/\(x=i\/Ah E x i):=by
 constructor
 ·intro h;cases h with
  |link h1 h2=>exact⟨x,h1,h2,.inl rfl⟩
  |step h1 h2 h3=>exact⟨_,h2,h3,.inr h1⟩
 ·rintro⟨i,h1,h2,rfl|h3⟩
  ·exact .link h1 h2
  ·exact .step h3 h1 h2
theorem Ah.trans{k:Nat}(h:Ah E i j)(h':Ah E j k):Ah E i k:=by
 induction h' with
 |link h1 h2=>exact .step h h1 h2
 |step _ h2 h3 ih=>exact .step ih h2 h3
end
def Se(E:Nat->Ev)(j x:Nat):Prop:=x=j\/Ah E x j
def tot(E:Nat->Ev)(k:Nat):Nat->Nat
 |0=>0
 |n+1=>tot E k n+if(E n).c=(k:Int) then 1 else 0
def rk(E:Nat->Ev)(x:Nat):Nat:=tot E (E x).c.toNat x+1
theorem um0(E:Nat->Ev)(k:Nat){a b:Nat}(h:a <=b):tot E k a <=tot E k b:=by
 induction b with
 |zero=>
  have:a=0:=by omega
  subst this;exact Nat.le_refl _
 |succ b ih=>
  by_cases hb:a=b+1
  ·subst hb;exact Nat.le_refl _
  ·have:=ih Uo;simp only[tot];omega
theorem Zg0(E:Nat->Ev)(k:Nat):∀n,1 <=tot E k n->∃x,x<n/\(E x).c=(k:Int)/\tot E k x+1=tot E k n
 |0,h=>by simp[tot]at h
 |n+1,h=>by
  by_cases hk:(E n).c=(k:Int)
  ·exact⟨n,by omega,hk,by simp[tot,hk]⟩
  ·simp only[tot,hk,if_false,Nat.add_zero]at h⊢;obtain⟨x,h1,h2,h3⟩:=Zg0 E k n h;exact⟨x,by omega,h2,h3⟩
theorem Zh0(E:Nat->Ev)(k:Nat):∀n,tot E k n <=n
 |0=>Nat.le_refl _
 |n+1=>by have:=Zh0 E k n;simp only[tot];split <;> omega
def Ch(E:Nat->Ev)(N:Nat)(A:Nat->Prop)(f:Nat->Nat):Prop:=
 ∀k,f k <=tot E k N/\∀x,x<N->(E x).c=(k:Int)->(A x↔tot E k x+1 <=f k)
theorem Ch.ext{E:Nat->Ev}{N:Nat}{A B:Nat->Prop}{f:Nat->Nat}(h:Ch E N A f)(hAB:∀x,x<N->(A x↔B x)):Ch E N B f:=
 fun k=>⟨(h k).1,fun x hx hk=>(hAB x hx).symm.trans ((h k).2 x hx hk)⟩
def jn(a b:Nat->Nat):Nat->Nat:=fun k=>max (a k) (b k)
section
variable{E:Nat->Ev}{N:Nat}{A:Nat->Prop}{f:Nat->Nat}
theorem Ch.join{B:Nat->Prop}{g:Nat->Nat}(h:Ch E N A f)(h':Ch E N B g):Ch E N (fun x=>A x\/B x) (jn f g):=by
 intro k;have a:=(h k).1;have b:=(h' k).1;refine⟨by simp only[jn];omega,fun x hx hk=>?_⟩;have a2:=(h k).2 x hx hk;have b2:=(h' k).2 x hx hk;show A x\/B x↔_;rw[a2,b2];simp only[jn];omega
theorem Ch.grow(h:Ch E N A f)(hA:¬A N):Ch E (N+1) A f:=by
 intro k;have a:=(h k).1;refine⟨Nat.le_trans a (um0 E k Uo),fun x hx hk=>?_⟩;by_cases hxN:x=N
 ·subst hxN;constructor
  ·intro h;exact absurd h hA
  ·intro h;omega
 ·exact(h k).2 x Uo hk
theorem Ch.none(E:Nat->Ev)(N:Nat)(A:Nat->Prop)(hA:∀x,x<N->¬A x):Ch E N A (fun _=>0):=
 fun _=>⟨Nat.zero_le _,fun x hx _=>⟨fun h=>absurd h (hA x hx),fun h=>by simp only at h;omega⟩⟩
end
structure St where
 now:Nat->Nat->Nat
 un:Int->Int->Nat->Nat
 sh:Int->Int->Nat->Nat
 sd:Int->Int->Nat->Nat
def up{α:Type}(f:Nat->α)(i:Nat)(v:α):Nat->α:=fun k=>if k=i then v else f k
def up2{α:Type}(f:Int->Int->α)(o n:Int)(v:α):Int->Int->α:=fun o' n'=>if o'=o/\n'=n then v else f o' n'
def tick(s:St)(e:Ev):Nat->Nat:=up (s.now e.c.toNat) e.c.toNat (s.now e.c.toNat e.c.toNat+1)
def qm0(s:St)(e:Ev):Nat->Nat:=
 if e.k=1 then jn (jn (tick s e) (s.un e.o e.n)) (s.sh e.o e.n)
 else if e.k=3 then jn (tick s e) (s.un e.o e.n)
 else if e.k=5\/e.k=7 then jn (tick s e) (s.sd e.o e.n)
 else tick s e
def next(s:St)(e:Ev):St where
 now:=up s.now e.c.toNat (qm0 s e)
 un:=if e.k=2 then up2 s.un e.o e.n (jn (s.un e.o e.n) (qm0 s e)) else s.un
 sh:=if e.k=4 then up2 s.sh e.o e.n (jn (s.sh e.o e.n) (qm0 s e)) else s.sh
 sd:=if e.k=6\/e.k=7 then up2 s.sd e.o e.n (qm0 s e) else s.sd
def st0:St:=⟨fun _ _=>0,fun _ _ _=>0,fun _ _ _=>0,fun _ _ _=>0⟩
def Q9(E:Nat->Ev):Nat->St
 |0=>st0
 |j+1=>next (Q9 E j) (E j)
def clk(E:Nat->Ev)(j:Nat):Nat->Nat:=qm0 (Q9 E j) (E j)
def G2(e:Ev)(o n:Int):Prop:=e.o=o/\e.n=n
structure Inv(E:Nat->Ev)(j:Nat)(s:St):Prop where
 now:∀c:Nat,Ch E j (fun x=>∃y,y<j/\(E y).c=(c:Int)/\Se E y x) (s.now c)
 un:∀o n,Ch E j (fun x=>∃y,y<j/\(E y).k=2/\G2 (E y) o n/\Se E y x) (s.un o n)
 sh:∀o n,Ch E j (fun x=>∃y,y<j/\(E y).k=4/\G2 (E y) o n/\Se E y x) (s.sh o n)
 sd:∀o n,Ch E j (fun x=>∃y,y<j/\((E y).k=6\/(E y).k=7)/\G2 (E y) o n/\(∀m,y<m->m<j->¬((E m).k=6/\G2 (E m) o n))/\Se E y x) (s.sd o n)
theorem un0(E:Nat->Ev)(j i:Nat):∀m,Zf0 E j i m=true↔∀x,i<x->x<m->¬((E x).k=6/\G2 (E x) (E j).o (E j).n)
 |0=>by simp[Zf0]
 |m+1=>by
  simp only[Zf0,Bool.and_eq_true,Bool.not_eq_true',un0 E j i m];constructor
  ·rintro⟨h1,h2⟩ x hx N5;by_cases hm:x=m
   ·subst hm;rintro⟨h3,h4,h5⟩;simp[En0,h3,h4,h5,hx]at h2
   ·exact h1 x hx Uo
  ·intro h;refine⟨fun x hx N5=>h x hx Uo,?_⟩;by_cases him:i<m
   ·have:=h m him Uo;simp only[G2]at this;simp only[En0,Bool.and_eq_false_iff];by_cases h6:(E m).k=6
    ·left;right;by_cases h7:(E m).o=(E j).o
     ·right;simp;intro h8;exact this ⟨h6,h7,h8⟩
     ·left;simpa using h7
    ·right;simpa using h6
   ·simp[him]
theorem nt1(E:Nat->Ev){i j:Nat}(h:i<j)(hc:(E i).c=(E j).c):Ah E i j:=.link h (by simp[w8,hc])
theorem uo0(E:Nat->Ev)(j x:Nat):Ah E x j↔
  (∃y,y<j/\(E y).c=(E j).c/\Se E y x) \/
  (((E j).k=1\/(E j).k=3)/\∃y,y<j/\(E y).k=2/\G2 (E y) (E j).o (E j).n/\Se E y x) \/
  ((E j).k=1/\∃y,y<j/\(E y).k=4/\G2 (E y) (E j).o (E j).n/\Se E y x) \/
  (((E j).k=5\/(E j).k=7)/\∃y,y<j/\((E y).k=6\/(E y).k=7)/\G2 (E y) (E j).o (E j).n/\(∀m,y<m->m<j->¬((E m).k=6/\G2 (E m) (E j).o (E j).n))/\Se E y x):=by
 rw[Ah.ns1];constructor
 ·rintro⟨i,hi,hl,hx⟩;have N5:Se E i x:=hx;by_cases hc:(E i).c=(E j).c
  ·exact .inl ⟨i,hi,hc,N5⟩
  ·right;simp only[w8,beq_iff_eq,hc,if_false]at hl;by_cases ho:En0 (E i) (E j)=true
   ·have hon:G2 (E i) (E j).o (E j).n:=by simpa [En0,G2]using ho
    simp only[ho,Bool.not_true,Bool.false_eq_true,if_false]at hl;by_cases h2:(E i).k=2
    ·simp only[h2,if_true,Bool.or_eq_true,beq_iff_eq]at hl;exact .inl ⟨hl,i,hi,h2,hon,N5⟩
    ·simp only[h2,if_false]at hl;by_cases h4:(E i).k=4
     ·simp only[h4,if_true,beq_iff_eq]at hl;exact .inr (.inl ⟨hl,i,hi,h4,hon,N5⟩)
     ·simp only[h4,if_false]at hl;split at hl
      ·rename_i h6;simp only[Bool.and_eq_true,Bool.or_eq_true,beq_iff_eq]at h6;exact .inr (.inr ⟨h6.2,i,hi,h6.1,hon,(un0 E j i j).1 hl,N5⟩)
      ·cases hl
   ·simp[ho]at hl
 ·have mk:∀y,y<j->w8 E y j=true->Se E y x->∃i,i<j/\w8 E i j=true/\(x=i\/Ah E x i):=fun y a b c=>⟨y,a,b,c⟩
  rintro(⟨y,hy,hc,hx⟩|⟨hk,y,hy,h2,hon,hx⟩|⟨hk,y,hy,h2,hon,hx⟩|⟨hk,y,hy,h2,hon,r9,hx⟩)
  ·exact mk y hy (by simp[w8,hc]) hx
  all_goals
   refine mk y hy ?_ hx;have ho:En0 (E y) (E j)=true:=by simpa [En0,G2]using hon
   by_cases hc:(E y).c=(E j).c
   ·simp[w8,hc]
   simp only[w8,beq_iff_eq,hc,if_false,ho,Bool.not_true,Bool.false_eq_true]
  ·simp[h2,hk]
  ·simp[h2,hk]
  ·have:=(un0 E j y j).2 r9;rcases h2 with h2|h2 <;> rcases hk with hk|hk <;> simp[h2,hk,this]
theorem Ie0{E:Nat->Ev}{y x:Nat}(h:Se E y x):x <=y:=by
 rcases h with rfl|h
 ·exact Nat.le_refl _
 ·exact Nat.le_of_lt h.lt
theorem If0(E:Nat->Ev)(j:Nat)(s:St)(h:Inv E j s)(hc:0 <=(E j).c):Ch E (j+1) (Se E j) (qm0 s (E j)):=by
 obtain⟨c,hcc⟩:=Int.eq_ofNat_of_zero_le hc;have hto:(E j).c.toNat=c:=by omega
 have O1:∀(Q:Nat->Prop),¬(∃y,y<j/\Q y/\Se E y j):=by
  rintro Q ⟨y,hy,_,hx⟩;have:=Ie0 hx;omega
 have ef1:=h.now c;have Nn0:Ch E (j+1) (fun x=>x=j\/∃y,y<j/\(E y).c=(c:Int)/\Se E y x) (tick s (E j)):=by
  have l9:s.now c c=tot E c j:=by
   have h1:=(ef1 c).1;rcases Nat.lt_or_ge (s.now c c) (tot E c j)with pm1|hge
   ·obtain⟨x,hx,hk,he⟩:=Zg0 E c j Uo;have:=((ef1 c).2 x hx hk).1 ⟨x,hx,hk,.inl rfl⟩;omega
   ·omega
  intro k;simp only[tick,hto,up];by_cases hkc:k=c
  ·subst hkc;simp only[if_true,l9];refine⟨by simp[tot,hcc],fun x hx hk=>?_⟩;constructor
   ·intro _;have:=um0 E k (show x <=j by omega);omega
   ·intro _;by_cases hxj:x=j
    ·exact .inl hxj
    ·exact .inr ⟨x,by omega,hk,.inl rfl⟩
  ·simp only[hkc,if_false];refine⟨Nat.le_trans (ef1 k).1 (um0 E k Uo),fun x hx hk=>?_⟩;by_cases hxj:x=j
   ·subst hxj;exfalso;omega
   ·rw[<- (ef1 k).2 x Uo hk];constructor
    ·rintro(h|h)
     ·exact absurd h hxj
     ·exact h
    ·exact .inr
 have gr:∀{A:Nat->Prop}{f:Nat->Nat},Ch E j A f->¬A j->Ch E (j+1) A f:=fun h hA=>h.grow hA;have hun:=gr (h.un (E j).o (E j).n) (by rintro⟨y,hy,_,_,hx⟩;have:=Ie0 hx;omega);have R9:=gr (h.sh (E j).o (E j).n) (by rintro⟨y,hy,_,_,hx⟩;have:=Ie0 hx;omega);have hsd:=gr (h.sd (E j).o (E j).n) (by rintro⟨y,hy,_,_,_,hx⟩;have:=Ie0 hx;omega);have fin:∀{A:Nat->Prop}{f:Nat->Nat},Ch E (j+1) A f->(∀x,A x↔Se E j x)->Ch E (j+1) (Se E j) f:=fun h hA=>h.ext (fun x _=>hA x);unfold qm0;by_cases h1:(E j).k=1
 ·simp only[h1,if_true];refine fin ((Nn0.join hun).join R9) (fun x=>?_);simp only[Se,uo0 E j x,h1,hcc];simp;constructor
  ·rintro(((h|h)|h)|h)
   ·exact .inl h
   ·exact .inr (.inl h)
   ·exact .inr (.inr (.inl h))
   ·exact .inr (.inr (.inr h))
  ·rintro(h|h|h|h)
   ·exact .inl (.inl (.inl h))
   ·exact .inl (.inl (.inr h))
   ·exact .inl (.inr h)
   ·exact .inr h
 ·simp only[h1,if_false];by_cases h3:(E j).k=3
  ·simp only[h3,if_true];refine fin (Nn0.join hun) (fun x=>?_);simp only[Se,uo0 E j x,h3,hcc];simp;constructor
   ·rintro((h|h)|h)
    ·exact .inl h
    ·exact .inr (.inl h)
    ·exact .inr (.inr h)
   ·rintro(h|h|h)
    ·exact .inl (.inl h)
    ·exact .inl (.inr h)
    ·exact .inr h
  ·simp only[h3,if_false];by_cases h5:(E j).k=5\/(E j).k=7
   ·simp only[h5,if_true];refine fin (Nn0.join hsd) (fun x=>?_);simp only[Se,uo0 E j x,h1,h3,h5,hcc,false_or,false_and,true_and];constructor
    ·rintro((h|h)|h)
     ·exact .inl h
     ·exact .inr (.inl h)
     ·exact .inr (.inr h)
    ·rintro(h|h|h)
     ·exact .inl (.inl h)
     ·exact .inl (.inr h)
     ·exact .inr h
   ·simp only[h5,if_false];refine fin Nn0 (fun x=>?_);simp only[Se,uo0 E j x,h1,h3,h5,hcc,false_and,or_false]
theorem Zi0(E:Nat->Ev)(j:Nat)(s:St)(h:Inv E j s)(hc:0 <=(E j).c):Inv E (j+1) (next s (E j)):=by
 have eg1:=If0 E j s h hc;obtain⟨c,hcc⟩:=Int.eq_ofNat_of_zero_le hc;have hto:(E j).c.toNat=c:=by omega
 have no:∀{y:Nat},y<j->¬Se E y j:=fun hy hx=>by have:=Ie0 hx;omega
 constructor
 ·intro c';simp only[next,hto,up];by_cases vz1:c'=c
  ·subst vz1;simp only[if_true];refine eg1.ext (fun x _=>?_);constructor
   ·intro hx;exact⟨j,by omega,hcc,hx⟩
   ·rintro⟨y,hy,hk,hx⟩;by_cases hyj:y=j
    ·subst hyj;exact hx
    ·have:Ah E y j:=nt1 E Uo (by rw[hk,hcc]);rcases hx with rfl|hx
     ·exact .inr this
     ·exact .inr (hx.trans this)
  ·simp only[vz1,if_false];refine((h.now c').grow (by rintro⟨y,hy,_,hx⟩;exact no hy hx)).ext (fun x _=>?_);constructor
   ·rintro⟨y,hy,r⟩;exact⟨y,by omega,r⟩
   ·rintro⟨y,hy,hk,r⟩;refine⟨y,?_,hk,r⟩;by_cases hyj:y=j
    ·subst hyj;exfalso;omega
    ·omega
 ·intro o n;have g:=(h.un o n).grow (by rintro⟨y,hy,_,_,hx⟩;exact no hy hx);simp only[next];by_cases h2:(E j).k=2
  ·simp only[h2,if_true,up2];by_cases hon:o=(E j).o/\n=(E j).n
   ·simp only[hon,and_self,if_true];obtain⟨rfl,rfl⟩:=hon;refine(g.join eg1).ext (fun x _=>?_);constructor
    ·rintro(⟨y,hy,r⟩|hx)
     ·exact⟨y,by omega,r⟩
     ·exact⟨j,by omega,h2,⟨rfl,rfl⟩,hx⟩
    ·rintro⟨y,hy,hk,r,hx⟩;by_cases hyj:y=j
     ·subst hyj;exact .inr hx
     ·exact .inl ⟨y,by omega,hk,r,hx⟩
   ·simp only[hon,if_false];refine g.ext (fun x _=>?_);constructor
    ·rintro⟨y,hy,r⟩;exact⟨y,by omega,r⟩
    ·rintro⟨y,hy,hk,r,hx⟩;refine⟨y,?_,hk,r,hx⟩;by_cases hyj:y=j
     ·subst hyj;exact absurd ⟨r.1.symm,r.2.symm⟩ hon
     ·omega
  ·simp only[h2,if_false];refine g.ext (fun x _=>?_);constructor
   ·rintro⟨y,hy,r⟩;exact⟨y,by omega,r⟩
   ·rintro⟨y,hy,hk,r⟩;refine⟨y,?_,hk,r⟩;by_cases hyj:y=j
    ·subst hyj;exact absurd hk h2
    ·omega
 ·intro o n;have g:=(h.sh o n).grow (by rintro⟨y,hy,_,_,hx⟩;exact no hy hx);simp only[next];by_cases h2:(E j).k=4
  ·simp only[h2,if_true,up2];by_cases hon:o=(E j).o/\n=(E j).n
   ·simp only[hon,and_self,if_true];obtain⟨rfl,rfl⟩:=hon;refine(g.join eg1).ext (fun x _=>?_);constructor
    ·rintro(⟨y,hy,r⟩|hx)
     ·exact⟨y,by omega,r⟩
     ·exact⟨j,by omega,h2,⟨rfl,rfl⟩,hx⟩
    ·rintro⟨y,hy,hk,r,hx⟩;by_cases hyj:y=j
     ·subst hyj;exact .inr hx
     ·exact .inl ⟨y,by omega,hk,r,hx⟩
   ·simp only[hon,if_false];refine g.ext (fun x _=>?_);constructor
    ·rintro⟨y,hy,r⟩;exact⟨y,by omega,r⟩
    ·rintro⟨y,hy,hk,r,hx⟩;refine⟨y,?_,hk,r,hx⟩;by_cases hyj:y=j
     ·subst hyj;exact absurd ⟨r.1.symm,r.2.symm⟩ hon
     ·omega
  ·simp only[h2,if_false];refine g.ext (fun x _=>?_);constructor
   ·rintro⟨y,hy,r⟩;exact⟨y,by omega,r⟩
   ·rintro⟨y,hy,hk,r⟩;refine⟨y,?_,hk,r⟩;by_cases hyj:y=j
    ·subst hyj;exact absurd hk h2
    ·omega
 ·intro o n;have g:=(h.sd o n).grow (by rintro⟨y,hy,_,_,_,hx⟩;exact no hy hx);simp only[next];by_cases h2:(E j).k=6\/(E j).k=7
  ·simp only[h2,if_true,up2];by_cases hon:o=(E j).o/\n=(E j).n
   ·simp only[hon,and_self,if_true];obtain⟨rfl,rfl⟩:=hon;refine eg1.ext (fun x _=>?_);constructor
    ·intro hx;exact⟨j,by omega,h2,⟨rfl,rfl⟩,fun m a b=>by omega,hx⟩
    ·rintro⟨y,hy,hk,r,r9,hx⟩;by_cases hyj:y=j
     ·subst hyj;exact hx
     ·
      have h7:(E j).k=7:=by
       rcases h2 with h6|h7
       ·exact absurd ⟨h6,rfl,rfl⟩ (r9 j Uo Uo)
       ·exact h7
      have:Ah E x j:=(uo0 E j x).2 (.inr (.inr (.inr ⟨.inr h7,y,by omega,hk,r,fun m a b=>r9 m a Uo,hx⟩)));exact .inr this
   ·simp only[hon,if_false];refine g.ext (fun x _=>?_);constructor
    ·rintro⟨y,hy,hk,r,r9,hx⟩;refine⟨y,by omega,hk,r,fun m a b=>?_,hx⟩;by_cases hmj:m=j
     ·subst hmj;rintro⟨_,a,b⟩;exact hon ⟨a.symm,b.symm⟩
     ·exact r9 m a Uo
    ·rintro⟨y,hy,hk,r,r9,hx⟩;by_cases hyj:y=j
     ·subst hyj;exact absurd ⟨r.1.symm,r.2.symm⟩ hon
     ·exact⟨y,by omega,hk,r,fun m a b=>r9 m a Uo,hx⟩
  ·simp only[h2,if_false];refine g.ext (fun x _=>?_);constructor
   ·rintro⟨y,hy,hk,r,r9,hx⟩;refine⟨y,by omega,hk,r,fun m a b=>?_,hx⟩;by_cases hmj:m=j
    ·subst hmj;rintro⟨h6,_⟩;exact h2 (.inl h6)
    ·exact r9 m a Uo
   ·rintro⟨y,hy,hk,r,r9,hx⟩;by_cases hyj:y=j
    ·subst hyj;exact absurd hk h2
    ·exact⟨y,by omega,hk,r,fun m a b=>r9 m a Uo,hx⟩
theorem Lc0(E:Nat->Ev):∀j,(∀i,i<j->0 <=(E i).c)->Inv E j (Q9 E j)
 |0,_=>⟨fun _=>Ch.none _ _ _ (fun x hx=>by omega),fun _ _=>Ch.none _ _ _ (fun x hx=>by omega),fun _ _=>Ch.none _ _ _ (fun x hx=>by omega),fun _ _=>Ch.none _ _ _ (fun x hx=>by omega)⟩
 |j+1,h=>Zi0 E j _ (Lc0 E j (fun i hi=>h i Uo)) (h j Uo)
theorem Zj0(E:Nat->Ev)(j:Nat)(h:∀i,i <=j->0 <=(E i).c):Ch E (j+1) (Se E j) (clk E j):=
 If0 E j _ (Lc0 E j (fun i hi=>h i Uo)) (h j (Nat.le_refl _))
theorem Ck0(E:Nat->Ev){i j:Nat}(hij:i<j)(h:∀x,x <=j->0 <=(E x).c):Ah E i j↔clk E i (E i).c.toNat <=clk E j (E i).c.toNat:=by
 obtain⟨c,hcc⟩:=Int.eq_ofNat_of_zero_le (h i Uo);have hto:(E i).c.toNat=c:=by omega
 rw[hto];have a:=Zj0 E i (fun x hx=>h x Uo) c;have b:=Zj0 E j h c;have h1:=((b.2 i Uo hcc))
 have h2:=(a.2 i Uo hcc).1 (.inl rfl);have h3:clk E i c <=tot E c i+1:=by have:=a.1;simp only[tot,hcc,if_true]at this;exact this
 have h4:clk E i c=tot E c i+1:=by omega
 rw[h4,<- h1];constructor
 ·exact .inr
 ·rintro(h|h)
  ·omega
  ·exact h
structure yp0(w:World)(a:Option Addr)(n:Nat)(E:Nat->Ev):Prop where
 sl:SL a n
 c:∀{i},i<n->w.cell? ⟨ab a,ao a+i*4+0,none⟩=some (.i (E i).c)
 k:∀{i},i<n->w.cell? ⟨ab a,ao a+i*4+1+0,none⟩=some (.i (E i).k)
 o:∀{i},i<n->w.cell? ⟨ab a,ao a+i*4+1+1,none⟩=some (.i (E i).o)
 n:∀{i},i<n->w.cell? ⟨ab a,ao a+i*4+1+2,none⟩=some (.i (E i).n)
section
variable{w:World}{a:Option Addr}{n:Nat}{E:Nat->Ev}
theorem yp0.all{i:Nat}(h:yp0 w a n E)(hi:i<n):∀(j:Nat)(v:Value),[Value.i (E i).c,.i (E i).k,.i (E i).o,.i (E i).n][j]? =some v->w.cell? ⟨ab a,ao a+i*4+j,none⟩=some v:=by
 intro j v hj
 match j,hj with
 |0,hj=>cases hj;exact h.c hi
 |1,hj=>cases hj;exact h.k hi
 |2,hj=>cases hj;exact h.o hi
 |3,hj=>cases hj;exact h.n hi
theorem yp0.below{w':World}(h:yp0 w a n E)(hb:Below w.heap.size w w'):yp0 w' a n E:=
 ⟨h.sl,fun hi=>bl0 hb (h.c hi),fun hi=>bl0 hb (h.k hi),fun hi=>bl0 hb (h.o hi),fun hi=>bl0 hb (h.n hi)⟩
theorem wa1{w0:World}(h:Below w0.heap.size w0 w){b o:Nat}{cs:List Value}(hc:∀(j:Nat)(v:Value),cs[j]? =some v->w0.cell? ⟨b,o+j,none⟩=some v):∀(j:Nat)(v:Value),cs[j]? =some v->w.cell? ⟨b,o+j,none⟩=some v:=
 fun j v hj=>bl0 h (hc j v hj)
end
def Eo0(cl:Int)(e:Ev):Prop:=((e.c<0\/cl <=e.c)\/e.k<1)\/11<e.k
instance (cl:Int) (e:Ev):Decidable (Eo0 cl e):=by unfold Eo0;infer_instance
def okE(E:Nat->Ev)(cl:Int)(n:Nat):Prop:=∀i,i<n->¬Eo0 cl (E i)
instance wb1 (E:Nat->Ev) (cl:Int):∀n,Decidable (okE E cl n)
 |0=>.isTrue fun i hi=>by omega
 |n+1=>match wb1 E cl n with
  | .isTrue h=>if hb:Eo0 cl (E n) then .isFalse (fun h'=>h' n Uo hb) else .isTrue fun i hi=>by
    by_cases hin:i=n
    ·subst hin;exact hb
    ·exact h i Uo
  | .isFalse h=>.isFalse fun h'=>h fun i hi=>h' i Uo
def check(E:Nat->Ev)(n:Nat)(cl:Int):Int:=if cl<0\/16<cl then 2 else if 1048576<n then 1 else if okE E cl n then 0 else 110
open Classical in
noncomputable def ahB(E:Nat->Ev)(x j:Nat):Bool:=decide (Ah E x j)
theorem Ld0{E:Nat->Ev}{n:Nat}{cl:Int}(h:check E n cl=0):0 <=cl/\cl <=16/\n <=1048576/\okE E cl n:=by
 unfold check at h;split at h
 ·cases h
 ·rename_i h1;split at h
  ·cases h
  ·rename_i h2;split at h
   ·rename_i h3;exact⟨by omega,by omega,by omega,h3⟩
   ·cases h
theorem okE.at{E:Nat->Ev}{n i:Nat}{cl:Int}(h:okE E cl n)(hi:i<n):0 <=(E i).c/\(E i).c<cl/\1 <=(E i).k/\(E i).k <=11:=by
 have:=h i hi;unfold Eo0 at this;omega
def acc(e:Ev):Prop:=e.k=8\/e.k=9
instance (e:Ev):Decidable (acc e):=by unfold acc;infer_instance
noncomputable def ba0(E:Nat->Ev)(i j:Nat):Bool:=
 decide ((((acc (E i)/\acc (E j))/\((E i).k=9\/(E j).k=9))/\((E i).o=(E j).o/\(E i).n=(E j).n))/\(E i).c≠(E j).c) && !ahB E i j
def ji0(p:Nat->Bool):Nat->Option Nat
 |0=>none
 |m+1=>match ji0 p m with
  |some i=>some i
  |none=>if p m then some m else none
theorem jj0{p:Nat->Bool}:∀{m:Nat},(∀i,i<m->p i=false)->ji0 p m=none
 |0,_=>rfl
 |m+1,h=>by
  have:=jj0 (p:=p) (m:=m) (fun i hi=>h i Uo);rw[ji0,this];simp[h m Uo]
theorem of0{p:Nat->Bool}{i:Nat}(h:∀x,x<i->p x=false)(hp:p i=true):∀{m:Nat},i<m->ji0 p m=some i
 |0,hm=>by omega
 |m+1,hm=>by
  by_cases him:i=m
  ·subst him;rw[ji0,jj0 h];simp[hp]
  ·rw[ji0,of0 h hp (show i<m by omega)]
def eh1(o:Option Nat)(j:Nat):List (Nat×Nat):=match o with|some i=>[(i,j)]|none=>[]
noncomputable def N4(E:Nat->Ev):Nat->List (Nat×Nat)
 |0=>[]
 |j+1=>N4 E j++eh1 (ji0 (fun i=>ba0 E i j) j) j
theorem up0(E:Nat->Ev):∀n,(N4 E n).length <=n
 |0=>Nat.le_refl _
 |n+1=>by
  have:=up0 E n;unfold N4 eh1;split <;> simp <;> omega
def prC(L:List (Nat×Nat)):List Value:=L.flatMap fun p=>[.i (p.1:Int),.i (p.2:Int)]
theorem Zk0(L:List (Nat×Nat))(i j:Nat):prC (L ++ [(i,j)])=prC L ++ [.i (i:Int),.i (j:Int)]:=by simp[prC]
theorem No0:∀(L:List (Nat×Nat))(t:Nat)(p:Nat×Nat),L[t]? =some p->(prC L)[t*2]? =some (.i (p.1:Int))/\(prC L)[t*2+1]? =some (.i (p.2:Int))
 | [],t,p,h=>by simp at h
 |q::L,0,p,h=>by
  simp at h;subst h;simp[prC]
 |q::L,t+1,p,h=>by
  have:=No0 L t p (by simpa using h);have e:prC (q::L)=[.i (q.1:Int),.i (q.2:Int)]++prC L:=by simp[prC]
  rw[e,show(t+1)*2=2+t*2 by omega,show 2+t*2+1=2+(t*2+1)by omega];rw[List.getElem?_append_right (by simp),List.getElem?_append_right (by simp)];simpa using this
structure rj0(w:World)(a:Option Addr)(L:List (Nat×Nat)):Prop where
 sl:SL a L.length
 at':∀{t:Nat}{p:Nat×Nat},L[t]? =some p->w.cell? ⟨ab a,ao a+t*2+0,none⟩=some (.i (p.1:Int))/\w.cell? ⟨ab a,ao a+t*2+1,none⟩=some (.i (p.2:Int))
theorem rj0.nu1{w:World}{B:Nat}{T:TypeId}{a:Option Addr}{c:Nat}{L:List (Nat×Nat)}(h:Own w B T 2 a L.length c (prC L)):rj0 w a L:=
 ⟨h.sl,fun ht=>by
  have:=No0 L _ _ ht;rw[h.off,Nat.zero_add];exact⟨h.cell this.1,h.cell this.2⟩⟩
def ints(f:Nat->Nat):Nat->Value:=fun k=>.i ((f k:Nat):Int)
def bz0(f:Nat->Nat):Value:=.agg (arr 16 (ints f))
theorem uq0{f g:Nat->Nat}(h:∀k,k<16->f k=g k):bz0 f=bz0 g:=by
 unfold bz0;rw[do0 (g:=ints g) (fun k hk=>by unfold ints;rw[h k hk])]
theorem k4{f g:Nat->Nat}{k:Nat}(h:f k=g k):ints f k=ints g k:=by unfold ints;rw[h]
def E5(u s d:Nat->Nat):Nat->Nat:=fun x=>if x<16 then u x else if x<32 then s (x-16) else d (x-32)
section
variable{k x:Nat}
theorem wc1(u s d:Nat->Nat)(h:k<16):ints (E5 u s d) (0+0+k)=ints u k:=k4 (f:=fun k=>E5 u s d (0+0+k)) (by simp only[E5];rw[if_pos Uo];congr 1;omega)
theorem Aw1(u s d:Nat->Nat)(h:k<16):ints (E5 u s d) (0+16+k)=ints s k:=k4 (f:=fun k=>E5 u s d (0+16+k)) (by simp only[E5];rw[if_neg Uo,if_pos Uo];congr 1;omega)
theorem Ax1(u s d:Nat->Nat)(h:k<16):ints (E5 u s d) (0+32+k)=ints d k:=k4 (f:=fun k=>E5 u s d (0+32+k)) (by simp only[E5];rw[if_neg Uo,if_neg Uo];congr 1;omega)
theorem Ay1(u s d f:Nat->Nat) :(if 0+0 <=x/\x<0+0+16 then ints f (x-(0+0)) else ints (E5 u s d) x)=ints (E5 f s d) x:=by
 unfold ints E5;by_cases h:x<16
 ·rw[if_pos Uo,if_pos h,show x-(0+0)=x by omega]
 ·rw[if_neg Uo,if_neg h,if_neg h]
theorem Az1(u s d f:Nat->Nat) :(if 0+16 <=x/\x<0+16+16 then ints f (x-(0+16)) else ints (E5 u s d) x)=ints (E5 u f d) x:=by
 unfold ints E5;by_cases h:x<16
 ·rw[if_neg Uo,if_pos h,if_pos h]
 ·by_cases h2:x<32
  ·rw[if_pos Uo,if_neg h,if_pos h2,show x-(0+16)=x-16 by omega]
  ·rw[if_neg Uo,if_neg h,if_neg h2,if_neg h,if_neg h2]
theorem wd1(u s d f:Nat->Nat)(hx:x<48):(if 0+32 <=x/\x<0+32+16 then ints f (x-(0+32)) else ints (E5 u s d) x)=ints (E5 u s f) x:=by
 unfold ints E5;by_cases h:x<16
 ·rw[if_neg Uo,if_pos h,if_pos h]
 ·by_cases h2:x<32
  ·rw[if_neg Uo,if_neg h,if_pos h2,if_neg h,if_pos h2]
  ·rw[if_pos Uo,if_neg h,if_neg h2,show x-(0+32)=x-32 by omega]
theorem og0(f g:Nat->Nat)(hx:x<16):(if 0 <=x/\x<0+16 then ints g (x-0) else ints f x)=ints g x:=by
 rw[if_pos Uo];rfl
theorem jk0:Array.replicate 16 (Value.i 0)=arr 16 (ints fun _=>0):=qx0 16 _
end
def eqN(F G:Nat->Nat):Bool:=(List.range 16).all fun k=>F k==G k
theorem Np0{F G:Nat->Nat}:eqN F G=true↔∀k,k<16->F k=G k:=by
 unfold eqN;simp
theorem we1[Ctx prog]{ρ:Operand->Value}{w:World}{d:Option Nat}{ty T':TypeId}{ps:String}{af:Array Edge}{g:Option (Nat×Bool)}{x y:Operand}{F G:Nat->Nat}(hx:ρ x=bz0 F)(hy:ρ y=bz0 G):Go.Vy.Does prog (execOp ρ ⟨d,.binOp .eql 225 x y T',ty,ps,af,g⟩) w (.val (.bool (eqN F G))) w:=by
 obtain⟨i,hi⟩:∃i,prog.info? 3=some i:=by
  have:=sz3;cases h:prog.info? 3 with
  |none=>rw[h]at this;cases this
  |some i=>exact⟨i,rfl⟩
 have h:=Go.Vy.Cy0 (P:=prog) (w:=w) (d:=d) (ty:=ty) (T':=T') (ps:=ps) (af:=af) (g:=g) (F:=fun k=>(F k:Int)) (G:=fun k=>(G k:Int)) underlying225 underlying3 hi Uk Tryz.eqGuardType225 hx hy;have e:∀inst:Decidable (∀k,k<16->((F k:Nat):Int)=((G k:Nat):Int)),@decide _ inst=eqN F G:=fun inst=>by
  rw[Bool.eq_iff_iff,Np0,decide_eq_true_iff];constructor
  ·intro h k hk;have:=h k hk;omega
  ·intro h k hk;rw[h k hk]
 rw[e]at h;exact h
end
theorem nv1{P:Program}{ρ:Operand->Value}{w:World}{d:Option Nat}{ty:TypeId}{ps:String}{af:Array Edge}{g:Option (Nat×Bool)}{x y:Operand}{m k:Nat}{aT:Array TypeId}(hx:ρ x= .i (m:Int))(hy:ρ y= .i (k:Int)):Go.Vy.Does P (execOp ρ ⟨d,.call ⟨.builtin .max,#[x,y],aT⟩,ty,ps,af,g⟩) w (.val (.i ((max m k:Nat):Int))) w:=by
 have e:((max m k:Nat):Int)=max (m:Int) (k:Int):=by omega
 rw[e];exact Go.Vy.Sc.Vw0 hx hy
section
variable[Ctx prog]
theorem mm0(f g:Nat->Nat)(w0:World):C prog 143 #[bz0 f,bz0 g] w0 fun v w'=>v=bz0 (jn f g)/\Below w0.heap.size w0 w':=by
 refine C.enter (n:=24) func143 rfl rfl<|U2 ?_;intro hb;refine L.box rfl rfl (fun w b2 F2=>?_);have hb:=B0 hb F2.below;have Y1:I0 w b2 (arr 16 (ints f)) 225:=F2.blk;have h2:w0.heap.size <=b2:=by have:=F2.here;omega
 refine L.box rfl rfl (fun w b3 F3=>?_);have hn3:b2≠b3:=by have:=F3.here;have:=Y1.lt;omega
 have h3:w0.heap.size <=b3:=by have:=F3.here;have:=hb.size;omega
 have hb:=B0 hb F3.below;have Y1:=Y1.j0 F3.below;have o5:I0 w b3 (arr 16 (ints g)) 225:=F3.blk;refine L.alloc Tp0 rfl (fun w b4 F4=>?_);have hn4:b2≠b4:=by have:=F4.here;have:=Y1.lt;omega
 have ur0:b3≠b4:=by have:=F4.here;have:=o5.lt;omega
 have h4:w0.heap.size <=b4:=by have:=F4.here;have:=hb.size;omega
 have hb:=B0 hb F4.below;have Y1:=Y1.j0 F4.below;refine U364 ?_;intro o5 L1;rw[jk0]at L1;refine U28 ?_;refine L.va (H3 rfl underlying225 rfl Z4 Y1 Ud (fun k _=>k4 (f:=fun k=>f (0+k)) (by rw[Nat.zero_add])))<|L.va (H3 rfl underlying225 rfl Z4 o5 Ud (fun k _=>k4 (f:=fun k=>g (0+k)) (by rw[Nat.zero_add])))<|L.va (we1 rfl rfl)<|U1 ?_;refine W.cond rfl (fun h8=>?_) (fun h8=>?_)
 ·refine W.seq<|W.region rfl<|L.va (H3 rfl underlying225 rfl Z4 Y1 Ud (fun k _=>k4 (f:=fun k=>f (0+k)) (by rw[Nat.zero_add])))<|L.st (L4 rfl rfl Z4 (fun k=>rfl) L1 Ud) ?_;have hb:=Below.R4 hb h4 (arr 16 (fun x=>if 0 <=x/\x<0+16 then ints f (x-0) else ints (fun _=>0) x)) 225;have L1:=(T2 (arr 16 (ints fun _=>0)) (arr 16 (fun x=>if 0 <=x/\x<0+16 then ints f (x-0) else ints (fun _=>0) x)) 225 L1).H8 (fun x hx=>og0 (fun _=>0) f hx);refine U1 ?_;refine W.ret<|U253 ?_;refine⟨uq0 fun k hk=>?_,hb⟩;have:=Np0.1 h8 k hk;simp only[jn];omega
 ·refine W.skip ?_;show W _ _ _ _ _ _;refine U146 ?_;refine U1 ?_;refine W.block<|W.loop (fun k e w=>∃i:Nat,k=16-i/\e 2= .p b2/\e 3= .p b3/\e 4= .p b4/\e 10= .i (i:Int)/\Below w0.heap.size w0 w/\i <=16/\I0 w b2 (arr 16 (ints (fun k=>if k<i then jn f g k else f k))) 225/\I0 w b3 (arr 16 (ints g)) 225/\I0 w b4 (arr 16 (ints fun _=>0)) 225) _ ⟨0,rfl,rfl,rfl,rfl,rfl,hb,Nat.zero_le _,Y1,o5,L1⟩ ?_;rintro k e w ⟨i,hk,s2,s3,s4,s10,hb,hi,Y1,o5,L1⟩;rw[L0 s2,L0 s3,L0 s4,L0 s10];clear s2 s3 s4 s10;refine U12 ?_;refine W.m6 rfl (fun h11=>?_) (fun h11=>?_)
  ·refine W.skip<|U142 ?_;refine U92 ?_;have hi:i<16:=by omega
   refine W.last 9 (fun w'=>Below w.heap.size w w') Uk Uk Uk rfl ((Below.refl w.heap.size w).drew)<|U299 ?_;refine D.va (fun w' W0=>p7 rfl rfl underlying225 sz3 hi)<|D.va (fun w' W0=>(q0 rfl underlying3 rfl (((Y1.j0 W0).cell (T6 Uo)))))<|D.va (fun w' W0=>(N3 rfl))<|D.va (fun w' W0=>p7 rfl rfl underlying225 sz3 hi)<|D.va (fun w' W0=>(q0 rfl underlying3 rfl (((o5.j0 W0).cell (T6 Uo)))))<|D.va (fun w' W0=>nv1 rfl rfl)<|D.va (fun w' W0=>p7 rfl rfl underlying225 sz3 hi)<|D.nil ?_;intro w' W0;refine⟨_,nb0 rfl rfl sz3 rfl ((Y1.j0 W0).cell (T6 Uo)) (Y1.j0 W0).frozen,?_⟩;have hb:=(B0 hb W0).setCell (p:=⟨b2,0+i*1,none⟩) h2 (.i ((max (if 0+i*1<i then jn f g (0+i*1) else f (0+i*1)) (g (0+i*1)):Nat):Int));have o5:=(o5.j0 W0).Fi0 (p:=⟨b2,0+i*1,none⟩) (Ne.symm hn3) (.i ((max (if 0+i*1<i then jn f g (0+i*1) else f (0+i*1)) (g (0+i*1)):Nat):Int));have L1:=(L1.j0 W0).Fi0 (p:=⟨b2,0+i*1,none⟩) (Ne.symm hn4) (.i ((max (if 0+i*1<i then jn f g (0+i*1) else f (0+i*1)) (g (0+i*1)):Nat):Int));have Y1:=(Y1.j0 W0).set (o:=0+i*1) (.i ((max (if 0+i*1<i then jn f g (0+i*1) else f (0+i*1)) (g (0+i*1)):Nat):Int));rw[Lv0]at Y1;have Y1:=Y1.H8 (g:=ints (fun k=>if k<i+1 then jn f g k else f k)) (fun k _=>by
    rw[Nat.zero_add,Nat.mul_one];by_cases hk:k=i
    ·subst hk;simp[ints,jn]
    ·rw[if_neg hk];exact k4 (f:=fun k=>if k<i then jn f g k else f k) (g:=fun k=>if k<i+1 then jn f g k else f k) (by simp only[show(k<i)=(k<i+1)by rw[eq_iff_iff];omega]))
   refine U27 ?_;exact⟨_,by omega,⟨i+1,rfl,rfl,rfl,rfl,rfl,hb,by omega,Y1,o5,L1⟩⟩
  ·refine W.exit<|U75 ?_;refine U52 ?_;refine L.va (H3 rfl underlying225 rfl Z4 Y1 Ud (fun k _=>by rw[Nat.zero_add]))<|L.st (L4 rfl rfl Z4 (fun k=>rfl) L1 Ud) ?_;have hb:=Below.R4 hb h4 (arr 16 (fun x=>if 0 <=x/\x<0+16 then ints (fun k=>if k<i then jn f g k else f k) (x-0) else ints (fun _=>0) x)) 225;have L1:=(T2 (arr 16 (ints fun _=>0)) (arr 16 (fun x=>if 0 <=x/\x<0+16 then ints (fun k=>if k<i then jn f g k else f k) (x-0) else ints (fun _=>0) x)) 225 L1).H8 (fun x hx=>og0 (fun _=>0) _ hx);refine U1 ?_;refine W.ret<|U253 ?_;refine⟨uq0 fun k hk=>?_,hb⟩;rw[if_pos Uo]
theorem Qn0(h:Nat)(u s d f:Nat->Nat)(w0:World)(hH:I0 w0 h (arr 48 (ints (E5 u s d))) 230):C prog 141 #[.p h,bz0 f] w0 fun v w'=>v=bz0 (f)/\I0 w' h (arr 48 (ints (E5 u s d))) 230/\w0.grownBy w' (some h):=by
 refine C.enter (n:=6) func141 rfl rfl<|U68 ?_;intro hb O1 w b3 F3 hn3;have h3:w0.heap.size <=b3:=by have:=F3.here;omega
 refine U67 ?_;intro hb hH o5 w b4 F4 hn4 ur0;have h4:w0.heap.size <=b4:=by have:=F4.here;have:=hb.size;omega
 refine U63 ?_;intro hb hH o5 L1;rw[jk0]at L1;refine U6 ?_;refine U167 ?_;exact U242
theorem Qo0(h:Nat)(u s d f:Nat->Nat)(w0:World)(hH:I0 w0 h (arr 48 (ints (E5 u s d))) 230):C prog 142 #[.p h,bz0 f] w0 fun v w'=>v=bz0 (jn (jn f u) s)/\I0 w' h (arr 48 (ints (E5 u s d))) 230/\w0.grownBy w' (some h):=by
 refine C.enter (n:=16) func142 rfl rfl<|U68 ?_;intro hb O1 w b3 F3 hn3;have h3:w0.heap.size <=b3:=by have:=F3.here;omega
 refine U67 ?_;intro hb hH o5 w b4 F4 hn4 ur0;have h4:w0.heap.size <=b4:=by have:=F4.here;have:=hb.size;omega
 refine U63 ?_;intro hb hH o5 L1;rw[jk0]at L1;refine U5 ?_;refine W.last 11 (fun w'=>Below w.heap.size w w') Uk Uk Uk rfl ((Below.refl w.heap.size w).drew)<|U166 ?_;refine U48 ?_;refine U386 ?_;refine D.va (fun w' W0=>(D3 rfl))<|U454 ?_;refine D.call (fun w' W0=>(B2 rfl rfl func143 rfl Fz0 rfl)) (fun w' W0=>(mm0 (jn f u) s w').mono (fun v w'' h=>⟨h.1,B0 W0 h.2⟩))<|D.nil ?_;intro w' W0;refine⟨_,L4 rfl rfl Z4 (fun k=>rfl) (L1.j0 W0) Ud,?_⟩;have hb:=ar0 (aq0 hb W0) (.inr h4) (arr 16 (fun x=>if 0 <=x/\x<0+16 then ints (jn (jn f u) s) (x-(0)) else ints (fun _=>0) x)) 225;have hH:=(hH.j0 W0).A3 hn4 (arr 16 (fun x=>if 0 <=x/\x<0+16 then ints (jn (jn f u) s) (x-(0)) else ints (fun _=>0) x)) 225;have L1:=(T2 _ (arr 16 (fun x=>if 0 <=x/\x<0+16 then ints (jn (jn f u) s) (x-(0)) else ints (fun _=>0) x)) 225 (L1.j0 W0)).H8 (fun x hx=>og0 (fun _=>0) (jn (jn f u) s) hx);show W _ _ _ _ _ _;exact U210
theorem Le0(h:Nat)(u s d f:Nat->Nat)(w0:World)(hH:I0 w0 h (arr 48 (ints (E5 u s d))) 230):C prog 144 #[.p h,bz0 f] w0 fun v w'=>v=bz0 (jn f u)/\I0 w' h (arr 48 (ints (E5 u s d))) 230/\w0.grownBy w' (some h):=by
 refine C.enter (n:=11) func144 rfl rfl<|U68 ?_;intro hb O1 w b3 F3 hn3;have h3:w0.heap.size <=b3:=by have:=F3.here;omega
 refine U67 ?_;intro hb hH o5 w b4 F4 hn4 ur0;have h4:w0.heap.size <=b4:=by have:=F4.here;have:=hb.size;omega
 refine U63 ?_;intro hb hH o5 L1;rw[jk0]at L1;refine U285 ?_;refine U166 ?_;refine U48 ?_;refine U386 ?_;refine D.nil ?_;intro w' W0;refine⟨_,L4 rfl rfl Z4 (fun k=>rfl) (L1.j0 W0) Ud,?_⟩;have hb:=ar0 (aq0 hb W0) (.inr h4) (arr 16 (fun x=>if 0 <=x/\x<0+16 then ints (jn f u) (x-(0)) else ints (fun _=>0) x)) 225;have hH:=(hH.j0 W0).A3 hn4 (arr 16 (fun x=>if 0 <=x/\x<0+16 then ints (jn f u) (x-(0)) else ints (fun _=>0) x)) 225;have L1:=(T2 _ (arr 16 (fun x=>if 0 <=x/\x<0+16 then ints (jn f u) (x-(0)) else ints (fun _=>0) x)) 225 (L1.j0 W0)).H8 (fun x hx=>og0 (fun _=>0) (jn f u) hx);show W _ _ _ _ _ _;exact U210
theorem Ig0(h:Nat)(u s d f:Nat->Nat)(w0:World)(hH:I0 w0 h (arr 48 (ints (E5 u s d))) 230):C prog 145 #[.p h,bz0 f] w0 fun v w'=>v=bz0 (f)/\I0 w' h (arr 48 (ints (E5 (jn u f) s d))) 230/\w0.grownBy w' (some h):=by
 refine C.enter (n:=15) func145 rfl rfl<|U68 ?_;intro hb O1 w b3 F3 hn3;have h3:w0.heap.size <=b3:=by have:=F3.here;omega
 refine U67 ?_;intro hb hH o5 w b4 F4 hn4 ur0;have h4:w0.heap.size <=b4:=by have:=F4.here;have:=hb.size;omega
 refine U63 ?_;intro hb hH o5 L1;rw[jk0]at L1;refine U5 ?_;refine U446 ?_;refine D.va (fun w' W0=>(D3 rfl))<|U48 ?_;refine D.va (fun w' W0=>(H3 rfl underlying225 rfl Z4 (hH.j0 W0) Ud (fun k hk=>wc1 u s d hk)))<|D.va (fun w' W0=>(H3 rfl underlying225 rfl Z4 (o5.j0 W0) Ud (fun k _=>k4 (f:=fun k=>(f) (0+k)) (by rw[Nat.zero_add]))))<|D.call (fun w' W0=>(B2 rfl rfl func143 rfl Fz0 rfl)) (fun w' W0=>(mm0 u f w').mono (fun v w'' h=>⟨h.1,B0 W0 h.2⟩))<|U48 ?_;refine D.nil ?_;intro w' W0;refine⟨_,L4 rfl rfl Z4 (fun k=>rfl) (hH.j0 W0) Ud,?_⟩;have hb:=ar0 (aq0 hb W0) (.inl rfl) (arr 48 (fun x=>if 0+0 <=x/\x<0+0+16 then ints (jn u f) (x-(0+0)) else ints (E5 u s d) x)) 230;have o5:=(o5.j0 W0).A3 (Ne.symm hn3) (arr 48 (fun x=>if 0+0 <=x/\x<0+0+16 then ints (jn u f) (x-(0+0)) else ints (E5 u s d) x)) 230;have L1:=(L1.j0 W0).A3 (Ne.symm hn4) (arr 48 (fun x=>if 0+0 <=x/\x<0+0+16 then ints (jn u f) (x-(0+0)) else ints (E5 u s d) x)) 230;have hH:=(T2 _ (arr 48 (fun x=>if 0+0 <=x/\x<0+0+16 then ints (jn u f) (x-(0+0)) else ints (E5 u s d) x)) 230 (hH.j0 W0)).H8 (fun x hx=>Ay1 u s d (jn u f));refine U52 ?_;refine U167 ?_;exact U242
theorem Ep0(h:Nat)(u s d f:Nat->Nat)(w0:World)(hH:I0 w0 h (arr 48 (ints (E5 u s d))) 230):C prog 146 #[.p h,bz0 f] w0 fun v w'=>v=bz0 (f)/\I0 w' h (arr 48 (ints (E5 u (jn s f) d))) 230/\w0.grownBy w' (some h):=by
 refine C.enter (n:=15) func146 rfl rfl<|U68 ?_;intro hb O1 w b3 F3 hn3;have h3:w0.heap.size <=b3:=by have:=F3.here;omega
 refine U67 ?_;intro hb hH o5 w b4 F4 hn4 ur0;have h4:w0.heap.size <=b4:=by have:=F4.here;have:=hb.size;omega
 refine U63 ?_;intro hb hH o5 L1;rw[jk0]at L1;refine U5 ?_;refine U446 ?_;refine D.va (fun w' W0=>(D3 rfl))<|U454 ?_;refine D.va (fun w' W0=>(H3 rfl underlying225 rfl Z4 (o5.j0 W0) Ud (fun k _=>k4 (f:=fun k=>(f) (0+k)) (by rw[Nat.zero_add]))))<|D.call (fun w' W0=>(B2 rfl rfl func143 rfl Fz0 rfl)) (fun w' W0=>(mm0 s f w').mono (fun v w'' h=>⟨h.1,B0 W0 h.2⟩))<|U48 ?_;refine D.nil ?_;intro w' W0;refine⟨_,L4 rfl rfl Z4 (fun k=>rfl) (hH.j0 W0) Ud,?_⟩;have hb:=ar0 (aq0 hb W0) (.inl rfl) (arr 48 (fun x=>if 0+16 <=x/\x<0+16+16 then ints (jn s f) (x-(0+16)) else ints (E5 u s d) x)) 230;have o5:=(o5.j0 W0).A3 (Ne.symm hn3) (arr 48 (fun x=>if 0+16 <=x/\x<0+16+16 then ints (jn s f) (x-(0+16)) else ints (E5 u s d) x)) 230;have L1:=(L1.j0 W0).A3 (Ne.symm hn4) (arr 48 (fun x=>if 0+16 <=x/\x<0+16+16 then ints (jn s f) (x-(0+16)) else ints (E5 u s d) x)) 230;have hH:=(T2 _ (arr 48 (fun x=>if 0+16 <=x/\x<0+16+16 then ints (jn s f) (x-(0+16)) else ints (E5 u s d) x)) 230 (hH.j0 W0)).H8 (fun x hx=>Az1 u s d (jn s f));refine U52 ?_;refine U167 ?_;exact U242
theorem Qp0(h:Nat)(u s d f:Nat->Nat)(w0:World)(hH:I0 w0 h (arr 48 (ints (E5 u s d))) 230):C prog 147 #[.p h,bz0 f] w0 fun v w'=>v=bz0 (jn f d)/\I0 w' h (arr 48 (ints (E5 u s d))) 230/\w0.grownBy w' (some h):=by
 refine C.enter (n:=11) func147 rfl rfl<|U68 ?_;intro hb O1 w b3 F3 hn3;have h3:w0.heap.size <=b3:=by have:=F3.here;omega
 refine U67 ?_;intro hb hH o5 w b4 F4 hn4 ur0;have h4:w0.heap.size <=b4:=by have:=F4.here;have:=hb.size;omega
 refine U63 ?_;intro hb hH o5 L1;rw[jk0]at L1;refine U285 ?_;refine U166 ?_;refine U48 ?_;refine U387 ?_;refine D.nil ?_;intro w' W0;refine⟨_,L4 rfl rfl Z4 (fun k=>rfl) (L1.j0 W0) Ud,?_⟩;have hb:=ar0 (aq0 hb W0) (.inr h4) (arr 16 (fun x=>if 0 <=x/\x<0+16 then ints (jn f d) (x-(0)) else ints (fun _=>0) x)) 225;have hH:=(hH.j0 W0).A3 hn4 (arr 16 (fun x=>if 0 <=x/\x<0+16 then ints (jn f d) (x-(0)) else ints (fun _=>0) x)) 225;have L1:=(T2 _ (arr 16 (fun x=>if 0 <=x/\x<0+16 then ints (jn f d) (x-(0)) else ints (fun _=>0) x)) 225 (L1.j0 W0)).H8 (fun x hx=>og0 (fun _=>0) (jn f d) hx);show W _ _ _ _ _ _;exact U210
theorem Lf0(h:Nat)(u s d f:Nat->Nat)(w0:World)(hH:I0 w0 h (arr 48 (ints (E5 u s d))) 230):C prog 148 #[.p h,bz0 f] w0 fun v w'=>v=bz0 (f)/\I0 w' h (arr 48 (ints (E5 u s f))) 230/\w0.grownBy w' (some h):=by
 refine C.enter (n:=10) func148 rfl rfl<|U68 ?_;intro hb O1 w b3 F3 hn3;have h3:w0.heap.size <=b3:=by have:=F3.here;omega
 refine U67 ?_;intro hb hH o5 w b4 F4 hn4 ur0;have h4:w0.heap.size <=b4:=by have:=F4.here;have:=hb.size;omega
 refine U63 ?_;intro hb hH o5 L1;rw[jk0]at L1;refine U1 ?_;refine U16 ?_;refine L.va (H3 rfl underlying225 rfl Z4 o5 Ud (fun k _=>k4 (f:=fun k=>(f) (0+k)) (by rw[Nat.zero_add])))<|L.va (j1 rfl)<|U464 ?_;have hb:=ar0 hb (.inl rfl) (arr 48 (fun x=>if 0+32 <=x/\x<0+32+16 then ints f (x-(0+32)) else ints (E5 u s d) x)) 230;have o5:=(o5).A3 (Ne.symm hn3) (arr 48 (fun x=>if 0+32 <=x/\x<0+32+16 then ints f (x-(0+32)) else ints (E5 u s d) x)) 230;have L1:=(L1).A3 (Ne.symm hn4) (arr 48 (fun x=>if 0+32 <=x/\x<0+32+16 then ints f (x-(0+32)) else ints (E5 u s d) x)) 230;have hH:=(T2 _ (arr 48 (fun x=>if 0+32 <=x/\x<0+32+16 then ints f (x-(0+32)) else ints (E5 u s d) x)) 230 hH).H8 (fun x hx=>wd1 u s d f hx);refine U6 ?_;refine U167 ?_;exact U242
theorem take_add(h:Nat)(u s d f:Nat->Nat)(w0:World)(hH:I0 w0 h (arr 48 (ints (E5 u s d))) 230):C prog 149 #[.p h,bz0 f] w0 fun v w'=>v=bz0 (jn f d)/\I0 w' h (arr 48 (ints (E5 u s (jn f d)))) 230/\w0.grownBy w' (some h):=by
 refine C.enter (n:=16) func149 rfl rfl<|U68 ?_;intro hb O1 w b3 F3 hn3;have h3:w0.heap.size <=b3:=by have:=F3.here;omega
 refine U67 ?_;intro hb hH o5 w b4 F4 hn4 ur0;have h4:w0.heap.size <=b4:=by have:=F4.here;have:=hb.size;omega
 refine U63 ?_;intro hb hH o5 L1;rw[jk0]at L1;refine U285 ?_;refine U166 ?_;refine U48 ?_;refine U387 ?_;refine D.nil ?_;intro w' W0;refine⟨_,L4 rfl rfl Z4 (fun k=>rfl) (o5.j0 W0) Ud,?_⟩;have hb:=ar0 (aq0 hb W0) (.inr h3) (arr 16 (fun x=>if 0 <=x/\x<0+16 then ints (jn f d) (x-(0)) else ints f x)) 225;have hH:=(hH.j0 W0).A3 hn3 (arr 16 (fun x=>if 0 <=x/\x<0+16 then ints (jn f d) (x-(0)) else ints f x)) 225;have L1:=(L1.j0 W0).A3 (Ne.symm ur0) (arr 16 (fun x=>if 0 <=x/\x<0+16 then ints (jn f d) (x-(0)) else ints f x)) 225;have o5:=(T2 _ (arr 16 (fun x=>if 0 <=x/\x<0+16 then ints (jn f d) (x-(0)) else ints f x)) 225 (o5.j0 W0)).H8 (fun x hx=>og0 f (jn f d) hx);show W _ _ _ _ _ _;refine U16 ?_;refine L.va (H3 rfl underlying225 rfl Z4 o5 Ud (fun k _=>k4 (f:=fun k=>(jn f d) (0+k)) (by rw[Nat.zero_add])))<|L.va (j1 rfl)<|U464 ?_;have hb:=ar0 hb (.inl rfl) (arr 48 (fun x=>if 0+32 <=x/\x<0+32+16 then ints (jn f d) (x-(0+32)) else ints (E5 u s d) x)) 230;have o5:=(o5).A3 (Ne.symm hn3) (arr 48 (fun x=>if 0+32 <=x/\x<0+32+16 then ints (jn f d) (x-(0+32)) else ints (E5 u s d) x)) 230;have L1:=(L1).A3 (Ne.symm hn4) (arr 48 (fun x=>if 0+32 <=x/\x<0+32+16 then ints (jn f d) (x-(0+32)) else ints (E5 u s d) x)) 230;have hH:=(T2 _ (arr 48 (fun x=>if 0+32 <=x/\x<0+32+16 then ints (jn f d) (x-(0+32)) else ints (E5 u s d) x)) 230 hH).H8 (fun x hx=>wd1 u s d (jn f d) hx);refine U6 ?_;refine L.va (H3 rfl underlying225 rfl Z4 o5 Ud (fun k _=>k4 (f:=fun k=>(jn f d) (0+k)) (by rw[Nat.zero_add])))<|L.st (L4 rfl rfl Z4 (fun k=>rfl) L1 Ud) ?_;have hb:=ar0 hb (.inr h4) (arr 16 (fun x=>if 0 <=x/\x<0+16 then ints (jn f d) (x-(0)) else ints (fun _=>0) x)) 225;have hH:=(hH).A3 hn4 (arr 16 (fun x=>if 0 <=x/\x<0+16 then ints (jn f d) (x-(0)) else ints (fun _=>0) x)) 225;have L1:=(T2 _ (arr 16 (fun x=>if 0 <=x/\x<0+16 then ints (jn f d) (x-(0)) else ints (fun _=>0) x)) 225 L1).H8 (fun x hx=>og0 (fun _=>0) (jn f d) hx);exact U542
end
def fkT:List (Int×Nat)->Int->Option Nat
 | [],_=>none
 |(a,f)::t,k=>if k=a then some f else fkT t k
def fkL:List (Int×Nat):=[(11,141),(10,141),(9,141),(8,141),(7,149),(6,148),(5,147),(4,146),(2,145),(3,144),(1,142)]
def fk(k:Int):Option Nat:=fkT fkL k
def fnV(f:Nat):Value:=.func (.func f) #[] #[]
abbrev mr0(a:Int):Value:=.i a
theorem pl0:gi0 prog 3 mr0:=gi0.i64 underlying3
theorem Eq0:gi0 prog 152 ac0:=gi0.pair underlying152 ⟨by decide,rfl,rfl⟩ ⟨by decide,rfl,rfl⟩ underlying3 Tryz.stoodInHeld152
theorem ckI(k:Int):TK prog 3 (mr0 k):=TK.int underlying3
theorem ckP(p:Int×Int):TK prog 152 (ac0 p):=TK.pair underlying152 (It:=3) Ud underlying3
theorem kw0(w:World)(o:Obj):Below w.heap.size w (w.alloc o):=⟨rfl,rfl,rfl,by show _ <=(w.heap.push o).size;simp,fun k hk=>by show(w.heap.push o)[k]? =_;rw[Array.getElem?_push_lt hk,Array.getElem?_eq_getElem hk]⟩
def M7(w:World)(r:Nat):Prop:=∃Lk:List (Int×Value),A5 w r mr0 Lk/\∀k,O3 Lk k=(fk k).map fnV
theorem M7.grown{w w':World}{r:Nat}{row:Option Nat}(h:M7 w r)(hg:w.grownBy w' row)(X2:some r≠row):M7 w' r:=let⟨Lk,h1,h2⟩:=h;⟨Lk,h1.grown hg X2,h2⟩
theorem M7.j0{w w':World}{r:Nat}(h:M7 w r)(hb:Below w.heap.size w w'):M7 w' r:=h.grown (br0 hb) (by simp)
theorem ei1(k:Int):O3 ([]:List (Int×Value)) k=(fkT [] k).map fnV:=rfl
theorem bb0{Lk:List (Int×Value)}{t:List (Int×Nat)}(h:∀k,O3 Lk k=(fkT t k).map fnV)(a:Int)(f:Nat)(k:Int):O3 (bs0 Lk a (fnV f)) k=(fkT ((a,f)::t) k).map fnV:=by
 rw[om0,h k];show _=Option.map fnV (if k=a then some f else fkT t k);split <;> rfl
section
variable[Ctx prog]
theorem ej1(w0:World):C prog 125 #[] w0 fun v w'=>∃r,v= .map (some r)/\w0.heap.size <=r/\M7 w' r/\Below w0.heap.size w0 w':=by
 refine C.enter (n:=8) func125 rfl rfl<|U2 ?_;intro hb;refine L.va (rw0 rfl)<|U6 ?_;refine L.va (Lt0 rfl)<|U6 ?_;refine L.va pk0 ?_;have hM:=A5.made w0 mr0;have hb:=B0 hb (kw0 w0 (.map #[] 0));have hr:w0.heap.size <=w0.heap.size:=Nat.le_refl _;have hL:=ei1;refine L.ul0 (κ:=mr0) (a:=1) (v:=fnV 142) underlying219 pl0 (ckI _) rfl rfl rfl hM (fun o hM=>?_);have hL:=bb0 hL 1 142;have hb:=W2 hb hr o;generalize bs0 (α:=Int) _ _ _=Lm at hM hL;generalize K1 _ _ _=w at hM hb⊢;refine L.ul0 (κ:=mr0) (a:=3) (v:=fnV 144) underlying219 pl0 (ckI _) rfl rfl rfl hM (fun o hM=>?_);have hL:=bb0 hL 3 144;have hb:=W2 hb hr o;generalize bs0 (α:=Int) _ _ _=Lm at hM hL;generalize K1 _ _ _=w at hM hb⊢;refine L.ul0 (κ:=mr0) (a:=2) (v:=fnV 145) underlying219 pl0 (ckI _) rfl rfl rfl hM (fun o hM=>?_);have hL:=bb0 hL 2 145;have hb:=W2 hb hr o;generalize bs0 (α:=Int) _ _ _=Lm at hM hL;generalize K1 _ _ _=w at hM hb⊢;refine L.ul0 (κ:=mr0) (a:=4) (v:=fnV 146) underlying219 pl0 (ckI _) rfl rfl rfl hM (fun o hM=>?_);have hL:=bb0 hL 4 146;have hb:=W2 hb hr o;generalize bs0 (α:=Int) _ _ _=Lm at hM hL;generalize K1 _ _ _=w at hM hb⊢;refine L.ul0 (κ:=mr0) (a:=5) (v:=fnV 147) underlying219 pl0 (ckI _) rfl rfl rfl hM (fun o hM=>?_);have hL:=bb0 hL 5 147;have hb:=W2 hb hr o;generalize bs0 (α:=Int) _ _ _=Lm at hM hL;generalize K1 _ _ _=w at hM hb⊢;refine L.ul0 (κ:=mr0) (a:=6) (v:=fnV 148) underlying219 pl0 (ckI _) rfl rfl rfl hM (fun o hM=>?_);have hL:=bb0 hL 6 148;have hb:=W2 hb hr o;generalize bs0 (α:=Int) _ _ _=Lm at hM hL;generalize K1 _ _ _=w at hM hb⊢;refine L.ul0 (κ:=mr0) (a:=7) (v:=fnV 149) underlying219 pl0 (ckI _) rfl rfl rfl hM (fun o hM=>?_);have hL:=bb0 hL 7 149;have hb:=W2 hb hr o;generalize bs0 (α:=Int) _ _ _=Lm at hM hL;generalize K1 _ _ _=w at hM hb⊢;refine L.va (rx0 rfl)<|L.ul0 (κ:=mr0) (a:=8) (v:=fnV 141) underlying219 pl0 (ckI _) rfl rfl rfl hM (fun o hM=>?_);have hL:=bb0 hL 8 141;have hb:=W2 hb hr o;generalize bs0 (α:=Int) _ _ _=Lm at hM hL;generalize K1 _ _ _=w at hM hb⊢;refine L.va (rx0 rfl)<|L.ul0 (κ:=mr0) (a:=9) (v:=fnV 141) underlying219 pl0 (ckI _) rfl rfl rfl hM (fun o hM=>?_);have hL:=bb0 hL 9 141;have hb:=W2 hb hr o;generalize bs0 (α:=Int) _ _ _=Lm at hM hL;generalize K1 _ _ _=w at hM hb⊢;refine L.va (rx0 rfl)<|L.ul0 (κ:=mr0) (a:=10) (v:=fnV 141) underlying219 pl0 (ckI _) rfl rfl rfl hM (fun o hM=>?_);have hL:=bb0 hL 10 141;have hb:=W2 hb hr o;generalize bs0 (α:=Int) _ _ _=Lm at hM hL;generalize K1 _ _ _=w at hM hb⊢;refine L.va (rx0 rfl)<|L.ul0 (κ:=mr0) (a:=11) (v:=fnV 141) underlying219 pl0 (ckI _) rfl rfl rfl hM (fun o hM=>?_);have hL:=bb0 hL 11 141;have hb:=W2 hb hr o;generalize bs0 (α:=Int) _ _ _=Lm at hM hL;generalize K1 _ _ _=w at hM hb⊢;refine L.va (pt0 rfl)<|L.va (rw0 rfl)<|U1 ?_;refine U332 ?_;exact⟨_,rfl,hr,⟨_,hM,hL⟩,hb⟩
end
def tkV(k:Int)(f u sh sd:Nat->Nat):Nat->Nat:=
 if k=1 then jn (jn f u) sh else if k=3 then jn f u else if k=5\/k=7 then jn f sd else f
def tkU(k:Int)(f u sh sd:Nat->Nat):Nat->Nat:=if k=2 then jn u (tkV k f u sh sd) else u
def tkS(k:Int)(f u sh sd:Nat->Nat):Nat->Nat:=if k=4 then jn sh (tkV k f u sh sd) else sh
def tkD(k:Int)(f u sh sd:Nat->Nat):Nat->Nat:=if k=6\/k=7 then tkV k f u sh sd else sd
theorem nw1[Ctx prog](k:Int)(hk:1 <=k/\k <=11):∃f fn,fk k=some f/\prog.funcs[f]? =some fn/\fn.body.isSome=true/\Ue fn /\
  ∀(h:Nat)(u s d g:Nat->Nat)(w0:World),I0 w0 h (arr 48 (ints (E5 u s d))) 230 ->
  C prog f #[.p h,bz0 g] w0 fun v w'=>v=bz0 (tkV k g u s d)/\I0 w' h (arr 48 (ints (E5 (tkU k g u s d) (tkS k g u s d) (tkD k g u s d)))) 230/\w0.grownBy w' (some h):=by
 have hc:k=1\/k=2\/k=3\/k=4\/k=5\/k=6\/k=7\/k=8\/k=9\/k=10\/k=11:=by omega
 rcases hc with rfl|rfl|rfl|rfl|rfl|rfl|rfl|rfl|rfl|rfl|rfl
 ·exact⟨142,_,rfl,func142,rfl,sg1,fun h u s d g w0 hH=>Qo0 h u s d g w0 hH⟩
 ·exact⟨145,_,rfl,func145,rfl,si1,fun h u s d g w0 hH=>Ig0 h u s d g w0 hH⟩
 ·exact⟨144,_,rfl,func144,rfl,sh1,fun h u s d g w0 hH=>Le0 h u s d g w0 hH⟩
 ·exact⟨146,_,rfl,func146,rfl,sj1,fun h u s d g w0 hH=>Ep0 h u s d g w0 hH⟩
 ·exact⟨147,_,rfl,func147,rfl,sk1,fun h u s d g w0 hH=>Qp0 h u s d g w0 hH⟩
 ·exact⟨148,_,rfl,func148,rfl,sl1,fun h u s d g w0 hH=>Lf0 h u s d g w0 hH⟩
 ·exact⟨149,_,rfl,func149,rfl,sm1,fun h u s d g w0 hH=>take_add h u s d g w0 hH⟩
 all_goals exact⟨141,_,rfl,func141,rfl,sf1,fun h u s d g w0 hH=>Qn0 h u s d g w0 hH⟩
theorem Zl0(k:Int):(fk k).isSome=decide (1 <=k/\k <=11):=by
 by_cases h:1 <=k/\k <=11
 ·rw[decide_eq_true h];have hc:k=1\/k=2\/k=3\/k=4\/k=5\/k=6\/k=7\/k=8\/k=9\/k=10\/k=11:=by omega
  rcases hc with rfl|rfl|rfl|rfl|rfl|rfl|rfl|rfl|rfl|rfl|rfl <;> rfl
 ·rw[decide_eq_false h];unfold fk fkL;simp only[fkT]
  repeat' split
  all_goals first|rfl|(exfalso;omega)
theorem us0(s:St)(e:Ev):qm0 s e=tkV e.k (tick s e) (s.un e.o e.n) (s.sh e.o e.n) (s.sd e.o e.n):=rfl
theorem Nq0(s:St)(e:Ev)(o n:Int):(next s e).un o n=if o=e.o/\n=e.n then tkU e.k (tick s e) (s.un e.o e.n) (s.sh e.o e.n) (s.sd e.o e.n) else s.un o n:=by
 simp only[next,tkU,<- us0];by_cases hk:e.k=2
 ·simp only[hk,if_true,up2]
 ·simp only[hk,if_false];split
  ·rename_i h;rw[h.1,h.2]
  ·rfl
theorem Nr0(s:St)(e:Ev)(o n:Int):(next s e).sh o n=if o=e.o/\n=e.n then tkS e.k (tick s e) (s.un e.o e.n) (s.sh e.o e.n) (s.sd e.o e.n) else s.sh o n:=by
 simp only[next,tkS,<- us0];by_cases hk:e.k=4
 ·simp only[hk,if_true,up2]
 ·simp only[hk,if_false];split
  ·rename_i h;rw[h.1,h.2]
  ·rfl
theorem Ns0(s:St)(e:Ev)(o n:Int):(next s e).sd o n=if o=e.o/\n=e.n then tkD e.k (tick s e) (s.un e.o e.n) (s.sh e.o e.n) (s.sd e.o e.n) else s.sd o n:=by
 simp only[next,tkD,<- us0];by_cases hk:e.k=6\/e.k=7
 ·simp only[hk,if_true,up2]
 ·simp only[hk,if_false];split
  ·rename_i h;rw[h.1,h.2]
  ·rfl
theorem nx1(E:Nat->Ev)(j:Nat)(h:∀i,i<j->0 <=(E i).c)(c k:Nat):(Q9 E j).now c k <=j:=
 Nat.le_trans ((Lc0 E j h).now c k).1 (Zh0 E k j)
def on0(f:Nat->Nat->Nat):Nat->Nat:=fun x=>f (x/16) (x%16)
theorem ek1(f:Nat->Nat->Nat){c k:Nat}(hk:k<16):ints (on0 f) (0+c*16+k)=ints (f c) k:=by
 refine k4 (f:=fun k=>on0 f (0+c*16+k)) ?_;simp only[on0];rw[show(0+c*16+k)/16=c by omega,show(0+c*16+k)%16=k by omega]
theorem el1(f:Nat->Nat->Nat)(g:Nat->Nat){c x:Nat}:(if 0+c*16 <=x/\x<0+c*16+16 then ints g (x-(0+c*16)) else ints (on0 f) x)=ints (on0 (up f c g)) x:=by
 unfold ints on0 up;by_cases h:x/16=c
 ·rw[if_pos Uo,if_pos h,show x-(0+c*16)=x%16 by omega]
 ·rw[if_neg Uo,if_neg h]
theorem em1:Array.replicate 256 (Value.i 0)=arr 256 (ints (on0 st0.now)):=qx0 256 _
def gb0(j:Nat)(f:Nat->Nat->Nat):Nat->Nat:=fun x=>if x/16<j then f (x/16) (x%16) else 0
theorem en1(f:Nat->Nat->Nat){j x:Nat}:(if 0+j*16 <=x/\x<0+j*16+16 then ints (f j) (x-(0+j*16)) else ints (gb0 j f) x)=ints (gb0 (j+1) f) x:=by
 unfold ints gb0;by_cases h:x/16=j
 ·rw[if_pos Uo,if_pos Uo,h,show x-(0+j*16)=x%16 by omega]
 ·rw[if_neg Uo];by_cases h2:x/16<j
  ·rw[if_pos h2,if_pos Uo]
  ·rw[if_neg h2,if_neg Uo]
theorem Zm0(n:Nat)(f:Nat->Nat->Nat):Array.replicate (n*16) (Value.i 0)=arr (n*16) (ints (gb0 0 f)):=by
 rw[qx0];exact do0 fun i _=>by unfold ints gb0;rw[if_neg Uo];rfl
def eo1(b:Nat):Value:=.p b
structure Hnd(w:World)(B r:Nat)(H:Int×Int->Option Nat)(s:St):Prop where
 map:∃Lt:List ((Int×Int)×Value),A5 w r ac0 Lt/\∀p,O3 Lt p=(H p).map eo1
 blk:∀{p b},H p=some b->B <=b/\I0 w b (arr 48 (ints (E5 (s.un p.1 p.2) (s.sh p.1 p.2) (s.sd p.1 p.2)))) 230
 inj:∀{p q b},H p=some b->H q=some b->p=q
 zero:∀{p},H p=none->s.un p.1 p.2=(fun _=>0)/\s.sh p.1 p.2=(fun _=>0)/\s.sd p.1 p.2=(fun _=>0)
section
variable{w w':World}{B r:Nat}{H:Int×Int->Option Nat}{s:St}
theorem Hnd.j0(h:Hnd w B r H s)(hb:Below w.heap.size w w'):Hnd w' B r H s:=
 ⟨let⟨Lt,h1,h2⟩:=h.map;⟨Lt,h1.j0 hb,h2⟩,fun hp=>⟨(h.blk hp).1,(h.blk hp).2.j0 hb⟩,h.inj,h.zero⟩
theorem Hnd.other(h:Hnd w B r H s){b:Nat}{cs:Array Value}{T:TypeId}(hB:I0 w b cs T)(hT:T≠230)(hk:∀k,k<w.heap.size->k≠b->w'.heap[k]? =w.heap[k]?)(hs:w.heap.size <=w'.heap.size):Hnd w' B r H s:=by
 refine⟨?_,fun hp=>⟨(h.blk hp).1,?_⟩,h.inj,h.zero⟩
 ·obtain⟨Lt,h1,h2⟩:=h.map;have O1:=h1.lt;have X2:=h1.ne hB;obtain⟨es,ck,h3,h4⟩:=h1;exact⟨Lt,⟨es,ck,(hk r O1 X2).trans h3,h4⟩,h2⟩
 ·have h3:=(h.blk hp).2;exact(hk _ h3.lt (h3.ne hB (Ne.symm hT))).trans h3
theorem Hnd.start(w:World)(B:Nat):Hnd (w.alloc (.map #[] 0)) B w.heap.size (fun _=>none) st0:=
 ⟨⟨[],A5.made w ac0,fun _=>rfl⟩,fun h=>(by cases h),fun h=>(by cases h),fun _=>⟨rfl,rfl,rfl⟩⟩
theorem Hnd.new(h:Hnd w B r H s){p:Int×Int}{b:Nat}(hp:H p=none)(hb:I0 w b (arr 48 (ints fun _=>0)) 230)(hB:B <=b)(X2:∀{q c},H q=some c->c≠b){o:Obj}{Lt:List ((Int×Int)×Value)}
  (hL:∀p,O3 Lt p=(H p).map eo1) (hM:A5 (K1 w r o) r ac0 (bs0 Lt p (eo1 b))) (hr:∃L',A5 w r ac0 L'):Hnd (K1 w r o) B r (fun q=>if q=p then some b else H q) s:=by
 obtain⟨L',hr⟩:=hr;have hz:=h.zero hp;have hbr:∀{c:Nat}{cs:Array Value}{T:TypeId},I0 w c cs T->I0 (K1 w r o) c cs T:=fun{c cs T} hc=>by
  unfold I0;rw[dd0 _ _ (Ne.symm (hr.ne hc))];exact hc
 refine⟨⟨_,hM,fun q=>?_⟩,fun{q c} hq=>?_,fun{q1 q2 c} h1 h2=>?_,fun{q} hq=>?_⟩
 ·rw[om0,hL q];split <;> rfl
 ·by_cases hqp:q=p
  ·subst hqp;simp only[if_true,Option.some.injEq]at hq;subst hq;refine⟨hB,hbr (hb.H8 fun k _=>k4 (f:=fun _=>0) ?_)⟩;rw[hz.1,hz.2.1,hz.2.2];unfold E5;split <;> (try split) <;> rfl
  ·simp only[hqp,if_false]at hq;exact⟨(h.blk hq).1,hbr (h.blk hq).2⟩
 ·by_cases hq1:q1=p <;> by_cases hq2:q2=p
  ·rw[hq1,hq2]
  ·simp only[hq1,hq2,if_true,if_false,Option.some.injEq]at h1 h2;subst h1;exact absurd rfl (X2 h2)
  ·simp only[hq1,hq2,if_true,if_false,Option.some.injEq]at h1 h2;subst h2;exact absurd rfl (X2 h1)
  ·simp only[hq1,hq2,if_false]at h1 h2;exact h.inj h1 h2
 ·by_cases hqp:q=p
  ·simp only[hqp,if_true]at hq;cases hq
  ·simp only[hqp,if_false]at hq;exact h.zero hq
theorem Hnd.n6(h:Hnd w B r H s){e:Ev}{b:Nat}(hp:H (e.o,e.n)=some b)(hg:w.grownBy w' (some b))
  (hb:I0 w' b (arr 48 (ints (E5 (tkU e.k (tick s e) (s.un e.o e.n) (s.sh e.o e.n) (s.sd e.o e.n)) (tkS e.k (tick s e) (s.un e.o e.n) (s.sh e.o e.n) (s.sd e.o e.n)) (tkD e.k (tick s e) (s.un e.o e.n) (s.sh e.o e.n) (s.sd e.o e.n))))) 230):Hnd w' B r H (next s e):=by
 refine⟨?_,fun{q c} hq=>⟨(h.blk hq).1,?_⟩,h.inj,fun{q} hq=>?_⟩
 ·obtain⟨Lt,h1,h2⟩:=h.map;exact⟨Lt,h1.grown hg (by simpa using h1.ne (h.blk hp).2),h2⟩
 ·rw[Nq0,Nr0,Ns0];by_cases hqe:q=(e.o,e.n)
  ·subst hqe;rw[hp]at hq;cases hq;simpa using hb
  ·have X2:¬(q.1=e.o/\q.2=e.n):=fun hh=>hqe (Prod.ext hh.1 hh.2);rw[if_neg X2,if_neg X2,if_neg X2];exact(h.blk hq).2.grown hg (by
    intro hcb;cases hcb;exact hqe (h.inj hq hp))
 ·have X2:¬(q.1=e.o/\q.2=e.n):=fun hh=>by rw[show q=(e.o,e.n)from Prod.ext hh.1 hh.2,hp]at hq;cases hq
  rw[Nq0,Nr0,Ns0,if_neg X2,if_neg X2,if_neg X2];exact h.zero hq
end
section
variable{E:Nat->Ev}{n:Nat}{cl:Int}
theorem Nt0(cl:Int)(e:Ev):(((!(fk e.k).isSome ||decide (e.c<0)) ||decide (e.c ≥ cl))=true)↔Eo0 cl e:=by
 rw[Zl0];unfold Eo0;simp only[Bool.or_eq_true,Bool.not_eq_true',decide_eq_false_iff_not,decide_eq_true_eq];omega
theorem Qq0{i:Nat}(h1:¬(cl<0\/16<cl))(h2:¬1048576<n)(hi:i<n)(hb:Eo0 cl (E i)):check E n cl=110:=by
 unfold check;rw[if_neg h1,if_neg h2,if_neg (fun h=>h i hi hb)]
theorem ut0(h1:¬(cl<0\/16<cl))(h2:¬1048576<n)(h:okE E cl n):check E n cl=0:=by
 unfold check;rw[if_neg h1,if_neg h2,if_pos h]
end
section
variable{ρ:Operand->Value}{w:World}{d:Option Nat}{ty:TypeId}{ps:String}{af:Array Edge}{g:Option (Nat×Bool)}{x y:Operand}{r:Nat}
section
variable{k:Int}{p:Int×Int}{B:Nat}{H:Int×Int->Option Nat}{s:St}
theorem Zn0(hK:M7 w r)(hx:ρ x= .map (some r))(hy:ρ y= .i k):Go.Vy.Does prog (execOp ρ ⟨d,.lookup 219 x y true,ty,ps,af,g⟩) w (.val (.tuple #[((fk k).map fnV).getD .nilFunc,.bool (fk k).isSome])) w:=by
 obtain⟨Lk,h1,h2⟩:=hK;have h:=Go.Vy.ly0 (d:=d) (ty:=ty) (ps:=ps) (af:=af) (g:=g) (a:=k) underlying219 pl0 fp1 (ckI k) hx hy h1;rw[h2,Option.isSome_map]at h;exact h
theorem ny1{f:Nat}(hK:M7 w r)(hf:fk k=some f)(hx:ρ x= .map (some r))(hy:ρ y= .i k):Go.Vy.Does prog (execOp ρ ⟨d,.lookup 219 x y false,ty,ps,af,g⟩) w (.val (fnV f)) w:=by
 obtain⟨Lk,h1,h2⟩:=hK;have h:=Go.Vy.ki0 (d:=d) (ty:=ty) (ps:=ps) (af:=af) (g:=g) (a:=k) underlying219 pl0 fp1 (ckI k) hx hy h1;rw[h2,hf]at h;exact h
theorem Nu0(hH:Hnd w B r H s)(hx:ρ x= .map (some r))(hy:ρ y=ac0 p):Go.Vy.Does prog (execOp ρ ⟨d,.lookup 227 x y false,ty,ps,af,g⟩) w (.val (.pointer ((H p).map fun b=>⟨b,0,none⟩))) w:=by
 obtain⟨Lt,h1,h2⟩:=hH.map;have h:=Go.Vy.ki0 (d:=d) (ty:=ty) (ps:=ps) (af:=af) (g:=g) (a:=p) underlying227 Eq0 qs1 (ckP p) hx hy h1;rw[h2]at h;cases hp:H p with
 |none=>rw[hp]at h;exact h
 |some b=>rw[hp]at h;exact h
theorem Zo0{b:Nat}(hH:Hnd w B r H s)(hp:H p=some b)(hx:ρ x= .map (some r))(hy:ρ y=ac0 p):Go.Vy.Does prog (execOp ρ ⟨d,.lookup 227 x y false,ty,ps,af,g⟩) w (.val (.p b)) w:=by
 have h:=Nu0 (d:=d) (ty:=ty) (ps:=ps) (af:=af) (g:=g) hH hx hy;rw[hp]at h;exact h
end
end
theorem M7.gr2{w w':World}{r a b:Nat}{cs S6:Array Value}{T T':TypeId}(h:M7 w r)(hg:Gr2 w w' a b)(ha:I0 w a cs T)(hb:I0 w b S6 T'):M7 w' r:=let⟨Lk,h1,h2⟩:=h;⟨Lk,h1.gr2 hg (h1.ne ha) (h1.ne hb),h2⟩
theorem Hnd.gr2{w w':World}{B r a b:Nat}{H:Int×Int->Option Nat}{s:St}{cs S6:Array Value}(h:Hnd w B r H s)(hg:Gr2 w w' a b)(ha:I0 w a cs 226)(hb:I0 w b S6 225):Hnd w' B r H s:=
 ⟨let⟨Lt,h1,h2⟩:=h.map;⟨Lt,h1.gr2 hg (h1.ne ha) (h1.ne hb),h2⟩,fun hp=>⟨(h.blk hp).1,(h.blk hp).2.gr2 hg ((h.blk hp).2.ne ha Ud) ((h.blk hp).2.ne hb Ud)⟩,h.inj,h.zero⟩
theorem ho1(a b:Int):prog.built 152 [(0,.i a),(1,.i b)]=some #[.i a,.i b]:=by kernel_rfl
theorem wf1:prog.built 230 []=some (Array.replicate 48 (.i 0)):=by kernel_rfl
theorem nz1:Array.replicate 48 (Value.i 0)=arr 48 (ints fun _=>0):=qx0 48 _
theorem Zp0(s:St)(e:Ev):arr 16 (fun x=>if x=0+e.c.toNat*1 then Value.i ((s.now e.c.toNat (0+e.c.toNat*1)+1:Nat):Int) else ints (s.now e.c.toNat) x)=arr 16 (ints (tick s e)):=by
 refine do0 fun x _=>?_;unfold ints tick up;rw[show 0+e.c.toNat*1=e.c.toNat by omega];split <;> rfl
section
variable[Ctx prog]
theorem Qr0(a:Option Addr)(n c:Nat)(E:Nat->Ev)(cl:Int)(w0:World)(hE:yp0 w0 a n E)(hn:n <=9223372036854775807):C prog 65 #[.slice a n c,.i cl] w0 fun v w'=>((check E n cl≠0/\v= .tuple #[.slice none 0 0,.i (check E n cl)])\/(check E n cl=0/\∃bl,v= .tuple #[.slice (pt bl) n n,.i 0]/\I0 w' bl (arr (n*16) (ints (gb0 n (clk E)))) 225))/\Below w0.heap.size w0 w':=by
 refine C.enter (n:=112) func65 rfl rfl<|U2 ?_;intro hb;refine L.va (kg0 rfl)<|U118 ?_;refine L.va (jo0 rfl rfl)<|L.va (n8 rfl)<|L.kk0 3 [20,21,22,23] 23 (.bool (decide (cl<0\/16<cl))) (tj:=20) rfl (fun oa1=>?_) (fun oa1=>?_) (fun f=>?_)
 ·refine L.off rfl<|L.off rfl<|U32 ?_;refine⟨rfl,congrArg Value.bool (by first|exact ii1 oa1|(simp_all;done)|(rw[Bool.eq_iff_iff];simp_all;omega)),?_⟩;exact Ug
 ·refine L.on rfl<|U26 ?_;refine L.va (lr0 rfl rfl)<|U19 ?_;refine⟨rfl,congrArg Value.bool (by first|exact ij1 oa1|(simp_all;done)|(rw[Bool.eq_iff_iff];simp_all;omega)),?_⟩;exact Ug
 refine U1 ?_;refine W.m6 rfl (fun h23=>?_) (fun h23=>?_)
 ·refine W.seq<|U346 ?_;have hch:check E n cl=2:=by unfold check;rw[if_pos h23]
  exact⟨.inl ⟨by rw[hch];decide,by rw[hch];rfl⟩,hb⟩
 ·refine W.skip ?_;show W _ _ _ _ _ _;refine W.seq<|U134 ?_;refine L.va (lr0 rfl rfl)<|U1 ?_;refine W.m6 rfl (fun h26=>?_) (fun h26=>?_)
  ·refine W.seq<|U346 ?_;have hch:check E n cl=1:=by unfold check;rw[if_neg h23,if_pos Uo]
   exact⟨.inl ⟨by rw[hch];decide,by rw[hch];rfl⟩,hb⟩
  ·refine W.skip<|U52 ?_;refine L.call (lb0  func125 rfl ry1 rfl) (ej1 _) ?_;rintro _ w ⟨rk,rfl,Bo1,hK,L2⟩;have hb:=B0 hb L2;refine L.va (rw0 rfl)<|U5 ?_;refine U134 ?_;refine U22 ?_;refine W.loop (fun k e w=>∃i:Nat,k=n-i/\e 0= .slice a n c/\e 1= .i cl/\e 6= .map (some rk)/\e 28= .slice a n c/\e 29= .i (n:Int)/\e 30= .i (i:Int)/\Below w0.heap.size w0 w/\i <=n/\M7 w rk/\okE E cl i) _ ⟨0,rfl,rfl,rfl,rfl,rfl,rfl,rfl,hb,Nat.zero_le _,hK,fun x hx=>absurd hx (Nat.not_lt_zero x)⟩ ?_;rintro k e w ⟨i,hk,s0,s1,s6,s28,s29,s30,hb,hi,hK,hok⟩;rw[L0 s0,L0 s1,L0 s6,L0 s28,L0 s29,L0 s30];clear s0 s1 s6 s28 s29 s30;refine U12 ?_;refine W.m6 rfl (fun h31=>?_) (fun h31=>?_)
   ·refine W.skip<|U142 ?_;refine U0 ?_;refine U275 ?_;refine L.alloc Ti0 rfl (fun w b8 F8=>?_);have hi:i<n:=by omega
    have h8:w0.heap.size <=b8:=by have:=F8.here;have:=hb.size;omega
    have hb:=B0 hb F8.below;have hK:=hK.j0 F8.below;refine L.storeAll (vs:=[Value.i (E i).c,.i (E i).k,.i (E i).o,.i (E i).n]) rfl rfl rfl wj0 rfl rfl (by simp[Value.oneCell']) F8.blk (fun w hB8 hg H2=>?_);have oh0:some rk≠some b8:=by obtain⟨Lk,hMk,_⟩:=hK;simpa using hMk.ne F8.blk
    have hK:=hK.grown hg oh0;have hb:=W3 hb hb.size hg h8;refine U6 ?_;refine L.va (pt0 rfl)<|U71 ?_;refine L.va (q0 rfl underlying3 rfl (hB8.cell (v:=.i (E i).k) rfl))<|L.va (Zn0 hK rfl rfl)<|U80 ?_;refine L.va Q5<|U65 ?_;refine L.va (n8 rfl)<|L.va (pv0 rfl)<|L.va (n8 rfl)<|L.kk0 4 [44,45,46,47,48] 48 (.bool (!(fk (E i).k).isSome ||decide ((E i).c<0))) (tj:=44) rfl (fun ob1=>?_) (fun ob1=>?_) (fun f=>?_)
    ·refine L.off rfl<|U47 ?_;refine U32 ?_;refine⟨rfl,congrArg Value.bool (by rw[ob1];rfl),?_⟩;exact Ug
    ·refine L.on rfl<|U515 ?_;refine L.on rfl<|L.va (jo0 rfl rfl)<|U19 ?_;refine⟨rfl,congrArg Value.bool (by rw[ob1];rfl),?_⟩;exact Ug
    refine L.va (n8 rfl)<|L.kk0 5 [49,50,51,52,53,54] 54 (.bool ((!(fk (E i).k).isSome ||decide ((E i).c<0)) ||decide ((E i).c ≥ cl))) (tj:=49) rfl (fun oc1=>?_) (fun oc1=>?_) (fun f=>?_)
    ·refine L.off rfl<|U82 ?_;refine U32 ?_;refine⟨rfl,congrArg Value.bool (by rw[oc1];rfl),?_⟩;exact Ug
    ·refine L.on rfl<|U515 ?_;refine L.on rfl<|U26 ?_;refine L.va (zp0 rfl rfl)<|U19 ?_;refine⟨rfl,congrArg Value.bool (by rw[oc1];rfl),?_⟩;exact Ug
    refine U1 ?_;refine W.cond rfl (fun h54=>?_) (fun h54=>?_)
    ·refine W.seq<|U346 ?_;have hch:check E n cl=110:=Qq0 h23 Uo hi ((Nt0 cl (E i)).1 h54);exact⟨.inl ⟨by rw[hch];decide,by rw[hch];rfl⟩,hb⟩
    ·refine W.skip<|U27 ?_;exact⟨_,by omega,⟨i+1,rfl,rfl,rfl,rfl,rfl,rfl,rfl,hb,by omega,hK,fun x hx=>by
       by_cases hxi:x=i
       ·subst hxi;intro Ba1;rw[(Nt0 cl (E x)).2 Ba1]at h54;cases h54
       ·exact hok x Uo⟩⟩
   ·refine W.exit<|U75 ?_;refine U52 ?_;refine L.alloc qr1 rfl (fun w b11 F11=>?_);have hbn:w0.heap.size <=b11:=by have:=F11.here;have:=hb.size;omega
    have hb:=B0 hb F11.below;have hK:=hK.j0 F11.below;have hN:I0 w b11 (Array.replicate 256 (Value.i 0)) 226:=F11.blk;rw[em1]at hN;refine U6 ?_;refine L.va pk0 ?_;have hH:Hnd _ w0.heap.size _ _ st0:=Hnd.start w w0.heap.size;have hba:=kw0 w (.map #[] 0);have hrt:w0.heap.size <=w.heap.size:=hb.size;have hrk:rk<w.heap.size:=by obtain⟨Lk,hMk,_⟩:=hK;exact hMk.lt
    have hb:=B0 hb hba;have hK:=hK.j0 hba;have hN:=hN.j0 hba;clear hba;generalize w.alloc (.map #[] 0)=w2 at hb hK hN hH⊢;generalize w.heap.size=rt at hrt hrk hH⊢;generalize w2=w at hb hK hN hH⊢;refine L.va (rw0 rfl)<|U1 ?_;refine U134 ?_;refine L.make rfl rfl underlying146 qq1 rfl Ud Uo Uo (fun w bl F59=>?_);have hbl:w0.heap.size <=bl:=by have:=F59.here;have:=hb.size;omega
    have hb:=B0 hb F59.below;have hK:=hK.j0 F59.below;have hN:=hN.j0 F59.below;have hH:=hH.j0 F59.below;have hLb:=F59.blk;rw[Zm0 n (clk E)]at hLb;refine U105 ?_;refine U134 ?_;refine U22 ?_;have hok:okE E cl n:=(show i=n by omega)▸hok;have y7:cl <=16:=by omega
    clear hi;refine W.loop (fun k e w=>∃j:Nat,∃H:Int×Int->Option Nat,k=n-j/\e 0= .slice a n c/\e 1= .i cl/\e 6= .map (some rk)/\e 11= .p b11/\e 12= .map (some rt)/\e 13= .slice (pt bl) n n/\e 60= .slice a n c/\e 61= .i (n:Int)/\e 62= .i (j:Int)/\Below w0.heap.size w0 w/\j <=n/\M7 w rk/\I0 w b11 (arr 256 (ints (on0 (Q9 E j).now))) 226/\I0 w bl (arr (n*16) (ints (gb0 j (clk E)))) 225/\Hnd w w0.heap.size rt H (Q9 E j)) _ ⟨0,_,rfl,rfl,rfl,rfl,rfl,rfl,rfl,rfl,rfl,rfl,hb,Nat.zero_le _,hK,hN,hLb,hH⟩ ?_;rintro k e w ⟨j,H,hk,s0,s1,s6,s11,s12,s13,s60,s61,s62,hb,hjn,hK,hN,hLb,hH⟩;rw[L0 s0,L0 s1,L0 s6,L0 s11,L0 s12,L0 s13,L0 s60,L0 s61,L0 s62];clear s0 s1 s6 s11 s12 s13 s60 s61 s62;refine U12 ?_;refine W.m6 rfl (fun h63=>?_) (fun h63=>?_)
    ·refine W.skip<|U142 ?_;refine W.seq ?_;have hj:j<n:=by omega
     obtain⟨hc0,hc1,hk0,hk1⟩:=hok.at hj;have Bp1:(E j).c.toNat<16:=by omega
     refine U136 ?_;refine U275 ?_;refine L.alloc Ti0 rfl (fun w b15 F15=>?_);have h15:w0.heap.size <=b15:=by have:=F15.here;have:=hb.size;omega
     have hb:=B0 hb F15.below;have hK:=hK.j0 F15.below;have hN:=hN.j0 F15.below;have hLb:=hLb.j0 F15.below;have hH:=hH.j0 F15.below;refine L.va (fd0 rfl)<|L.storeAll (vs:=[Value.i (E j).c,.i (E j).k,.i (E j).o,.i (E j).n]) rfl rfl rfl wj0 rfl rfl (by simp[Value.oneCell']) F15.blk (fun w l8 hg H2=>?_);have oh0:some rk≠some b15:=by obtain⟨Lk,hMk,_⟩:=hK;simpa using hMk.ne F15.blk
     have hK:=hK.grown hg oh0;have hN:=hN.grown hg (by have:=hN.ne F15.blk Ud;simpa using this);have hH:=hH.other F15.blk Ud (fun k hk X2=>hg.block k hk (by simpa using X2)) hg.size;have hb:=W3 hb hb.size hg h15;have hLb:=hLb.grown hg (by have:=hLb.ne F15.blk Ud;simpa using this);refine U6 ?_;refine U71 ?_;refine L.va (q0 rfl underlying3 rfl (l8.cell (v:=.i (E j).o) rfl))<|U71 ?_;refine L.va (q0 rfl underlying3 rfl (l8.cell (v:=.i (E j).n) rfl))<|L.va (P2 (parts:=[(0,.tmp 69),(1,.tmp 72)]) rfl (ho1 _ _))<|L.alloc fm1 rfl (fun w b16 F16=>?_);have h16:w0.heap.size <=b16:=by have:=F16.here;have:=hb.size;omega
     have hb:=B0 hb F16.below;have hK:=hK.j0 F16.below;have hN:=hN.j0 F16.below;have hLb:=hLb.j0 F16.below;have hH:=hH.j0 F16.below;have l8:=l8.j0 F16.below;refine L.storeAll (vs:=[.i (E j).o,.i (E j).n]) rfl rfl rfl Fw0 rfl rfl (by simp[Value.oneCell']) F16.blk (fun w es0 hg H2=>?_);have oh0:some rk≠some b16:=by obtain⟨Lk,hMk,_⟩:=hK;simpa using hMk.ne F16.blk
     have hK:=hK.grown hg oh0;have hN:=hN.grown hg (by have:=hN.ne F16.blk Ud;simpa using this);have hH:=hH.other F16.blk Ud (fun k hk X2=>hg.block k hk (by simpa using X2)) hg.size;have hb:=W3 hb hb.size hg h16;have hLb:=hLb.grown hg (by have:=hLb.ne F16.blk Ud;simpa using this);have l8:=l8.grown hg (by have:=l8.ne F16.blk Ud;simpa using this);refine U28 ?_;refine U479 ?_;refine L.va (Nu0 (p:=((E j).o,(E j).n)) hH rfl rfl)<|L.va (v5 rfl rfl underlying228)<|U1 ?_;refine W.ww1 [78,79,80,81] (fun w'=>∃(H:Int×Int->Option Nat) (hb:Nat),H ((E j).o,(E j).n)=some hb/\Hnd w' w0.heap.size rt H (Q9 E j)/\Below w0.heap.size w0 w'/\w.heap.size <=w'.heap.size/\M7 w' rk/\I0 w' b11 (arr 256 (ints (on0 (Q9 E j).now))) 226/\I0 w' bl (arr (n*16) (ints (gb0 j (clk E)))) 225/\I0 w' b15 (List.toArray [Value.i (E j).c,.i (E j).k,.i (E j).o,.i (E j).n]) 67/\I0 w' b16 (List.toArray [Value.i (E j).o,.i (E j).n]) 152) ?_ (fun f77 w hR=>?_)
     ·refine W.cond rfl (fun h77=>?_) (fun h77=>?_)
      ·refine W.region rfl<|U479 ?_;refine L.va (P2 (parts:=[]) rfl wf1)<|L.box rfl rfl (fun w b81 F81=>?_);have wg1:I0 w b81 (Array.replicate 48 (Value.i 0)) 230:=F81.blk;rw[nz1]at wg1;obtain⟨Lt,hMt,hLt⟩:=hH.map;have hH1:=hH.j0 F81.below;have Qs0:=hMt.j0 F81.below;refine L.At1 (κ:=ac0) (a:=((E j).o,(E j).n)) (v:=eo1 b81) underlying227 Eq0 (ckP _) rfl rfl rfl Qs0 (fun o hM2=>?_);have hp:H ((E j).o,(E j).n)=none:=by cases hh:H ((E j).o,(E j).n)with|none=>rfl|some x=>rw[hh]at h77;cases h77
       have hH2:=hH1.new hp wg1 (by have:=F81.here;have:=hb.size;omega) (fun{q c} hq=>by have:=(hH.blk hq).2.lt;have:=F81.here;omega) hLt hM2 ⟨Lt,Qs0⟩;have hb2:=W2 (B0 hb F81.below) hrt o;have hK2:=(hK.j0 F81.below).grown (is0 w rt o) (by simp;omega);refine L.nil<|T.nrm ⟨Ug,_,b81,if_pos rfl,hH2,hb2,?_,hK2,(hN.j0 F81.below).K1 Qs0 o,(hLb.j0 F81.below).K1 Qs0 o,(l8.j0 F81.below).K1 Qs0 o,(es0.j0 F81.below).K1 Qs0 o⟩;rw[kh0];exact F81.below.size
      ·refine W.skip<|T.nrm ⟨bk0.refl _ _,?_⟩;cases hp:H ((E j).o,(E j).n)with
       |none=>rw[hp]at h77;cases h77
       |some l7=>exact⟨H,l7,hp,hH,hb,Nat.le_refl _,hK,hN,hLb,l8,es0⟩
     ·clear hH hb hK hN hLb l8 es0;obtain⟨H,hbk,hp,hH,hb,H2,hK,hN,hLb,l8,es0⟩:=hR;refine U52 ?_;refine U448 ?_;refine L.va (G8 rfl rfl underlying226 Z4 Uo Uo)<|L.va (H3 rfl underlying225 rfl Z4 hN Uo (fun k hk=>ek1 _ hk))<|L.alloc Tp0 rfl (fun w b17 F17=>?_);have h17:w0.heap.size <=b17:=by have:=F17.here;have:=hb.size;omega
      have hnl:b17≠bl:=by have:=F17.here;have:=hLb.lt;omega
      have hb:=B0 hb F17.below;have hK:=hK.j0 F17.below;have hN:=hN.j0 F17.below;have hLb:=hLb.j0 F17.below;have hH:=hH.j0 F17.below;have l8:=l8.j0 F17.below;have es0:=es0.j0 F17.below;refine L.storeAll (vs:=(arr 16 (ints ((Q9 E j).now (E j).c.toNat))).toList) rfl rfl rfl Z4 (Cx0 _ _) rfl (Lw0 (fun _=>rfl)) F17.blk (fun w dl0 hg H2=>?_);have oh0:some rk≠some b17:=by obtain⟨Lk,hMk,_⟩:=hK;simpa using hMk.ne F17.blk
      have hK:=hK.grown hg oh0;have hN:=hN.grown hg (by have:=hN.ne F17.blk Ud;simpa using this);have hH:=hH.other F17.blk Ud (fun k hk X2=>hg.block k hk (by simpa using X2)) hg.size;refine U311 ?_;intro hb hLb;have l8:=l8.grown hg (by have:=l8.ne F17.blk Ud;simpa using this);have es0:=es0.grown hg (by have:=es0.ne F17.blk Ud;simpa using this);have dl0:I0 w b17 (arr 16 (ints ((Q9 E j).now (E j).c.toNat))) 225:=dl0;refine U6 ?_;refine U448 ?_;refine L.va (G8 rfl rfl underlying225 sz3 Uo Uo)<|L.va (q0 rfl underlying3 rfl (dl0.cell (T6 Uo))) ?_;have hle:=nx1 E j (fun i hi=>(hok.at Uo).1) (E j).c.toNat (0+(E j).c.toNat*1);refine L.va (ry0 rfl rfl Uo)<|L.va (G8 rfl rfl underlying225 sz3 Uo Uo)<|L.store (b:=b17) (o:=0+(E j).c.toNat*1) (v:=.i (((Q9 E j).now (E j).c.toNat (0+(E j).c.toNat*1)+1:Nat):Int)) rfl rfl sz3 rfl dl0 (by rw[I4];omega) ?_;have hg:=ft0 w ⟨b17,0+(E j).c.toNat*1,none⟩ (.i (((Q9 E j).now (E j).c.toNat (0+(E j).c.toNat*1)+1:Nat):Int));have qn0:=dl0.set (o:=0+(E j).c.toNat*1) (.i (((Q9 E j).now (E j).c.toNat (0+(E j).c.toNat*1)+1:Nat):Int));rw[Lv0,Zp0]at qn0;generalize w.setCell ⟨b17,0+(E j).c.toNat*1,none⟩ (.i (((Q9 E j).now (E j).c.toNat (0+(E j).c.toNat*1)+1:Nat):Int))=w1 at hg qn0⊢;refine U518 ?_;intro oh0 hK;refine U465 ?_;intro hN hH;refine U311 ?_;intro hb hLb;have l8:=l8.grown hg (by have:=l8.ne dl0 Ud;simpa using this);have es0:=es0.grown hg (by have:=es0.ne dl0 Ud;simpa using this);have dl0:=qn0;clear qn0 hg;generalize w1=w at hb hK hN hLb hH l8 es0 dl0⊢;refine U5 ?_;obtain⟨f,fn,hf,hfn,hbd,hnm,htk⟩:=nw1 (E j).k ⟨hk0,hk1⟩;refine W.po1 9 (fun w'=>Below w.heap.size w w') (fun w'=>I0 w' hbk (arr 48 (ints (E5 (tkU (E j).k (tick (Q9 E j) (E j)) ((Q9 E j).un (E j).o (E j).n) ((Q9 E j).sh (E j).o (E j).n) ((Q9 E j).sd (E j).o (E j).n)) (tkS (E j).k (tick (Q9 E j) (E j)) ((Q9 E j).un (E j).o (E j).n) ((Q9 E j).sh (E j).o (E j).n) ((Q9 E j).sd (E j).o (E j).n)) (tkD (E j).k (tick (Q9 E j) (E j)) ((Q9 E j).un (E j).o (E j).n) ((Q9 E j).sh (E j).o (E j).n) ((Q9 E j).sd (E j).o (E j).n))))) 230/\w.grownBy w' (some hbk)) (bz0 (clk E j)) Uk Uk Uk Uk rfl ((Below.refl w.heap.size w).drew)<|D.va (fun w' W0=>(pt0 rfl))<|D.va (fun w' W0=>(A0 rfl underlying67 rfl qp0 Ud))<|D.va (fun w' W0=>(A0 rfl underlying65 rfl sz3 Ud))<|D.va (fun w' W0=>(q0 rfl underlying3 rfl ((l8.j0 W0).cell (v:=.i (E j).k) rfl)))<|D.va (fun w' W0=>ny1 (hK.j0 W0) hf rfl rfl)<|D.va (fun w' W0=>(pt0 rfl))<|D.va (fun w' W0=>(A2 rfl underlying152 rfl Fw0 rfl ((es0.j0 W0).all)))<|D.va (fun w' W0=>Zo0 (p:=((E j).o,(E j).n)) (hH.j0 W0) hp rfl rfl)<|D.va (fun w' W0=>(H3 rfl underlying225 rfl Z4 (dl0.j0 W0) Ud (fun k _=>by rw[Nat.zero_add])))<|D.nil ⟨?_,?_⟩
      ·intro w' W0;refine⟨f,_,sj0 rfl rfl rfl hfn hbd hnm,(htk hbk _ _ _ _ w' ((hH.j0 W0).blk hp).2).mono (fun v w'' h=>⟨h.1,h.2.1,gj0 (aq0 (ap0 w _) W0) h.2.2⟩)⟩
      ·rintro w' ⟨hBh,hg⟩;have hold:=(hH.blk hp).2;have oh0:some rk≠some hbk:=by obtain⟨Lk,hMk,_⟩:=hK;simpa using hMk.ne hold
       have dl0:=dl0.grown hg (by have:=dl0.ne hold Ud;simpa using this);refine⟨_,L4 rfl rfl Z4 (fun k=>rfl) dl0 Ud,?_⟩;have hb:=W3 hb hb.size hg (hH.blk hp).1;have hH:=hH.n6 hp hg hBh;have hK:=hK.grown hg oh0;have hN:=hN.grown hg (by have:=hN.ne hold Ud;simpa using this);have hLb:=hLb.grown hg (by have:=hLb.ne hold Ud;simpa using this);have l8:=l8.grown hg (by have:=l8.ne hold Ud;simpa using this);have qn0:=(T2 _ (arr 16 (fun x=>if 0 <=x/\x<0+16 then ints (clk E j) (x-0) else ints (tick (Q9 E j) (E j)) x)) 225 dl0).H8 (fun x hx=>og0 _ (clk E j) hx);have hg:=ar0 (ap0 w' (some b17)) (.inl rfl) (arr 16 (fun x=>if 0 <=x/\x<0+16 then ints (clk E j) (x-0) else ints (tick (Q9 E j) (E j)) x)) 225;generalize R4 w' b17 (arr 16 (fun x=>if 0 <=x/\x<0+16 then ints (clk E j) (x-0) else ints (tick (Q9 E j) (E j)) x)) 225=w1 at hg qn0⊢;refine U518 ?_;intro oh0 hK;refine U465 ?_;intro hN hH;refine U311 ?_;intro hb hLb;have l8:=l8.grown hg (by have:=l8.ne dl0 Ud;simpa using this);have dl0:=qn0;clear qn0 hg hBh;generalize w1=w at hb hK hN hLb hH l8 dl0⊢;show W _ _ _ _ _ _;refine W.Ac0 Uk Uk fun V _ _=>⟨fun D w'=>Gr2 w w' b11 bl/\I0 w' b11 (if D 7=true then arr 256 (ints (on0 (up (Q9 E j).now (E j).c.toNat (clk E j)))) else arr 256 (ints (on0 (Q9 E j).now))) 226/\I0 w' bl (if D 9=true then arr (n*16) (ints (gb0 (j+1) (clk E))) else arr (n*16) (ints (gb0 j (clk E)))) 225,⟨Sd0 w b11 bl,hN,hLb⟩,?_⟩
       have ep1:b15≠b11/\b15≠bl:=⟨l8.ne hN Ud,l8.ne hLb Ud⟩
       have eq1:b17≠b11/\b17≠bl:=⟨dl0.ne hN Ud,hnl⟩
       have hnb:b11≠bl:=hN.ne hLb Ud;refine J.va (fun D w' _ _ _ hJ=>A0 rfl underlying67 rfl sz3 Ud) (fun D w' hJ=>hJ)<|J.va (fun D w' _ _ _ hJ=>q0 rfl underlying3 rfl ((l8.gr2 hJ.1 ep1.1 ep1.2).cell (v:=.i (E j).c) rfl)) (fun D w' hJ=>hJ)<|J.va (fun D w' _ _ _ hJ=>dx0 rfl) (fun D w' hJ=>hJ)<|J.va (fun D w' _ _ _ hJ=>N3 rfl) (fun D w' hJ=>hJ)<|J.va (fun D w' _ _ _ hJ=>H3 rfl underlying225 rfl Z4 (dl0.gr2 hJ.1 eq1.1 eq1.2) Ud (fun k _=>by rw[Nat.zero_add])) (fun D w' hJ=>hJ)<|J.va (fun D w' _ _ _ hJ=>H3 rfl underlying225 rfl Z4 (dl0.gr2 hJ.1 eq1.1 eq1.2) Ud (fun k _=>by rw[Nat.zero_add])) (fun D w' hJ=>hJ)<|J.va (fun D w' _ _ _ hJ=>G8 rfl rfl underlying226 Z4 Uo Uo) (fun D w' hJ=>hJ)<|J.st (fun D w' hD _ _ hJ=>?_) ?_
       ·obtain⟨hJ1,hJ2,hJ3⟩:=hJ;simp only[hD,Bool.false_eq_true,if_false]at hJ2;refine⟨_,L4 rfl rfl Z4 (fun k=>rfl) hJ2 Uo,Lx0 hJ1 (.inl rfl) _ _,?_,?_⟩
        ·rw[if_pos (by rfl)];exact(T2 _ _ _ hJ2).H8 (fun x _=>el1 _ _)
        ·exact hJ3.A3 (Ne.symm hnb) _ _
       refine J.va (fun D w' _ _ _ hJ=>Q7 rfl rfl underlying146 Z4 (SL.mk _ _ _) Uo) (fun D w' hJ=>hJ)<|J.st (fun D w' hD _ _ hJ=>?_) ?_
       ·obtain⟨hJ1,hJ2,hJ3⟩:=hJ;simp only[hD,Bool.false_eq_true,if_false]at hJ3;refine⟨_,L4 rfl rfl Z4 (fun k=>rfl) hJ3 (by show 0+j*16+16 <=n*16;omega),Lx0 hJ1 (.inr rfl) _ _,?_,?_⟩
        ·exact hJ2.A3 hnb _ _
        ·rw[if_pos (by rfl)];exact(T2 _ _ _ hJ3).H8 (fun x _=>en1 (clk E))
       refine J.nil ?_;rintro D w' hD ⟨hJ1,hJ2,hJ3⟩;rw[if_pos (hD 7 Ud)]at hJ2;rw[if_pos (hD 9 Ud)]at hJ3;have hH:=hH.gr2 hJ1 hN hLb;have hK:=hK.gr2 hJ1 hN hLb;have hb:=Ol0 hb hb.size hJ1 hbn hbl;have hN:=hJ2;have hLb:=hJ3;refine U27 ?_;exact⟨_,by omega,⟨j+1,H,rfl,rfl,rfl,rfl,rfl,rfl,rfl,rfl,rfl,rfl,hb,by omega,hK,hN,hLb,hH⟩⟩
    ·refine W.exit<|U75 ?_;show W _ _ _ _ _ _;refine U23 ?_;refine U338 ?_;obtain rfl:j=n:=by omega
     exact⟨.inr ⟨ut0 h23 Uo hok,_,rfl,hLb⟩,hb⟩
end
section
variable{i k n:Nat}{w:World}
theorem Lg0[Ctx prog](a:Option Addr)(n c:Nat)(E:Nat->Ev)(cl:Int)(w0:World)(hE:yp0 w0 a n E)(hn:n <=9223372036854775807)(hc:check E n cl=0):C prog 65 #[.slice a n c,.i cl] w0 fun v w'=>∃bl,v= .tuple #[.slice (pt bl) n n,.i 0]/\I0 w' bl (arr (n*16) (ints (gb0 n (clk E)))) 225/\Below w0.heap.size w0 w':=
 (Qr0 a n c E cl w0 hE hn).mono fun v w' h=>by
  rcases h.1 with h1|⟨_,bl,h2,h3⟩
  ·exact absurd hc h1.1
  ·exact⟨bl,h2,h3,h.2⟩
theorem er1(n:Nat)(f:Nat->Nat->Nat)(hi:i<n)(hk:k<16):ints (gb0 n f) (0+i*16+k)=ints (f i) k:=by
 refine k4 (f:=fun k=>gb0 n f (0+i*16+k)) ?_;simp only[gb0];rw[show(0+i*16+k)/16=i by omega,show(0+i*16+k)%16=k by omega,if_pos hi]
theorem Ih0{bl:Nat}{f:Nat->Nat->Nat}(h:I0 w bl (arr (n*16) (ints (gb0 n f))) 225)(hi:i<n)(hk:k<16):w.cell? ⟨bl,0+i*16+k*1,none⟩=some (.i (f i k:Int)):=by
 rw[Nat.mul_one,h.cell (T6 (show 0+i*16+k<n*16 by omega)),er1 n f hi hk];rfl
theorem kq0{B:Nat}{E T:TypeId}{s:Nat}{oa:Option Addr}{oc b:Nat}{xs:List Value}{cs:Array Value}(h:Own w B E s oa n oc xs)(hB:I0 w b cs T)(hT:T≠E):some b≠Value.ownBlock (.slice oa n oc):=by
 intro hh;cases oa with
 |none=>cases hh
 |some q=>
  simp only[Value.ownBlock,Option.some.injEq]at hh;obtain⟨cur,hc,_⟩:=h.row (by simp);exact(hB.ne hc hT) hh
theorem es1(E:Nat->Ev){j:Nat}{cl:Int}(hok:okE E cl n)(hi:i<n)(hj:j<n):(decide (i<j)&&decide ((clk E i (E i).c.toNat:Int) <=(clk E j (E i).c.toNat:Int)))=ahB E i j:=by
 rw[Bool.eq_iff_iff];simp only[Bool.and_eq_true,decide_eq_true_eq];unfold ahB;simp only[decide_eq_true_eq];constructor
 ·rintro⟨h1,h2⟩;exact(Ck0 E h1 (fun x hx=>(hok.at Uo).1)).2 Uo
 ·intro h;have O1:=h.lt;have:=(Ck0 E O1 (fun x hx=>(hok.at Uo).1)).1 h;exact⟨O1,by omega⟩
end
def M5(E:Nat->Ev)(j:Nat)(p:Int×Int):List Nat:=(List.range j).filter fun i=>decide (acc (E i))&&((E i).o==p.1&&(E i).n==p.2)
theorem pm0(E:Nat->Ev)(j:Nat)(p:Int×Int):M5 E (j+1) p=M5 E j p++(if acc (E j)/\(E j).o=p.1/\(E j).n=p.2 then [j] else []):=by
 unfold M5;rw[List.range_succ,List.filter_append];congr 1;by_cases h:acc (E j)/\(E j).o=p.1/\(E j).n=p.2
 ·simp[h]
 ·rw[if_neg h];simp only[List.filter_cons,List.filter_nil];rw[if_neg];simpa using h
theorem en0{E:Nat->Ev}{j i:Nat}{p:Int×Int}:i∈M5 E j p↔i<j/\acc (E i)/\(E i).o=p.1/\(E i).n=p.2:=by
 unfold M5;simp[List.mem_filter]
theorem uu0(E:Nat->Ev)(p:Int×Int)(j:Nat):(M5 E j p).length <=j:=by
 unfold M5;exact Nat.le_trans (List.length_filter_le _ _) (by simp)
theorem Ii0(E:Nat->Ev)(p:Int×Int)(j:Nat):(M5 E j p).Pairwise (· < ·):=List.Pairwise.filter _ List.pairwise_lt_range
def yv0(L:List Nat):List Value:=L.map fun i:Nat=>.i (i:Int)
section
variable{i j:Nat}{E:Nat->Ev}{p:Int×Int}
theorem uv0{L:List Nat}{t:Nat}(h:L[t]? =some i):(yv0 L)[t]? =some (.i (i:Int)):=by simp[yv0,h]
theorem Qt0(L:List Nat)(j:Nat):yv0 (L ++ [j])=yv0 L ++ [.i (j:Int)]:=by simp[yv0]
theorem Zq0{s:Nat}(hp:p=((E j).o,(E j).n))(r9:∀t x,t<s->(M5 E j p)[t]? =some x->ba0 E x j=false)(hs:(M5 E j p)[s]? =some i):∀x,x<i->ba0 E x j=false:=by
 intro x hx;cases hr:ba0 E x j with
 |false=>rfl
 |true=>
  have hij:i<j:=(en0.1 (List.mem_of_getElem? hs)).1;have hm:x∈M5 E j p:=by
   unfold ba0 at hr;simp only[Bool.and_eq_true,decide_eq_true_eq]at hr;obtain⟨⟨⟨⟨⟨h1,h2⟩,h3⟩,h4,h5⟩,h6⟩,h7⟩:=hr;exact en0.2 ⟨by omega,h1,by rw[hp];exact h4,by rw[hp];exact h5⟩
  obtain⟨t,ht⟩:=List.mem_iff_getElem?.1 hm;have hts:t<s:=by
   apply Nat.lt_of_not_le;intro hle;have Bq1:t≠s:=fun h=>by subst h;rw[hs]at ht;cases ht;omega
   obtain⟨h1,h2⟩:=List.getElem?_eq_some_iff.1 ht;obtain⟨h3,h4⟩:=List.getElem?_eq_some_iff.1 hs;have:=List.pairwise_iff_getElem.1 (Ii0 E p j) s t h3 h1 Uo;omega
  rw[r9 t x hts ht]at hr;cases hr
theorem et1(hp:p=((E j).o,(E j).n))(r9:∀t x,t<(M5 E j p).length->(M5 E j p)[t]? =some x->ba0 E x j=false):∀x,x<j->ba0 E x j=false:=by
 intro x hx;cases hr:ba0 E x j with
 |false=>rfl
 |true=>
  have hm:x∈M5 E j p:=by
   unfold ba0 at hr;simp only[Bool.and_eq_true,decide_eq_true_eq]at hr;obtain⟨⟨⟨⟨⟨h1,h2⟩,h3⟩,h4,h5⟩,h6⟩,h7⟩:=hr;exact en0.2 ⟨hx,h1,by rw[hp];exact h4,by rw[hp];exact h5⟩
  obtain⟨t,ht⟩:=List.mem_iff_getElem?.1 hm;have:=(List.getElem?_eq_some_iff.1 ht).1;rw[r9 t x this ht]at hr;cases hr
theorem kx0(h:∀x,x<j->ba0 E x j=false):N4 E (j+1)=N4 E j:=by
 simp only[N4,jj0 h,eh1,List.append_nil]
theorem Ij0(h:∀x,x<i->ba0 E x j=false)(hi:ba0 E i j=true)(hij:i<j):N4 E (j+1)=N4 E j ++ [(i,j)]:=by
 simp only[N4,of0 h hi hij,eh1]
theorem Ik0(hp:p=((E j).o,(E j).n))(hj:acc (E j))(hi:i∈M5 E j p):ba0 E i j=(decide ((E i).c≠(E j).c/\((E i).k=9\/(E j).k=9)) && !ahB E i j):=by
 obtain⟨h1,h2,h3,h4⟩:=en0.1 hi;rw[hp]at h3 h4;simp only at h3 h4;unfold ba0;congr 1;rw[decide_eq_decide];constructor
 ·rintro⟨⟨⟨_,h⟩,_⟩,h'⟩;exact⟨h',h⟩
 ·rintro⟨h',h⟩;exact⟨⟨⟨⟨h2,hj⟩,h⟩,h3,h4⟩,h'⟩
theorem Lh0(h:¬acc (E j)):∀x,x<j->ba0 E x j=false:=by
 intro x _;unfold ba0;rw[decide_eq_false (by rintro⟨⟨⟨⟨_,h'⟩,_⟩,_⟩,_⟩;exact h h')];rfl
end
structure ev0(w:World)(B r:Nat)(E:Nat->Ev)(j:Nat)(A:Int×Int->Option Addr)(Cc:Int×Int->Nat):Prop where
 map:∃Lm:List ((Int×Int)×Value),A5 w r ac0 Lm/\∀p,O3 Lm p=(if M5 E j p=[] then none else some (.slice (A p) (M5 E j p).length (Cc p)))
 own:∀p,M5 E j p≠[]->Own w B 3 1 (A p) (M5 E j p).length (Cc p) (yv0 (M5 E j p))
section
variable{w w':World}{B B' s s' n n' c c' r:Nat}{E T:TypeId}{a a':Option Addr}{xs ys:List Value}{α:Type}{κ:α->Value}{Lm:List (α×Value)}
theorem Zr0{u v:Value}(h:Own w B E s a n c xs)(h':Own w B' E s' a' n' c' ys)(hx:xs[0]? =some u)(hy:ys[0]? =some v)(X2:u≠v):ab a≠ab a':=by
 intro hab;have h1:=h.cell hx;have h2:=h'.cell hy;rw[hab,h2]at h1;cases h1;exact X2 rfl
theorem Er0(h:Own w B E s a n c xs)(hM:A5 w r κ Lm):some r≠Value.ownBlock (.slice a n c):=by
 intro hh;cases a with
 |none=>cases hh
 |some q=>
  simp only[Value.ownBlock,Option.some.injEq]at hh;obtain⟨cur,hc,_⟩:=h.row (by simp);exact hM.ne hc hh
theorem dm0(h:Own w B E s a n c xs)(hM:A5 w r κ Lm)(o:Obj):Own (K1 w r o) B E s a n c xs:=by
 cases a with
 |none=>exact World.ownsRow.kept h (is0 w r o) (.inl rfl)
 |some q=>
  obtain⟨cur,hc,_⟩:=h.row (by simp);exact h.grown (is0 w r o) (by have:=hM.ne hc;simpa using Ne.symm this)
theorem ih0{b:Nat}{cs:Array Value}(h:Own w B E s a n c xs)(hg:w.grownBy w' (some b))(hB:I0 w b cs T)(hT:T≠E):Own w' B E s a n c xs:=by
 cases a with
 |none=>exact World.ownsRow.kept h hg (.inl rfl)
 |some q=>
  obtain⟨cur,hc,_⟩:=h.row (by simp);exact h.grown hg (by have:=hc.ne hB (Ne.symm hT);simpa using this)
theorem Li0(h:Own w B E s a n c xs)(h':Own w B' T s' a' n' c' ys)(hg:w.grownBy w' (Value.ownBlock (.slice a' n' c')))(hT:T≠E):Own w' B E s a n c xs:=by
 cases a with
 |none=>exact World.ownsRow.kept h hg (.inl rfl)
 |some q=>
  obtain⟨cur,hc,_⟩:=h.row (by simp);exact h.grown hg (kq0 h' hc (Ne.symm hT))
end
section
variable{w w':World}{B r:Nat}{E:Nat->Ev}{j:Nat}{A:Int×Int->Option Addr}{Cc:Int×Int->Nat}
theorem ev0.j0(h:ev0 w B r E j A Cc)(hb:Below w.heap.size w w'):ev0 w' B r E j A Cc:=
 ⟨let⟨Lm,h1,h2⟩:=h.map;⟨Lm,h1.j0 hb,h2⟩,fun p hp=>(h.own p hp).j0 hb⟩
theorem ev0.other(h:ev0 w B r E j A Cc){b:Nat}{T:TypeId}{cs:Array Value}(hg:w.grownBy w' (some b))(hB:I0 w b cs T)(hT:T≠3):ev0 w' B r E j A Cc:=
 ⟨let⟨Lm,h1,h2⟩:=h.map;⟨Lm,h1.grown hg (by have:=h1.ne hB;simpa using this),h2⟩,fun p hp=>ih0 (h.own p hp) hg hB hT⟩
theorem ev0.app(h:ev0 w B r E j A Cc){B':Nat}{T:TypeId}{s:Nat}{a:Option Addr}{n c:Nat}{ys:List Value}(hO:Own w B' T s a n c ys)(hg:w.grownBy w' (Value.ownBlock (.slice a n c)))(hT:T≠3):ev0 w' B r E j A Cc:=
 ⟨let⟨Lm,h1,h2⟩:=h.map;⟨Lm,h1.grown hg (Er0 hO h1),h2⟩,fun p hp=>Li0 (h.own p hp) hO hg hT⟩
theorem ev0.start(w:World)(B:Nat)(E:Nat->Ev):ev0 (w.alloc (.map #[] 0)) B w.heap.size E 0 (fun _=>none) (fun _=>0):=
 ⟨⟨[],A5.made w ac0,fun _=>rfl⟩,fun _p hp=>absurd rfl hp⟩
theorem ev0.at(h:ev0 w B r E j A Cc)(p:Int×Int):∃Lm sa sc,A5 w r ac0 Lm/\(O3 Lm p).getD (.slice none 0 0)= .slice sa (M5 E j p).length sc/\Own w B 3 1 sa (M5 E j p).length sc (yv0 (M5 E j p))/\(∀q,O3 Lm q=(if M5 E j q=[] then none else some (.slice (A q) (M5 E j q).length (Cc q))))/\(M5 E j p=[]->sa=none):=by
 obtain⟨Lm,h1,h2⟩:=h.map;by_cases hp:M5 E j p=[]
 ·exact⟨Lm,none,0,h1,by rw[h2,if_pos hp,hp];rfl,by rw[hp];exact Own.nil w B 3 1,h2,fun _=>rfl⟩
 ·exact⟨Lm,A p,Cc p,h1,by rw[h2,if_neg hp];rfl,h.own p hp,h2,fun h=>absurd h hp⟩
theorem ev0.skip(h:ev0 w B r E j A Cc)(hj:¬acc (E j)):ev0 w B r E (j+1) A Cc:=by
 have hi:∀p,M5 E (j+1) p=M5 E j p:=fun p=>by rw[pm0,if_neg (fun hh=>hj hh.1),List.append_nil]
 exact⟨let⟨Lm,h1,h2⟩:=h.map;⟨Lm,h1,fun p=>by rw[h2,hi]⟩,fun p hp=>by rw[hi]at hp⊢;exact h.own p hp⟩
theorem ev0.snoc(h:ev0 w B r E j A Cc){p:Int×Int}(hp:p=((E j).o,(E j).n))(hj:acc (E j)){Lm:List ((Int×Int)×Value)}{sa a':Option Addr}{sc c2 t:Nat}{o o2:Obj}{w3:World}
  (hM:A5 w r ac0 Lm) (hL:∀q,O3 Lm q=(if M5 E j q=[] then none else some (.slice (A q) (M5 E j q).length (Cc q)))) (hO:Own w B 3 1 sa (M5 E j p).length sc (yv0 (M5 E j p))) (rv0:M5 E j p=[]->sa=none)
  (hg:(K1 w r o).grownBy w3 (Value.ownBlock (.slice sa (M5 E j p).length sc))) (hB:sd0 w3 r ac0 (sc0 Lm p (.slice none 0 0)) p t) (hO3:Own w3 B 3 1 a' ((M5 E j p).length+1) c2 (yv0 (M5 E j p) ++ [.i (j:Int)]))
  (hM4:A5 (K1 w3 r o2) r ac0 (bs0 (sc0 Lm p (.slice none 0 0)) p (.slice a' ((M5 E j p).length+1) c2))) :
  ev0 (K1 w3 r o2) B r E (j+1) (fun q=>if q=p then a' else A q) (fun q=>if q=p then c2 else Cc q):=by
 have hip:M5 E (j+1) p=M5 E j p ++ [j]:=by rw[pm0,if_pos ⟨hj,by rw[hp],by rw[hp]⟩]
 have hiq:∀q,q≠p->M5 E (j+1) q=M5 E j q:=fun q hq=>by
  rw[pm0,if_neg (fun hh=>hq (by rw[hp];exact Prod.ext hh.2.1.symm hh.2.2.symm)),List.append_nil]
 refine⟨⟨_,hM4,fun q=>?_⟩,fun q hq=>?_⟩
 ·rw[om0];by_cases hqp:q=p
  ·subst hqp;rw[if_pos rfl,hip,if_neg (by simp)];simp
  ·rw[if_neg hqp,Oj0,if_neg hqp,hL q,hiq q hqp];simp[hqp]
 ·by_cases hqp:q=p
  ·subst hqp;rw[hip]at hq⊢;rw[Qt0];simp only[if_true,List.length_append,List.length_singleton];exact dm0 hO3 hB.map o2
  ·rw[hiq q hqp]at hq⊢;simp only[hqp,if_false];have h1:=h.own q hq;have h2:=dm0 h1 hM o;refine dm0 ?_ hB.map o2;refine h2.grown hg ?_;cases sa with
   |none=>simp[Value.ownBlock]
   |some x=>
    have X2:M5 E j p≠[]:=fun hh=>by have:=rv0 hh;cases this
    obtain⟨u,us,hu⟩:=List.exists_cons_of_ne_nil X2;obtain⟨v,vs,hv⟩:=List.exists_cons_of_ne_nil hq;have hmu:=en0.1 (show u∈M5 E j p by rw[hu];simp);have hmv:=en0.1 (show v∈M5 E j q by rw[hv];simp);have:=Zr0 h1 hO (u:=.i (v:Int)) (v:=.i (u:Int)) (uv0 (by rw[hv];rfl)) (uv0 (by rw[hu];rfl)) (by
     intro huv;have:v=u:=by simp at huv;omega
     subst this;exact hqp (Prod.ext (hmv.2.2.1.symm.trans hmu.2.2.1) (hmv.2.2.2.symm.trans hmu.2.2.2)))
    show some (ab (A q))≠some (ab (some x));simpa using this
end
section
variable[Ctx prog]
theorem Lj0(x:Int)(w:World):C prog 66 #[.i x] w fun v w'=>v= .bool (decide (x=8\/x=9))/\w'=w:=by
 refine C.enter (n:=9) func66 rfl rfl<|U0 ?_;refine U8 ?_;refine U20 ?_;refine U549 ?_;refine L.kk0 3 [5,6,7,8] 8 (.bool (decide (x=8\/x=9))) (tj:=5) rfl (fun hb5=>?_) (fun hb5=>?_) (fun f=>?_)
 ·refine L.off rfl<|L.off rfl<|U32 ?_;refine⟨rfl,congrArg Value.bool (by first|exact ii1 hb5|(simp_all;done)|(rw[Bool.eq_iff_iff];simp_all;omega)),?_⟩;exact Ug
 ·refine L.on rfl<|U26 ?_;refine L.va (dy0 rfl rfl)<|U19 ?_;refine⟨rfl,congrArg Value.bool (by first|exact ij1 hb5|(simp_all;done)|(rw[Bool.eq_iff_iff];simp_all;omega)),?_⟩;exact Ug
 refine U8 ?_;refine U332 ?_;exact⟨rfl,rfl⟩
theorem Qu0(a:Option Addr)(n c:Nat)(E:Nat->Ev)(bl i j:Nat)(w0:World)(hE:yp0 w0 a n E)(hL:I0 w0 bl (arr (n*16) (ints (gb0 n (clk E)))) 225)(hi:i<n)(hj:j<n)(h0:0 <=(E i).c)(h1:(E i).c<16):C prog 67 #[.slice a n c,.slice (pt bl) n n,.i (i:Int),.i (j:Int)] w0 fun v w'=>v= .bool (decide ((clk E i (E i).c.toNat:Int) <=(clk E j (E i).c.toNat:Int)))/\Below w0.heap.size w0 w':=by
 refine C.enter (n:=28) func67 rfl rfl ?_;have hb:=Below.refl w0.heap.size w0;refine U0 ?_;refine U8 ?_;refine U84 ?_;refine L.va (Q7 rfl rfl underlying41 wj0 hE.sl Uo)<|L.va (A0 rfl underlying67 rfl sz3 Ud)<|L.va (q0 rfl underlying3 rfl (bl0 hb (hE.c hi)))<|U17 ?_;refine W.quiet (fun w'=>Below w0.heap.size w0 w') Uk Uk hb.drew<|D.va (fun w' W0=>(dx0 rfl))<|U299 ?_;refine U433 ?_;refine D.va (fun w' W0=>(q0 rfl underlying3 rfl (bl0 W0 (Ih0 hL hj Uo))))<|D.va (fun w' W0=>(dx0 rfl))<|U299 ?_;refine U433 ?_;refine D.va (fun w' W0=>(q0 rfl underlying3 rfl (bl0 W0 (Ih0 hL hi Uo))))<|D.va (fun w' W0=>(zp0 rfl rfl))<|D.va (fun w' W0=>(jm0 rfl))<|D.nil ?_;intro w hb;show W _ _ _ _ _ _;refine U332 ?_;exact⟨rfl,hb⟩
end
theorem Qv0{P:Program}{α:Type}[DecidableEq α]{T KT ET:TypeId}{κ:α->Value}{ρ:Operand->Value}{w:World}{d:Option Nat}{ty:TypeId}{ps:String}{af:Array Edge}{g:Option (Nat×Bool)}{x y:Operand}{r:Nat}{L:List (α×Value)}{a:α}{zv u:Value}(hU:P.underlying T=some (.map KT ET))(K:gi0 P KT κ)(hZ:(P.info? ET).bind (·.zero)=some zv)(hK:TK P KT (κ a))(hx:ρ x= .map (some r))(hy:ρ y=κ a)(hM:A5 w r κ L)(hv:(O3 L a).getD zv=u):Go.Vy.Does P (execOp ρ ⟨d,.lookup T x y false,ty,ps,af,g⟩) w (.val u) w:=by
 have h:=Go.Vy.ki0 (d:=d) (ty:=ty) (ps:=ps) (af:=af) (g:=g) hU K hZ hK hx hy hM;rw[hv]at h;exact h
theorem wh1(a b:Int):prog.built 155 [(0,.i a),(1,.i b)]=some #[.i a,.i b]:=by kernel_rfl
section
variable[Ctx prog]
theorem Qw0(a:Option Addr)(n c:Nat)(E:Nat->Ev)(cl:Int)(w0:World)(hE:yp0 w0 a n E)(hc:check E n cl=0):C prog 36 #[.slice a n c,.i cl] w0 fun v w'=>∃oa oc,v= .tuple #[.slice oa (N4 E n).length oc,.i 0]/\rj0 w' oa (N4 E n)/\Below w0.heap.size w0 w':=by
 refine C.enter (n:=101) func36 rfl rfl ?_;obtain⟨-,vs1,hn,hok⟩:=Ld0 hc;refine U0 ?_;refine U292 ?_;refine U84 ?_;refine L.call (B2 rfl rfl func65 rfl yg1 rfl) (Lg0 a n c E cl w0 hE Uo hc) ?_;rintro _ w ⟨bl,rfl,hL,hb⟩;refine U80 ?_;refine L.va (kg0 rfl)<|U118 ?_;refine L.va (pu0 rfl rfl)<|U1 ?_;refine W.X6 (rb (decide_eq_false (by simp)))<|U69 ?_;refine U0 ?_;refine L.va pk0 ?_;have hOf:=ev0.start w w0.heap.size E;have hr:w0.heap.size <=w.heap.size:=hb.size;have hba:=kw0 w (.map #[] 0);have hL:=hL.j0 hba;have hb:=B0 hb hba;clear hba;generalize w.alloc (.map #[] 0)=w2 at hb hL hOf⊢;generalize w.heap.size=r at hr hOf⊢;generalize w2=w at hb hL hOf⊢;refine L.va (rw0 rfl)<|U6 ?_;refine U105 ?_;refine U134 ?_;refine U22 ?_;refine W.loop (fun k e w=>∃j:Nat,∃oa:Option Addr,∃oc:Nat,∃A:Int×Int->Option Addr,∃Cc:Int×Int->Nat,k=n-j/\e 0= .slice a n c/\e 6= .slice (pt bl) n n/\e 8= .map (some r)/\e 9= .slice oa (N4 E j).length oc/\e 27= .slice a n c/\e 28= .i (n:Int)/\e 29= .i (j:Int)/\Below w0.heap.size w0 w/\j <=n/\I0 w bl (arr (n*16) (ints (gb0 n (clk E)))) 225/\Own w w0.heap.size 155 2 oa (N4 E j).length oc (prC (N4 E j))/\ev0 w w0.heap.size r E j A Cc) _ ⟨0,none,0,_,_,rfl,rfl,rfl,rfl,rfl,rfl,rfl,rfl,hb,Nat.zero_le _,hL,Own.nil _ _ _ _,hOf⟩ ?_;rintro k e w ⟨j,oa,oc,A,Cc,hk,s0,s6,s8,s9,s27,s28,s29,hb,hjn,hL,hO,hOf⟩;rw[L0 s0,L0 s6,L0 s8,L0 s9,L0 s27,L0 s28,L0 s29];clear s0 s6 s8 s9 s27 s28 s29;refine U12 ?_;refine W.m6 rfl (fun h30=>?_) (fun h30=>?_)
 ·refine W.skip<|U142 ?_;refine W.seq ?_;have hj:j<n:=by omega
  refine U136 ?_;refine L.va (Q7 rfl rfl underlying41 wj0 hE.sl Uo)<|L.va (A2 rfl underlying67 rfl wj0 rfl (wa1 hb (hE.all hj)))<|L.alloc Ti0 rfl (fun w b11 F11=>?_);have h11:w0.heap.size <=b11:=by have:=F11.here;have:=hb.size;omega
  have hL:=hL.j0 F11.below;have hO:=hO.j0 F11.below;have hOf:=hOf.j0 F11.below;have hb:=B0 hb F11.below;refine L.va (fd0 rfl)<|L.storeAll (vs:=[Value.i (E j).c,.i (E j).k,.i (E j).o,.i (E j).n]) rfl rfl rfl wj0 rfl rfl (by simp[Value.oneCell']) F11.blk (fun w ii0 hg H2=>?_);have hL:=hL.grown hg (by have:=hL.ne F11.blk Ud;simpa using this);have hO:=ih0 hO hg F11.blk Ud;have hOf:=hOf.other hg F11.blk Ud;have hb:=W3 hb hb.size hg h11;refine U28 ?_;refine U71 ?_;refine L.va (q0 rfl underlying3 rfl (ii0.cell (v:=.i (E j).k) rfl))<|L.call (N2 rfl func66 rfl yh1 rfl) (Lj0 _ _) ?_;rintro _ w ⟨rfl,hw⟩;rw[hw];clear hw w;refine U342 ?_;refine W.cond rfl (fun h38=>?_) (fun h38=>?_)
  ·refine W.exit<|U75 ?_;refine U162 ?_;refine U373 ?_;have Qx0:¬acc (E j):=by unfold acc;simpa using h38
   have hR:N4 E (j+1)=N4 E j:=kx0 (Lh0 Qx0);rw[show(N4 E j).length=(N4 E (j+1)).length by rw[hR]];exact⟨_,by omega,⟨j+1,oa,oc,A,Cc,rfl,rfl,rfl,rfl,rfl,rfl,rfl,rfl,hb,by omega,hL,by rw[hR];exact hO,hOf.skip Qx0⟩⟩
  ·have Qx0:acc (E j):=by unfold acc;by_cases h8:(E j).k=8;exact .inl h8;exact .inr (by simpa [h8]using h38)
   refine U69 ?_;refine U0 ?_;refine U71 ?_;refine L.va (q0 rfl underlying3 rfl (ii0.cell (v:=.i (E j).o) rfl))<|U71 ?_;refine L.va (q0 rfl underlying3 rfl (ii0.cell (v:=.i (E j).n) rfl))<|L.va (P2 (parts:=[(0,.tmp 41),(1,.tmp 44)]) rfl (ho1 _ _))<|L.alloc fm1 rfl (fun w b12 F12=>?_);have h12:w0.heap.size <=b12:=by have:=F12.here;have:=hb.size;omega
   have hL:=hL.j0 F12.below;have hO:=hO.j0 F12.below;have hOf:=hOf.j0 F12.below;have ii0:=ii0.j0 F12.below;have hb:=B0 hb F12.below;refine L.storeAll (vs:=[.i (E j).o,.i (E j).n]) rfl rfl rfl Fw0 rfl rfl (by simp[Value.oneCell']) F12.blk (fun w di0 hg H2=>?_);have hL:=hL.grown hg (by have:=hL.ne F12.blk Ud;simpa using this);have hO:=ih0 hO hg F12.blk Ud;have hOf:=hOf.other hg F12.blk Ud;have ii0:=ii0.grown hg (by have:=ii0.ne F12.blk Ud;simpa using this);have hb:=W3 hb hb.size hg h12;refine U28 ?_;refine U293 ?_;obtain⟨Lm,sa,sc,hM,hv,hS,-,-⟩:=hOf.at ((E j).o,(E j).n);refine L.va (Qv0 (a:=((E j).o,(E j).n)) underlying149 Eq0 qd1 (ckP _) rfl rfl hM hv)<|L.va (A7 rfl underlying37 rfl)<|U22 ?_;have wi1:=uu0 E ((E j).o,(E j).n) j;clear hM;refine W.loop (fun k e w=>∃s:Nat,k=(M5 E j ((E j).o,(E j).n)).length-s/\e 0= .slice a n c/\e 6= .slice (pt bl) n n/\e 8= .map (some r)/\e 9= .slice oa (N4 E j).length oc/\e 10= .i (j:Int)/\e 11= .p b11/\e 12= .p b12/\e 27= .slice a n c/\e 28= .i (n:Int)/\e 29= .i (j:Int)/\e 48= .slice sa (M5 E j ((E j).o,(E j).n)).length sc/\e 49= .i ((M5 E j ((E j).o,(E j).n)).length:Int)/\e 50= .i (s:Int)/\Below w0.heap.size w0 w/\s <=(M5 E j ((E j).o,(E j).n)).length/\I0 w bl (arr (n*16) (ints (gb0 n (clk E)))) 225/\Own w w0.heap.size 155 2 oa (N4 E j).length oc (prC (N4 E j))/\ev0 w w0.heap.size r E j A Cc/\I0 w b11 (List.toArray [Value.i (E j).c,.i (E j).k,.i (E j).o,.i (E j).n]) 67/\I0 w b12 (List.toArray [Value.i (E j).o,.i (E j).n]) 152/\Own w w0.heap.size 3 1 sa (M5 E j ((E j).o,(E j).n)).length sc (yv0 (M5 E j ((E j).o,(E j).n)))/\∀t x,t<s->(M5 E j ((E j).o,(E j).n))[t]? =some x->ba0 E x j=false) _ ⟨0,rfl,rfl,rfl,rfl,rfl,rfl,rfl,rfl,rfl,rfl,rfl,rfl,rfl,rfl,hb,Nat.zero_le _,hL,hO,hOf,ii0,di0,hS,fun t x ht=>absurd ht (Nat.not_lt_zero t)⟩ ?_;rintro k e w ⟨s,hk,s0,s6,s8,s9,s10,s11,s12,s27,s28,s29,s48,s49,s50,hb,hs,hL,hO,hOf,ii0,di0,hS,r9⟩;rw[L0 s0,L0 s6,L0 s8,L0 s9,L0 s10,L0 s11,L0 s12,L0 s27,L0 s28,L0 s29,L0 s48,L0 s49,L0 s50];clear s0 s6 s8 s9 s10 s11 s12 s27 s28 s29 s48 s49 s50;refine U12 ?_;refine W.m6 rfl (fun h51=>?_) (fun h51=>?_)
   ·refine W.skip<|U142 ?_;refine W.seq ?_;obtain⟨i,hi⟩:∃i,(M5 E j ((E j).o,(E j).n))[s]? =some i:=⟨(M5 E j ((E j).o,(E j).n))[s]'(by omega),List.getElem?_eq_getElem Uo⟩
    have him:=List.mem_of_getElem? hi;have hij:i<j:=(en0.1 him).1;obtain⟨Bb1,Br1,-,-⟩:=hok.at (show i<n by omega);refine W.region rfl<|L.va (Q7 rfl rfl underlying37 sz3 hS.sl Uo)<|L.va (q0 rfl underlying3 rfl (by rw[hS.off,Nat.zero_add,Nat.mul_one];exact hS.cell (uv0 hi)))<|U7 ?_;refine U84 ?_;refine U275 ?_;refine L.alloc Ti0 rfl (fun w b15 F15=>?_);have ep1:b11≠b15:=by have:=F15.here;have:=ii0.lt;omega
    have h15:w0.heap.size <=b15:=by have:=F15.here;have:=hb.size;omega
    have hL:=hL.j0 F15.below;have hO:=hO.j0 F15.below;have hOf:=hOf.j0 F15.below;have ii0:=ii0.j0 F15.below;have di0:=di0.j0 F15.below;have hS:=hS.j0 F15.below;have hb:=B0 hb F15.below;refine L.storeAll (vs:=[Value.i (E i).c,.i (E i).k,.i (E i).o,.i (E i).n]) rfl rfl rfl wj0 rfl rfl (by simp[Value.oneCell']) F15.blk (fun w l8 hg H2=>?_);have hL:=hL.grown hg (by have:=hL.ne F15.blk Ud;simpa using this);have hO:=ih0 hO hg F15.blk Ud;have hOf:=hOf.other hg F15.blk Ud;have di0:=di0.grown hg (by have:=di0.ne F15.blk Ud;simpa using this);have ii0:=ii0.grown hg (by simpa using ep1);have hS:=ih0 hS hg F15.blk Ud;have hb:=W3 hb hb.size hg h15;refine U6 ?_;refine U71 ?_;refine L.va (q0 rfl underlying3 rfl (l8.cell (v:=.i (E i).k) rfl))<|U549 ?_;refine L.kk0 5 [62,63,64,65,66,67] 67 (.bool (decide ((E i).k=9\/(E j).k=9))) (tj:=62) rfl (fun od1=>?_) (fun od1=>?_) (fun f=>?_)
    ·refine L.off rfl<|U82 ?_;refine U32 ?_;refine⟨rfl,congrArg Value.bool (by first|exact ii1 od1|(simp_all;done)|(rw[Bool.eq_iff_iff];simp_all;omega)),?_⟩;exact Ug
    ·refine L.on rfl<|L.va (A0 rfl underlying67 rfl qp0 Ud)<|L.on rfl<|L.va (A0 rfl underlying65 rfl sz3 Ud)<|L.on rfl<|L.va (q0 rfl underlying3 rfl (ii0.cell (v:=.i (E j).k) rfl))<|U322 ?_;refine U19 ?_;refine⟨rfl,congrArg Value.bool (by first|exact ij1 od1|(simp_all;done)|(rw[Bool.eq_iff_iff];simp_all;omega)),?_⟩;exact Ug
    refine U65 ?_;refine L.va (A0 rfl underlying67 rfl sz3 Ud)<|L.va (q0 rfl underlying3 rfl (l8.cell (v:=.i (E i).c) rfl))<|L.va (A0 rfl underlying67 rfl sz3 Ud)<|L.va (q0 rfl underlying3 rfl (ii0.cell (v:=.i (E j).c) rfl))<|L.va (pu0 rfl rfl)<|L.va (n8 rfl)<|L.kk0 2 [73,74,75] 75 (.bool (decide ((E i).c≠(E j).c/\((E i).k=9\/(E j).k=9)))) (tj:=73) rfl (fun oe1=>?_) (fun oe1=>?_) (fun f=>?_)
    ·refine L.on rfl<|L.va (n8 rfl)<|U32 ?_;refine⟨rfl,congrArg Value.bool (by first|exact zr0 oe1|(simp_all;done)|(rw[Bool.eq_iff_iff];simp_all;omega)),?_⟩;exact Ug
    ·refine L.off rfl<|U19 ?_;refine⟨rfl,congrArg Value.bool (by first|exact zq0 oe1|(simp_all;done)|(rw[Bool.eq_iff_iff];simp_all;omega)),?_⟩;exact Ug
    refine L.va (n8 rfl)<|L.pq1 7 [76,77,78,79,80,81,82,83] 83 (.bool (ba0 E i j)) (tj:=76) (fun w'=>Below w.heap.size w w') rfl (fun of1=>?_) (fun of1=>?_) (fun f w hm=>?_)
    ·have hm:=Below.refl w.heap.size w;refine L.on rfl<|U326 ?_;refine U326 ?_;refine U26 ?_;refine U26 ?_;refine L.call (fe0 rfl rfl rfl rfl func67 rfl yi1 rfl) (Qu0 a n c E bl i j w (hE.below hb) hL Uo Uo Bb1 Uo) ?_;rintro _ w ⟨rfl,L2⟩;have hm:=B0 hm L2;refine L.on rfl<|L.va (pv0 rfl)<|U32 ?_;refine⟨hm,congrArg Value.bool (by rw[Ik0 rfl Qx0 him,of1,<- es1 E hok Uo Uo,decide_eq_true hij];rfl),?_⟩;exact Ug
    ·have hm:=Below.refl w.heap.size w;refine U248 ?_;refine U47 ?_;refine U19 ?_;refine⟨hm,congrArg Value.bool (by rw[Ik0 rfl Qx0 him,of1];rfl),?_⟩;exact Ug
    have hL:=hL.j0 hm;have hO:=hO.j0 hm;have hOf:=hOf.j0 hm;have ii0:=ii0.j0 hm;have di0:=di0.j0 hm;have hS:=hS.j0 hm;have hb:=B0 hb hm;refine U1 ?_;refine W.cond rfl (fun h83=>?_) (fun h83=>?_)
    ·refine W.seq<|W.region rfl<|U291 ?_;refine L.va (N3 rfl)<|L.va (P2 (parts:=[(0,.tmp 85),(1,.tmp 86)]) rfl (wh1 _ _))<|L.cx0 rfl rfl underlying81 qk1 rfl ⟨_,ql1⟩ Ud (fun w b88 F88=>?_);have hL:=hL.j0 F88.below;have hO:=hO.j0 F88.below;have hOf:=hOf.j0 F88.below;have di0:=di0.j0 F88.below;have hb:=B0 hb F88.below;have hlen:=up0 E j;refine L.append (B:=w0.heap.size) rfl rfl underlying81 qm1 rfl Ud hO (news:=[.i (i:Int),.i (j:Int)]) rfl (fun q u hq=>?_) (fun u hu=>by simp at hu;rcases hu with rfl|rfl <;> rfl) Uo Uo hb.size (fun oa2 oc2 w hO2 hg A1 _=>?_)
     ·rw[Addr.add_lit]
      match q,hq with
      |0,hq=>cases hq;exact F88.blk.cell rfl
      |1,hq=>cases hq;exact F88.blk.cell rfl
     have hOf:=hOf.app hO hg Ud;have hL:=hL.grown hg (kq0 hO hL Ud);have di0:=di0.grown hg (kq0 hO di0 Ud);have hb:=hb.trans A1;have hO:=hO2;refine U25 ?_;refine W.exit<|U75 ?_;refine U162 ?_;refine U293 ?_;refine U560 ?_;intro w b95 F95;have hL:=hL.j0 F95.below;have hO:=hO.j0 F95.below;have hOf:=hOf.j0 F95.below;have hb:=B0 hb F95.below;have wi1:=uu0 E ((E j).o,(E j).n) j;obtain⟨Lm,sa,sc,hM,hv,hS,hLk,rv0⟩:=hOf.at ((E j).o,(E j).n);refine U489 ?_;intro o t hMB;have hS1:=dm0 hS hM o;have l7:=W2 hb hr o;have hL1:=hL.K1 hM o;have hO1:=dm0 hO hM o;have hF:=F95.blk.K1 hM o;refine L.va (K6 rfl rfl)<|L.append (B:=w0.heap.size) rfl rfl underlying37 in3 rfl Ud hS1 (news:=[.i (j:Int)]) rfl (fun q u hq=>?_) (fun u hu=>by simp at hu;subst hu;rfl) Uo Uo l7.size (fun a2 c2 w2 hO2 hg A1 _=>?_)
     ·rw[Addr.add_lit]
      match q,hq with
      |0,hq=>cases hq;exact hF.cell rfl
     have Lk0:=hMB.grown hg (Er0 hS1 hMB.map);have hb2:=l7.trans A1;have hL2:=hL1.grown hg (kq0 hS1 hL1 Ud);have hO3:=Li0 hO1 hS1 hg Ud;refine L.va (K6 rfl rfl)<|U538 ?_;intro o2 hM4 hOf;have hb:=W2 hb2 hr o2;have hL:=hL2.K1 Lk0.map o2;have hO:=dm0 hO3 Lk0.map o2;refine U235 ?_;have hR:N4 E (j+1)=N4 E j ++ [(i,j)]:=Ij0 (Zq0 rfl r9 hi) h83 hij;rw[show(N4 E j).length+1=(N4 E (j+1)).length by rw[hR];simp];rw[show(N4 E j).length+1=(N4 E (j+1)).length by rw[hR];simp,<- Zk0,<- hR]at hO;exact⟨_,by omega,⟨j+1,oa2,oc2,_,_,rfl,rfl,rfl,rfl,rfl,rfl,rfl,rfl,hb,by omega,hL,hO,hOf⟩⟩
    ·refine W.skip<|U27 ?_;exact⟨_,by omega,⟨s+1,rfl,rfl,rfl,rfl,rfl,rfl,rfl,rfl,rfl,rfl,rfl,rfl,rfl,rfl,hb,by omega,hL,hO,hOf,ii0,di0,hS,fun t x ht hx=>by
       by_cases hts:t=s
       ·subst hts;rw[hi]at hx;cases hx;exact h83
       ·exact r9 t x Uo hx⟩⟩
   ·refine W.exit<|U75 ?_;refine U162 ?_;refine U293 ?_;refine U560 ?_;intro w b95 F95;have hL:=hL.j0 F95.below;have hO:=hO.j0 F95.below;have hOf:=hOf.j0 F95.below;have hb:=B0 hb F95.below;have wi1:=uu0 E ((E j).o,(E j).n) j;obtain⟨Lm,sa,sc,hM,hv,hS,hLk,rv0⟩:=hOf.at ((E j).o,(E j).n);refine U489 ?_;intro o t hMB;have hS1:=dm0 hS hM o;have l7:=W2 hb hr o;have hL1:=hL.K1 hM o;have hO1:=dm0 hO hM o;have hF:=F95.blk.K1 hM o;refine L.va (K6 rfl rfl)<|L.append (B:=w0.heap.size) rfl rfl underlying37 in3 rfl Ud hS1 (news:=[.i (j:Int)]) rfl (fun q u hq=>?_) (fun u hu=>by simp at hu;subst hu;rfl) Uo Uo l7.size (fun a2 c2 w2 hO2 hg A1 _=>?_)
    ·rw[Addr.add_lit]
     match q,hq with
     |0,hq=>cases hq;exact hF.cell rfl
    have Lk0:=hMB.grown hg (Er0 hS1 hMB.map);have hb2:=l7.trans A1;have hL2:=hL1.grown hg (kq0 hS1 hL1 Ud);have hO3:=Li0 hO1 hS1 hg Ud;refine L.va (K6 rfl rfl)<|U538 ?_;intro o2 hM4 hOf;have hb:=W2 hb2 hr o2;have hL:=hL2.K1 Lk0.map o2;have hO:=dm0 hO3 Lk0.map o2;refine U235 ?_;have hR:N4 E (j+1)=N4 E j:=kx0 (et1 rfl (fun t x ht hx=>r9 t x Uo hx));rw[show(N4 E j).length=(N4 E (j+1)).length by rw[hR]];exact⟨_,by omega,⟨j+1,oa,oc,_,_,rfl,rfl,rfl,rfl,rfl,rfl,rfl,rfl,hb,by omega,hL,by rw[hR];exact hO,hOf⟩⟩
 ·refine W.exit<|U75 ?_;show W _ _ _ _ _ _;refine U23 ?_;refine U338 ?_;obtain rfl:j=n:=by omega
  exact⟨oa,oc,rfl,rj0.nu1 hO,hb⟩
end
end Go.Vy.Sc.Ck
end
section
namespace Go.Vy.Sc
open Go Go.Conc Go.Yc Go.RowKit Go.Proofs Go.Proofs.YtinppmaojmdmhaaGreat Tryz
open Go.Vc Go.Wg
theorem Nv0:∀(l:List (Nat×Stp))(i:Nat)(x:Nat×Stp)(k:Nat)(v:Value),l[i]? =some x->(evC x)[k]? =some v->(l.flatMap evC)[i*4+k]? =some v
 | [],i,x,k,v,h,_=>by cases h
 |a::l,0,x,k,v,h,hv=>by
  cases h;rw[List.flatMap_cons,List.getElem?_append_left (by simpa using(List.getElem?_eq_some_iff.1 hv).1)];simpa using hv
 |a::l,i+1,x,k,v,h,hv=>by
  rw[List.flatMap_cons,List.getElem?_append_right (by simp[evC];omega)];rw[show(i+1)*4+k-(evC a).length=i*4+k by simp[evC];omega];exact Nv0 l i x k v (by simpa using h) hv
def evE(l:List (Nat×Stp))(i:Nat):Ck.Ev:=match l[i]? with
 |some x=>⟨(x.1:Int),x.2.kind,x.2.obj,x.2.num⟩
 |none=>⟨0,0,0,0⟩
theorem Zs0{l:List (Nat×Stp)}{i c:Nat}{s:Stp}(h:l[i]? =some (c,s)):evE l i=⟨(c:Int),s.kind,s.obj,s.num⟩:=by unfold evE;rw[h]
theorem wj1(obj:Int){k:Int}(h1:0<k)(h2:k<1000):oW obj k≠obj:=by
 unfold oW;rw[IntKind.wrap_i64];omega
section
variable{obj:Int}{b:Lb}
theorem hp1(h:(Z3 obj b).kind=8\/(Z3 obj b).kind=9):(Z3 obj b).obj=oW obj 1/\(Z3 obj b).num=(b.j:Nat)/\(jg0 b.ph=true\/bi0 b.ph=true)/\((Z3 obj b).kind=9->bi0 b.ph=true)/\(jg0 b.ph=true->rdN b.ph=true)/\(bi0 b.ph=true->wrN b.ph=true):=by
 obtain⟨k,has,to,j,q,ph,nu,bs,bk⟩:=b;cases ph <;> simp[Z3,jg0,bi0,rdN,wrN]at h⊢
theorem wk1(h:(Z3 obj b).obj=obj):((Z3 obj b).kind=2->bi0 b.ph=true/\(Z3 obj b).num=(b.j:Nat))/\((Z3 obj b).kind=4->jg0 b.ph=true/\(Z3 obj b).num=(b.j:Nat)):=by
 obtain⟨k,has,to,j,q,ph,nu,bs,bk⟩:=b;cases ph <;> first|exact absurd h (wj1 obj Ud Ud)|simp[Z3,jg0,bi0]
theorem wl1:1 <=(Z3 obj b).kind/\(Z3 obj b).kind <=11:=by
 obtain⟨k,has,to,j,q,ph,nu,bs,bk⟩:=b;cases ph <;> simp[Z3]
theorem Bc1(h:rdN b.ph=true):((Z3 obj b).kind=3/\(Z3 obj b).obj=obj/\(Z3 obj b).num=(b.j:Nat))\/jg0 b.ph=true:=by
 obtain⟨k,has,to,j,q,ph,nu,bs,bk⟩:=b;cases ph <;> simp[Z3,jg0,rdN]at h⊢
theorem Bd1(h:wrN b.ph=true):((Z3 obj b).kind=1/\(Z3 obj b).obj=obj/\(Z3 obj b).num=(b.j:Nat))\/bi0 b.ph=true:=by
 obtain⟨k,has,to,j,q,ph,nu,bs,bk⟩:=b;cases ph <;> simp[Z3,bi0,wrN]at h⊢
theorem wm1(h:jg0 b.ph=true):rdN b.ph=true\/((Z3 obj b).kind=4/\(Z3 obj b).obj=obj/\(Z3 obj b).num=(b.j:Nat)):=by
 obtain⟨k,has,to,j,q,ph,nu,bs,bk⟩:=b;cases ph <;> simp[Z3,jg0,rdN]at h⊢
theorem wn1(h:bi0 b.ph=true):wrN b.ph=true\/((Z3 obj b).kind=2/\(Z3 obj b).obj=obj/\(Z3 obj b).num=(b.j:Nat)):=by
 obtain⟨k,has,to,j,q,ph,nu,bs,bk⟩:=b;cases ph <;> simp[Z3,bi0,wrN]at h⊢
end
def og1(m:Bool)(s:Nat)(f:Lb ⊕ Nat):Bool:=if m then mp0 s f else Gz0 s f
def Sec(ft:List (Lb ⊕ Nat))(d s:Nat)(m:Bool):Prop:=∃f,ft[d]? =some f/\og1 m s f=true
def inP(m:Bool)(p:Ph):Bool:=if m then bi0 p else jg0 p
def inN(m:Bool)(p:Ph):Bool:=if m then wrN p else rdN p
theorem uw0{m:Bool}{s:Nat}{b:Lb}:og1 m s (.inl b)=(decide (b.j=s)&&inP m b.ph):=by cases m <;> rfl
theorem Sec.inl{ft:List (Lb ⊕ Nat)}{d s:Nat}{m:Bool}(h:Sec ft d s m):∃b,ft[d]? =some (.inl b)/\b.j=s/\inP m b.ph=true:=by
 obtain⟨f,h1,h2⟩:=h;cases f with
 |inl b=>rw[uw0,Bool.and_eq_true,decide_eq_true_eq]at h2;exact⟨b,h1,h2.1,h2.2⟩
 |inr x=>cases m <;> cases h2
theorem TOk.sec{n m:Nat}{bo:Nat->List SOp}{s:H4}{ft:List (Lb ⊕ Nat)}(h:TOk n m bo s ft){c d j:Nat}{mc md:Bool}(hc:Sec ft c j mc)(hd:Sec ft d j md)(X2:c≠d):mc=false/\md=false:=by
 obtain⟨b,h1,h2,h3⟩:=hc.inl;obtain⟨b',h1',h2',h3'⟩:=hd.inl;cases mc with
 |true=>
  exfalso;have hh:=h.ek0 h1 h3;cases md with
  |true=>exact X2 (h.Xl0 h1 h1' h3 h3' (h2.trans h2'.symm))
  |false=>
   have:=h.Ec0 h1' h3';rw[h2',<- h2,h.ex _ hh]at this;exact absurd this (Nat.lt_irrefl _)
 |false=>
  cases md with
  |true=>
   exfalso;have hh:=h.ek0 h1' h3';have:=h.Ec0 h1 h3;rw[h2,<- h2',h.ex _ hh]at this;exact absurd this (Nat.lt_irrefl _)
  |false=>exact⟨rfl,rfl⟩
def Unl(obj:Int)(E:Nat->Ck.Ev)(i c s:Nat)(m:Bool):Prop:=(E i).c=(c:Int)/\(E i).o=obj/\(E i).n=(s:Nat)/\(E i).k=if m then 2 else 4
def Lck(obj:Int)(E:Nat->Ck.Ev)(i c s:Nat)(m:Bool):Prop:=(E i).c=(c:Int)/\(E i).o=obj/\(E i).n=(s:Nat)/\(E i).k=if m then 1 else 3
structure Il0(p:C5)(E:Nat->Ck.Ev)(n:Nat)(ft:List (Lb ⊕ Nat)):Prop where
 ok:∀i,i<n->0 <=(E i).c/\(E i).c<p.m/\1 <=(E i).k/\(E i).k <=11
 acc:∀i,i<n->Ck.acc (E i)->∃(c s:Nat) (m:Bool),(E i).c=(c:Int)/\(E i).n=(s:Nat)/\((E i).k=9->m=true)/\(Sec ft c s m\/∃i',i<i'/\i'<n/\Unl p.obj E i' c s m)
 sec:∀d s m,Sec ft d s m->∃j',j'<n/\Lck p.obj E j' d s m/\∀i',j'<i'->i'<n->∀c m',c≠d->Unl p.obj E i' c s m'->m=false/\m'=false
 free:∀i j,i<j->j<n->Ck.acc (E i)->Ck.acc (E j)->((E i).k=9\/(E j).k=9)->(E i).n=(E j).n->(E i).c≠(E j).c->Ck.Ah E i j
section
variable{p:C5}{q:PR (C1 p)}{E:Nat->Ck.Ev}{i:Nat}{b:Lb}
theorem Nw0(hf:q.ft[i]? =some (.inl b)):((C1 p).n6 q i).ft=q.ft.set i (L7 p.n (p.bo i) i b q.s).X4/\((C1 p).n6 q i).evs=q.evs ++ [(i,Z3 p.obj b)]:=by
 unfold Sys.n6;rw[hf];exact⟨rfl,rfl⟩
theorem Nx0{x y:Nat}(h:(E x).c=(E y).c):Ck.w8 E x y=true:=by simp[Ck.w8,h]
theorem eu1{obj:Int}{x y c d s:Nat}{m m':Bool}(hx:Unl obj E x c s m)(hy:Lck obj E y d s m')(h:m=true\/m'=true):Ck.w8 E x y=true:=by
 obtain⟨h1,h2,h3,h4⟩:=hx;obtain⟨g1,g2,g3,g4⟩:=hy;unfold Ck.w8 Ck.En0;by_cases e:(E x).c=(E y).c
 ·simp[e]
 ·cases m <;> cases m' <;> simp_all
theorem Il0.n6(h:Il0 p E q.evs.length q.ft)(hT:TOk p.n p.m p.bo q.s q.ft)(hn:0<p.n)(hi:i<p.m)(hf:q.ft[i]? =some (.inl b))(hE:E q.evs.length=⟨(i:Int),(Z3 p.obj b).kind,(Z3 p.obj b).obj,(Z3 p.obj b).num⟩):Il0 p E (q.evs.length+1) (q.ft.set i (L7 p.n (p.bo i) i b q.s).X4):=by
 have O1:=(List.getElem?_eq_some_iff.1 hf).1;have hN:=ue0 (i:=i) (ops:=p.bo i) hn (hT.K4 i b hf) hT.so;have hfa:∀m s,og1 m s (L7 p.n (p.bo i) i b q.s).X4=(decide (b.j=s)&&inN m b.ph):=fun m s=>by
  cases m
  ·exact hN.rd s
  ·exact hN.wr s
 have Cn0:∀d s m,d≠i->(Sec (q.ft.set i (L7 p.n (p.bo i) i b q.s).X4) d s m↔Sec q.ft d s m):=fun d s m hd=>by
  unfold Sec;rw[List.getElem?_set_ne (Ne.symm hd)]
 have l9:∀s m,Sec (q.ft.set i (L7 p.n (p.bo i) i b q.s).X4) i s m↔(b.j=s/\inN m b.ph=true):=fun s m=>by
  unfold Sec;rw[List.getElem?_set_self O1];constructor
  ·rintro⟨f,h1,h2⟩;cases h1;rw[hfa,Bool.and_eq_true,decide_eq_true_eq]at h2;exact h2
  ·rintro⟨h1,h2⟩;exact⟨_,rfl,by rw[hfa,h1,h2];simp⟩
 have Qy0:∀s m,Sec q.ft i s m↔(b.j=s/\inP m b.ph=true):=fun s m=>by
  unfold Sec;rw[hf];constructor
  ·rintro⟨f,h1,h2⟩;cases h1;rw[uw0,Bool.and_eq_true,decide_eq_true_eq]at h2;exact h2
  ·rintro⟨h1,h2⟩;exact⟨_,rfl,by rw[uw0,h1,h2];simp⟩
 have hgo:∀s m,Sec q.ft i s m->Sec (q.ft.set i (L7 p.n (p.bo i) i b q.s).X4) i s m\/Unl p.obj E q.evs.length i s m:=fun s m hs=>by
  obtain⟨h1,h2⟩:=(Qy0 s m).1 hs;cases m with
  |false=>
   rcases wm1 (obj:=p.obj) h2 with z|⟨z1,z2,z3⟩
   ·exact .inl ((l9 s false).2 ⟨h1,z⟩)
   ·exact .inr ⟨by rw[hE],by rw[hE];exact z2,by rw[hE];show(Z3 p.obj b).num=_;rw[z3,h1],by rw[hE];exact z1⟩
  |true=>
   rcases wn1 (obj:=p.obj) h2 with z|⟨z1,z2,z3⟩
   ·exact .inl ((l9 s true).2 ⟨h1,z⟩)
   ·exact .inr ⟨by rw[hE],by rw[hE];exact z2,by rw[hE];show(Z3 p.obj b).num=_;rw[z3,h1],by rw[hE];exact z1⟩
 have wo1:∀c s m,Unl p.obj E q.evs.length c s m->c=i/\Sec q.ft i s m:=fun c s m hu=>by
  obtain⟨h1,h2,h3,h4⟩:=hu;rw[hE]at h1 h2 h3 h4;have h1:(i:Int)=(c:Int):=h1;have hk:=wk1 (obj:=p.obj) (b:=b) h2;refine⟨by omega,(Qy0 s m).2 ?_⟩;cases m with
  |false=>
   obtain⟨g1,g2⟩:=hk.2 h4;have h3:(Z3 p.obj b).num=(s:Int):=h3;exact⟨by omega,g1⟩
  |true=>
   obtain⟨g1,g2⟩:=hk.1 h4;have h3:(Z3 p.obj b).num=(s:Int):=h3;exact⟨by omega,g1⟩
 refine⟨fun x hx=>?_,fun x hx ha=>?_,fun d s m hd=>?_,fun x y hxy hy hax hay h9 hnn hcc=>?_⟩
 ·rcases Nat.lt_succ_iff_lt_or_eq.1 hx with z|z
  ·exact h.ok x z
  ·subst z;rw[hE];have:=wl1 (obj:=p.obj) (b:=b);exact⟨by show(0:Int) <=(i:Int);omega,by show(i:Int)<(p.m:Int);omega,this.1,this.2⟩
 ·rcases Nat.lt_succ_iff_lt_or_eq.1 hx with z|z
  ·obtain⟨c,s,m,h1,h2,h3,h4⟩:=h.acc x z ha;refine⟨c,s,m,h1,h2,h3,?_⟩;rcases h4 with h4|⟨i',h5,h6,h7⟩
   ·by_cases hci:c=i
    ·subst hci;rcases hgo s m h4 with h5|h5
     ·exact .inl h5
     ·exact .inr ⟨q.evs.length,z,Nat.lt_succ_self _,h5⟩
    ·exact .inl ((Cn0 c s m hci).2 h4)
   ·exact .inr ⟨i',h5,Nat.lt_succ_of_lt h6,h7⟩
  ·subst z;rw[hE]at ha;obtain⟨g1,g2,g3,g4,g5,g6⟩:=hp1 (obj:=p.obj) (b:=b) ha;rcases g3 with g3|g3
   ·by_cases hw:bi0 b.ph=true
    ·exact⟨i,b.j,true,by rw[hE],by rw[hE];exact g2,fun _=>rfl,.inl ((l9 _ true).2 ⟨rfl,g6 hw⟩)⟩
    ·exact⟨i,b.j,false,by rw[hE],by rw[hE];exact g2,fun z=>absurd (g4 (by rw[hE]at z;exact z)) hw,.inl ((l9 _ false).2 ⟨rfl,g5 g3⟩)⟩
   ·exact⟨i,b.j,true,by rw[hE],by rw[hE];exact g2,fun _=>rfl,.inl ((l9 _ true).2 ⟨rfl,g6 g3⟩)⟩
 ·by_cases hdi:d=i
  ·subst hdi;obtain⟨h1,h2⟩:=(l9 s m).1 hd;have old:Sec q.ft d s m->∃j',j'<q.evs.length+1/\Lck p.obj E j' d s m/\∀i',j'<i'->i'<q.evs.length+1->∀c m',c≠d->Unl p.obj E i' c s m'->m=false/\m'=false:=fun hs=>by
    obtain⟨j',g1,g2,g3⟩:=h.sec d s m hs;refine⟨j',Nat.lt_succ_of_lt g1,g2,fun i' hi' hi2 c m' hc hu=>?_⟩;rcases Nat.lt_succ_iff_lt_or_eq.1 hi2 with z|z
    ·exact g3 i' hi' z c m' hc hu
    ·subst z;exact absurd (wo1 c s m' hu).1 hc
   have new:Lck p.obj E q.evs.length d s m->∃j',j'<q.evs.length+1/\Lck p.obj E j' d s m/\∀i',j'<i'->i'<q.evs.length+1->∀c m',c≠d->Unl p.obj E i' c s m'->m=false/\m'=false:=fun hs=>⟨_,Nat.lt_succ_self _,hs,fun i' g1 g2=>by omega⟩
   cases m with
   |false=>
    rcases Bc1 (obj:=p.obj) h2 with⟨z1,z2,z3⟩|z
    ·exact new ⟨by rw[hE],by rw[hE];exact z2,by rw[hE];show(Z3 p.obj b).num=_;rw[z3,h1],by rw[hE];exact z1⟩
    ·exact old ((Qy0 s false).2 ⟨h1,z⟩)
   |true=>
    rcases Bd1 (obj:=p.obj) h2 with⟨z1,z2,z3⟩|z
    ·exact new ⟨by rw[hE],by rw[hE];exact z2,by rw[hE];show(Z3 p.obj b).num=_;rw[z3,h1],by rw[hE];exact z1⟩
    ·exact old ((Qy0 s true).2 ⟨h1,z⟩)
  ·have hs:=(Cn0 d s m hdi).1 hd;obtain⟨j',g1,g2,g3⟩:=h.sec d s m hs;refine⟨j',Nat.lt_succ_of_lt g1,g2,fun i' hi' hi2 c m' hc hu=>?_⟩;rcases Nat.lt_succ_iff_lt_or_eq.1 hi2 with z|z
   ·exact g3 i' hi' z c m' hc hu
   ·subst z;obtain⟨_,hsi⟩:=wo1 c s m' hu;exact hT.sec hs hsi hdi
 ·rcases Nat.lt_succ_iff_lt_or_eq.1 hy with z|z
  ·exact h.free x y hxy z hax hay h9 hnn hcc
  ·subst z;obtain⟨c,s,m,h1,h2,h3,h4⟩:=h.acc x hxy hax;have wp1:=hay;rw[hE]at wp1;obtain⟨g1,g2,g3,g4,g5,g6⟩:=hp1 (obj:=p.obj) (b:=b) wp1;have hci:c≠i:=fun e=>hcc (by rw[h1,hE,e]);have hs:s=b.j:=by
    rw[h2,hE]at hnn;have hnn:(s:Int)=(Z3 p.obj b).num:=hnn;rw[g2]at hnn;omega
   obtain⟨m',hm',h9'⟩:∃m',Sec q.ft i s m'/\((Z3 p.obj b).kind=9->m'=true):=by
    by_cases hw:bi0 b.ph=true
    ·exact⟨true,(Qy0 s true).2 ⟨hs.symm,hw⟩,fun _=>rfl⟩
    ·exact⟨false,(Qy0 s false).2 ⟨hs.symm,g3.resolve_right hw⟩,fun z=>absurd (g4 z) hw⟩
   have hmm:m=true\/m'=true:=by
    rcases h9 with h9|h9
    ·exact .inl (h3 h9)
    ·rw[hE]at h9;exact .inr (h9' h9)
   have r9:¬(m=false/\m'=false):=fun⟨z1,z2⟩=>by rcases hmm with z|z <;> simp_all
   rcases h4 with h4|⟨i',h5,h6,h7⟩
   ·exact absurd (hT.sec h4 hm' hci) r9
   ·obtain⟨j',k1,k2,k3⟩:=h.sec i s m' hm';have hij:i'<j':=by
     rcases Nat.lt_trichotomy i' j' with z|z|z
     ·exact z
     ·exfalso;subst z;have a1:=h7.1;have a2:=k2.1;rw[a1]at a2;exact hci Uo
     ·exact absurd ((k3 i' z h6 c m hci h7).symm) r9
    refine .step (.step (.link h5 (Nx0 (h1.trans h7.1.symm))) hij (eu1 h7 k2 hmm)) k1 (Nx0 ?_);rw[k2.1,hE]
end
section
variable{p:C5}{sc:Nat->Int}
theorem Ny0(k:Nat):∀n,k <=n->((C1 p).pn sc k).evs <+: ((C1 p).pn sc n).evs
 |0,h=>by rw[Nat.le_zero.1 h];exact List.prefix_rfl
 |n+1,h=>by
  rcases Nat.lt_or_ge n k with z|z
  ·rw[show k=n+1 by omega];exact List.prefix_rfl
  ·refine(Ny0 k n z).trans ?_;show _ <+: ((C1 p).step ((C1 p).pn sc n) (sc n)).evs;rcases ui0 p ((C1 p).pn sc n) (sc n)with⟨e,_⟩|⟨i,b,e,_,hf,_⟩
   ·rw[e];exact List.prefix_rfl
   ·rw[e,(Nw0 hf).2];exact List.prefix_append _ _
theorem Cl0:∀n,((C1 p).I5 n).s=jx0
 |0=>rfl
 |n+1=>by
  show(I9 p.n (p.bo ((C1 p).I5 n).ft.length) 0 (fun _=>none) ((C1 p).I5 n).s []).s=jx0;rw[P8];exact Cl0 n
theorem Nz0(hp:C6 p)(sn:Nat):∀n,n <=sn->Il0 p (evE ((C1 p).pn sc sn).evs) ((C1 p).pn sc n).evs.length ((C1 p).pn sc n).ft
 |0,_=>by
  have hT:=oa0 hp.n.1 ((C1 p).pn sc 0) (.inr ⟨sc,0,rfl⟩);have hs:((C1 p).pn sc 0).s=jx0:=Cl0 _;have he:((C1 p).pn sc 0).evs.length=0:=by
   show((C1 p).I5 (C1 p).m).evs.length=0;rw[((C1 p).to0 _).1];rfl
  have r9:∀d s m,¬Sec ((C1 p).pn sc 0).ft d s m:=fun d s m hd=>by
   obtain⟨b,h1,h2,h3⟩:=hd.inl;cases m with
   |true=>have:=hT.ek0 h1 h3;rw[hs]at this;cases this
   |false=>have:=hT.Ec0 h1 h3;rw[hs]at this;exact absurd this (Nat.lt_irrefl _)
  rw[he];exact⟨fun i hi=>absurd hi (Nat.not_lt_zero _),fun i hi=>absurd hi (Nat.not_lt_zero _),fun d s m hd=>absurd hd (r9 d s m),fun i j _ hj=>absurd hj (Nat.not_lt_zero _)⟩
 |n+1,h=>by
  have ih:=Nz0 hp sn n Uo;have hT:=oa0 hp.n.1 ((C1 p).pn sc n) (.inr ⟨sc,n,rfl⟩);show Il0 p _ ((C1 p).step ((C1 p).pn sc n) (sc n)).evs.length ((C1 p).step ((C1 p).pn sc n) (sc n)).ft;rcases ui0 p ((C1 p).pn sc n) (sc n)with⟨e,_⟩|⟨i,b,e,hi,hf,_⟩
  ·rw[e];exact ih
  ·have ec1:=Ny0 (p:=p) (sc:=sc) (n+1) sn h;have he:((C1 p).pn sc (n+1)).evs=((C1 p).pn sc n).evs ++ [(i,Z3 p.obj b)]:=by
    show((C1 p).step ((C1 p).pn sc n) (sc n)).evs=_;rw[e];exact(Nw0 hf).2
   rw[he]at ec1;have y8:((C1 p).pn sc sn).evs[((C1 p).pn sc n).evs.length]? =some (i,Z3 p.obj b):=by
    obtain⟨t,ht⟩:=ec1;rw[<- ht,List.append_assoc,List.getElem?_append_right (Nat.le_refl _),Nat.sub_self];rfl
   have:=ih.n6 hT hp.n.1 hi hf (Zs0 y8);rw[e,(Nw0 hf).1,(Nw0 hf).2,List.length_append];exact this
theorem Zt0(hp:C6 p)(sn:Nat)(hsn:sn <=2000):Ck.check (evE ((C1 p).pn sc sn).evs) ((C1 p).pn sc sn).evs.length (p.m:Int)=0/\Ck.N4 (evE ((C1 p).pn sc sn).evs) ((C1 p).pn sc sn).evs.length=[]:=by
 have h:=Nz0 (sc:=sc) hp sn sn (Nat.le_refl _);have hl:=(Sys.tp0 (Y:=C1 p) sc sn).1;have hm:=hp.m;constructor
 ·refine Ck.ut0 Uo Uo fun i hi hb=>?_;have:=h.ok i hi;unfold Ck.Eo0 at hb;omega
 ·have key:∀j,j <=((C1 p).pn sc sn).evs.length->Ck.N4 (evE ((C1 p).pn sc sn).evs) j=[]:=by
   intro j
   induction j with
   |zero=>exact fun _=>rfl
   |succ j ih=>
    intro hj;rw[Ck.kx0 fun x hx=>?_]
    ·exact ih Uo
    ·unfold Ck.ba0;cases hd:decide ((((Ck.acc (evE ((C1 p).pn sc sn).evs x)/\Ck.acc (evE ((C1 p).pn sc sn).evs j))/\((evE ((C1 p).pn sc sn).evs x).k=9\/(evE ((C1 p).pn sc sn).evs j).k=9))/\((evE ((C1 p).pn sc sn).evs x).o=(evE ((C1 p).pn sc sn).evs j).o/\(evE ((C1 p).pn sc sn).evs x).n=(evE ((C1 p).pn sc sn).evs j).n))/\(evE ((C1 p).pn sc sn).evs x).c≠(evE ((C1 p).pn sc sn).evs j).c)with
     |false=>rfl
     |true=>
      obtain⟨⟨⟨⟨h1,h2⟩,h3⟩,_,h4⟩,h5⟩:=of_decide_eq_true hd;have ha:=h.free x j hx Uo h1 h2 h3 h4 h5;have:Ck.ahB (evE ((C1 p).pn sc sn).evs) x j=true:=@decide_eq_true _ (Classical.propDecidable _) ha;rw[this];rfl
  exact key _ (Nat.le_refl _)
theorem Zu0{sn B:Nat}{w:World}{R:Rn}(h:mk0 (C1 p) sc sn B R w):Ck.yp0 w R.ea R.evs.length (evE ((C1 p).pn sc sn).evs):=by
 have hev:=h.evs;have hM:=h.mem;have key:∀{i:Nat},i<R.evs.length->∀(k:Nat) v,[Value.i (evE ((C1 p).pn sc sn).evs i).c,.i (evE ((C1 p).pn sc sn).evs i).k,.i (evE ((C1 p).pn sc sn).evs i).o,.i (evE ((C1 p).pn sc sn).evs i).n][k]? =some v->w.cell? ⟨ab R.ea,ao R.ea+i*4+k,none⟩=some v:=fun{i} hi k v hv=>by
  obtain⟨x,hx⟩:∃x,R.evs[i]? =some x:=⟨_,List.getElem?_eq_getElem hi⟩
  obtain⟨c,st⟩:=x;rw[Zs0 (by rw[<- hev];exact hx)]at hv;rw[hM.evs.off,Nat.zero_add];refine hM.evs.cell (Nv0 _ i _ k v hx hv)
 refine⟨hM.evs.sl,fun hi=>key hi 0 _ rfl,fun hi=>?_,fun hi=>?_,fun hi=>?_⟩
 ·have:=key hi 1 _ rfl;rw[show ∀x:Nat,x+1+0=x+1 from fun _=>rfl];exact this
 ·exact key hi 2 _ rfl
 ·exact key hi 3 _ rfl
end
theorem Be1{lb:Nat}{pl:Nat->O7}{obj n:Int}{m bc sn scp:Nat}{bo:Nat->List SOp}{sc:Nat->Int}{ba sa:Option Addr}{oa:Nat->Option Addr}{oc:Nat->Nat}(w0:World)(hm:m <=1000000000000)(hsn:sn <=9223372036854775807)(hBo:ay0 w0 ba m bo oa oc)(hz:∀i,m <=i->bo i=[])(hks:∀i o,o∈bo i->o.key.size <=1000000000000)(hSc:wv0 w0 sa sn scp sc):@C prog (L9 lb pl) 10 #[.agg #[.i obj,.i n,.slice ba m bc,.slice sa sn scp]] w0 fun v w=>v= .bool true/\Below w0.heap.size w0 w:=by
 letI:Ctx prog:=L9 lb pl;refine C.enter (n:=41) func10 rfl rfl<|U2 ?_;intro hb;refine L.box (cs:=#[.i obj,.i n,.slice ba m bc,.slice sa sn scp]) rfl rfl (fun w b1 F1=>?_);have lt1:=F1.lq hb.size;have hb:=B0 hb F1.below;have V8:=F1.blk;refine L.va (jm0 rfl)<|U28 ?_;refine L.va (A2 (cs:=[.i obj,.i n,.slice ba m bc,.slice sa sn scp]) rfl underlying39 rfl qe1 rfl (V8.R7 rfl))<|L.call (N2 rfl func18 rfl xr1 rfl) (ne1 _ hm hsn (hBo.j0 hb)) ?_;rintro _ w ⟨bf,rfl,ir1,L2⟩;have hb:=B0 hb L2;have V8:=V8.j0 L2;clear L2;refine U342 ?_;refine W.cond rfl (fun h10=>?_) (fun h10=>?_)
 ·refine W.seq<|W.region rfl<|L.call (lb0  func11 rfl qt1 rfl) (Yy0 _) ?_;rintro _ w ⟨rfl,L2⟩;have hb:=B0 hb L2;exact U156
 ·refine W.skip<|U52 ?_;refine L.va (A2 (cs:=[.i obj,.i n,.slice ba m bc,.slice sa sn scp]) rfl underlying39 rfl qe1 rfl (V8.R7 rfl)) ?_;obtain⟨hF,Bf1⟩:=ir1 (by simpa using h10);obtain⟨nn,hnn⟩:∃nn:Nat,n=(nn:Int):=⟨n.toNat,by have:=hF.n1;omega⟩
  have vs1:=hF.m1;have Zv0:=Yw0 (lb:=lb) (pl:=pl) (obj:=obj) (n:=nn) (bc:=bc) (scp:=scp) (sc:=sc) w (hBo.j0 hb) hz hks (hSc.j0 hb) ⟨by have:=hF.n1;omega,hF.m1,hF.sum,by omega⟩;rw[<- hnn]at Zv0;obtain⟨Bq,hBq⟩:∃Bq,Bq=w.heap.size:=⟨_,rfl⟩
  refine L.call (N2 rfl func19 rfl qu1 rfl) Zv0 ?_;rintro _ w1 ⟨p,R,mF,r1,rfl,⟨pm,pbo,pn,nk1,pB⟩,hY,L2⟩;rw[<- hBq]at hY;have hb:=B0 hb L2;have V8:=V8.j0 L2;clear L2 Zv0 hBq
  rename World=>w
  refine U80 ?_;refine L.va (K6 rfl rfl) ?_;have hr1:=V8;have Hx0:=hY;have Hy0:=hb;refine L.alloc (cs:=#[.slice none 0 0,.slice none 0 0,.slice none 0 0,.slice none 0 0,.bool false,.i 0]) Th0 rfl (fun w b3 F3=>?_);have lt3:=F3.lq hb.size;have o5:=F3.blk;refine L.pa [.slice R.ea R.evs.length R.ec,.slice R.na R.nts.length R.nc,.slice (pt R.eb) R.m R.m,.slice (pt R.wb) R.m R.m,.bool R.stuck,.i (R.used:Int)] nn0 o5 (fun w G1 hg H2=>?_);have hbA:=W3 F3.below F3.below.size hg (by have:=F3.here;omega);have V8:=hr1.j0 hbA;have hY:=Hx0.j0 hbA;have hb:=B0 Hy0 hbA;have o5:=G1;clear G1 hg H2 hbA F3 hr1 Hx0 Hy0;refine L.va (Z9 rfl)<|U65 ?_;refine L.va (A0 rfl underlying45 rfl Tg0 Ud)<|L.va (q0 rfl underlying41 rfl (o5.E0 0 (v:=.slice R.ea R.evs.length R.ec) rfl))<|U318 ?_;obtain⟨hck,hnr⟩:=Zt0 (sc:=sc) hY.ok sn Bf1;rw[pm,<- hY.run.evs]at hck;rw[<- hY.run.evs]at hnr;have hEv:=Zu0 hY.run;rw[<- hY.run.evs]at hEv;refine L.call (B2 rfl rfl func36 rfl xt1 rfl) (Ck.Qw0 R.ea R.evs.length R.ec (evE R.evs) (m:Int) w hEv hck) ?_;rintro _ w ⟨oa9,oc9,rfl,_,L2⟩;rw[hnr];have hb:=B0 hb L2;clear L2;refine U80 ?_;refine U292 ?_;refine U0 ?_;refine L.va (n8 rfl)<|U36 ?_;refine U26 ?_;refine L.call (N2 rfl func15 rfl jr1 rfl) (Yv0 _ w) ?_;rintro _ w1 ⟨rfl,hw⟩;refine U29 ?_;refine U227 ?_;refine U36 ?_;refine U326 ?_;refine L.va (Da0 (m:=0) rfl rfl underlying81 rfl)<|U227 ?_;refine U36 ?_;refine L.call (lb0  func11 rfl qt1 rfl) (Yy0 _) ?_;rintro _ w ⟨rfl,L2⟩;have hb:=B0 hb L2;exact L.va (k7 rfl)<|U156
end Go.Vy.Sc
end
