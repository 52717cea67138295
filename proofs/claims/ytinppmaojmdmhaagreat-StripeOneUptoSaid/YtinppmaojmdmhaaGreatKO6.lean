/- What the claim leans on, part 6. Laws. -/
import Derived.Test.YtinppmaojmdmhaaGreatKO5
import Derived.Conc.LeavingOf
import Derived.JoinedCond
import Derived.Deep.CondSized
set_option linter.unusedVariables false
section
namespace Go.Vy.Sc
open Go Go.Conc Go.Yc Go.RowKit Go.Proofs Go.Proofs.YtinppmaojmdmhaaGreat Tryz
open Go.Vc Go.Wg
def fop (k:ByteArray):List SOp:=[⟨1,0,k⟩,⟨5,0,ByteArray.empty⟩,⟨2,0,ByteArray.empty⟩,⟨5,0,ByteArray.empty⟩,⟨3,0,ByteArray.empty⟩,⟨4,0,ByteArray.empty⟩]
def E2 (ks:List ByteArray):List SOp:=ks.flatMap fop
theorem fq0 (ks:List ByteArray):(E2 ks).length=6*ks.length:=by
 induction ks with
 |nil=>rfl
 |cons a ks ih=>unfold E2 at ih⊢;rw[List.flatMap_cons,List.length_append,ih,List.length_cons];show 6+_=_;omega
theorem yp0:∀(t:Nat) (ks:List ByteArray),(E2 ks).drop (6*t)=E2 (ks.drop t)
 |0,ks=>rfl
 |t+1,[]=>by show List.drop _ []=_;rw[List.drop_nil,List.drop_nil];rfl
 |t+1,a::ks=>yp0 t ks
theorem jg0 {ks:List ByteArray} {t:Nat} {k:ByteArray} (h:ks[t]? =some k) (d:Nat):(E2 ks)[6*t+d]? =(fop k++E2 (ks.drop (t+1)))[d]?:=by
 rw[<- List.getElem?_drop,yp0,ee0 h];rfl
section
variable {n t:Nat}{ks:List ByteArray}{has:Nat->Option Nat}{s:E3}{nts:List Nte}{k:ByteArray}{e:Nat}
theorem yq0 (h:ks[t]? =some k):P6 n ((E2 ks).drop (6*t)) (6*t) has s nts=⟨s,nts,.inl ⟨6*t+1,has,0,M9 n k,k,.j5,0,kj0,[]⟩⟩:=Dt0 (o:=⟨1,0,k⟩) (jg0 h 0) rfl
theorem yr0 (h:ks[t]? =none):P6 n ((E2 ks).drop (6*t)) (6*t) has s nts=⟨s,nts,.inr 1⟩:=Al0 (by rw[fq0];have:=List.getElem?_eq_none_iff.1 h;omega)
theorem bc1 (h:ks[t]? =some k) (hh:has 0=some e):P6 n ((E2 ks).drop (6*t+1)) (6*t+1) has s nts=⟨s,nts ++ [⟨1,am0 s (some e)⟩],.inl ⟨6*t+3,has,0,0,(gE s e).key,.n5 e,(gE s e).num,kj0,[]⟩⟩:=by
 rw[lw0 (o:=⟨5,0,ByteArray.empty⟩) (jg0 h 1) rfl,Du0 (o:=⟨2,0,ByteArray.empty⟩) (e:=e) (jg0 h 2) rfl hh];have h0:has (plc ⟨5,0,ByteArray.empty⟩)=some e:=hh;rw[h0]
theorem op1 (h:ks[t]? =some k) (hh:has 0=some e):P6 n ((E2 ks).drop (6*t+3)) (6*t+3) has s nts=⟨s,nts ++ [⟨1,am0 s (some e)⟩],.inl ⟨6*t+5,has,0,0,(gE s e).key,.W2 e,(gE s e).num,kj0,[]⟩⟩:=by
 rw[lw0 (o:=⟨5,0,ByteArray.empty⟩) (jg0 h 3) rfl,rh0 (o:=⟨3,0,ByteArray.empty⟩) (e:=e) (jg0 h 4) rfl hh];have h0:has (plc ⟨5,0,ByteArray.empty⟩)=some e:=hh;rw[h0]
theorem oq1 (h:ks[t]? =some k) (hh:has 0=some e):P6 n ((E2 ks).drop (6*t+5)) (6*t+5) has s nts=⟨s,nts,.inl ⟨6*t+6,o3 has 0 none,0,M9 n (gE s e).key,(gE s e).key,.less e,(gE s e).num,kj0,[]⟩⟩ :=
 Dv0 (o:=⟨4,0,ByteArray.empty⟩) (e:=e) (jg0 h 5) rfl hh
end
def jn0:Ph->Nat
 | .n5 _=>3
 | .W2 _=>5
 | .less _| .ad0 _| .ae0 _| .K1 _| .out _| .R6 _=>6
 |_=>1
def lkE:Ph->Option Nat
 | .n5 e| .W2 e=>some e
 |_=>none
def af0:Ph->Option Nat
 | .run e| .unl e| .n5 e| .W2 e| .less e=>some e
 |_=>none
def unE:Ph->Option Nat
 | .W2 e=>some e
 |_=>none
def drE:Ph->Option Nat
 | .ad0 e| .ae0 e| .K1 e| .out e=>some e
 |_=>none
def moE:Ph->Option Nat
 | .more e| .z6 e=>some e
 |_=>none
def ouE:Ph->Option Nat
 | .out e=>some e
 |_=>none
def wt:Ph->Nat
 | .j5=>15| .look=>14| .more _=>13| .run _=>12| .ep0=>13| .lck=>12| .cd0=>11| .z6 _=>10| .make=>10| .unl _=>9
 | .n5 _=>8| .W2 _=>7
 | .less _=>6| .ad0 _=>5| .ae0 _=>4| .K1 _=>3| .out _=>2| .R6 _=>1
structure FL (ks:List ByteArray) (s:E3) (b:Lb) (t:Nat):Prop where
 key:∃key,ks[t]? =some key/\(gq0 b.ph=true->b.q=key/\b.to=0)/\∀e,phE b.ph=some e->(gE s e).key=key
 k:b.k=6*t+jn0 b.ph
 has:∀e,lkE b.ph=some e->b.has 0=some e
def phO:Lb ⊕ Nat->Option Ph
 | .inl b=>some b.ph
 | .inr _=>none
inductive PT (s:E3) (j N:Nat):Ph->Option Ph->Prop
 |j5:PT s j N .j5 (some .look)
 |or1 (e:Nat) (h:e∈(s.st j).l):PT s j N .look (some (.more e))
 |os1:PT s j N .look (some .ep0)
 |more (e:Nat):PT s j N (.more e) (some (.run e))
 |run (e:Nat):PT s j N (.run e) (some (.n5 e))
 |ep0:PT s j N .ep0 (some .lck)
 |lck:PT s j N .lck (some .cd0)
 |ot1 (e:Nat) (h:e∈(s.st j).l):PT s j N .cd0 (some (.z6 e))
 |ou1:PT s j N .cd0 (some .make)
 |z6 (e:Nat):PT s j N (.z6 e) (some (.unl e))
 |make:PT s j N .make (some (.unl N))
 |unl (e:Nat):PT s j N (.unl e) (some (.n5 e))
 |n5 (e:Nat):PT s j N (.n5 e) (some (.W2 e))
 |W2 (e:Nat):PT s j N (.W2 e) (some (.less e))
 |Tl0 (e:Nat) (h:(gE (D8 s e (-1)) e).K1=0):PT s j N (.less e) (some (.ad0 e))
 |Ja0 (e:Nat) (x:Option Ph) (h:(gE (D8 s e (-1)) e).K1≠0) (hx:x=none\/x=some .j5):PT s j N (.less e) x
 |ad0 (e:Nat):PT s j N (.ad0 e) (some (.ae0 e))
 |ov1 (e:Nat) (h:e∈(s.st j).l):PT s j N (.ae0 e) (some (.K1 e))
 |ow1 (e:Nat) (h:e∉(s.st j).l):PT s j N (.ae0 e) (some (.R6 e))
 |gm1 (e:Nat) (h:(gE s e).K1=0):PT s j N (.K1 e) (some (.out e))
 |gn1 (e:Nat) (h:(gE s e).K1≠0):PT s j N (.K1 e) (some (.R6 e))
 |out (e:Nat):PT s j N (.out e) (some (.R6 e))
 |R6 (e:Nat) (x:Option Ph) (hx:x=none\/x=some .j5):PT s j N (.R6 e) x
def Ec0:Ph->Option Nat
 | .run e| .unl e| .n5 e=>some e
 |_=>none
structure FNx (ks:List ByteArray) (s s':E3) (b:Lb) (t:Nat) (o:k6 E3 Lb):Prop where
 pht:PT s b.j s.en.length b.ph (phO o.N1)
 fl:∀b',o.N1= .inl b'->∃t',FL ks s' b' t'/\wt b'.ph+15*(ks.length-t'-1)+1 <=wt b.ph+15*(ks.length-t-1)/\((t'=t/\jn0 b.ph <=jn0 b'.ph)\/(t'=t+1/\b'.ph= .j5/\jn0 b.ph=6))
 jj:∀b' e,o.N1= .inl b'->(moE b'.ph=some e\/ouE b'.ph=some e)->b'.j=b.j
 fin:∀x,o.N1= .inr x->x=1/\jn0 b.ph=6/\t+1=ks.length
 nts:o.nts=match Ec0 b.ph with
  |some e=>[⟨1,am0 s' (some e)⟩]
  |none=>[]
section
variable {n i t:Nat}{ks:List ByteArray}{s s':E3}{b:Lb}
theorem Tm0 (p:Ph):1 <=wt p:=by cases p <;> exact Nat.le_of_ble_eq_true rfl
theorem Gw0 {has:Nat->Option Nat} {k:Nat} (hk:k=6*t+6) (ht:t<ks.length):(P6 n ((E2 ks).drop k) k has s' []).nts=[]/\(((P6 n ((E2 ks).drop k) k has s' []).N1= .inr 1/\t+1=ks.length) \/
  ∃b',(P6 n ((E2 ks).drop k) k has s' []).N1= .inl b'/\b'.ph= .j5/\FL ks s' b' (t+1)/\t+1<ks.length):=by
 obtain rfl:k=6*(t+1):=by omega
 cases h:ks[t+1]? with
 |none=>
  rw[yr0 h];have:=List.getElem?_eq_none_iff.1 h;exact⟨rfl,.inl ⟨rfl,by omega⟩⟩
 |some key=>
  rw[yq0 h];exact⟨rfl,.inr ⟨_,rfl,rfl,⟨⟨key,h,fun _=>⟨rfl,rfl⟩,fun e z=>by cases z⟩,rfl,fun e z=>by cases z⟩,(List.getElem?_eq_some_iff.1 h).1⟩⟩
theorem FL.on {p':Ph} {bs':Str} {bk':List ByteArray} {nu':Nat} (h:FL ks s b t) (hg:Grs s s') (ho:jn0 p'=jn0 b.ph) (hi:gq0 p'=true->gq0 b.ph=true) (he:∀e,phE p'=some e->phE b.ph=some e\/(gE s' e).key=b.q/\gq0 b.ph=true) (hL:∀e,phE b.ph=some e->e<s.en.length) (hl:lkE p'=none):FL ks s' {b with ph:=p',bs:=bs',bk:=bk',nu:=nu'} t:=by
 obtain⟨key,h1,h2,h3⟩:=h.key;refine⟨⟨key,h1,fun z=>h2 (hi z),fun e z=>?_⟩,by show b.k=_;rw[h.k];show _=6*t+jn0 p';rw[ho],fun e z=>by have z:lkE p'=some e:=z;rw[hl]at z;cases z⟩;rcases he e z with z2|⟨z2,z3⟩
 ·rw[(hg.same e (hL e z2)).1];exact h3 e z2
 ·rw[z2];exact(h2 z3).1
set_option maxHeartbeats 1000000 in
theorem jh0 (hL:LOk n (E2 ks) i s b) (hF:FL ks s b t):FNx ks s (sT n i b s) b t (A4 n (E2 ks) i b s):=by
 have hg:=my0 hL;have hE:=hL.e;obtain⟨key,hk1,hk2,hk3⟩:=hF.key;have htl:=(List.getElem?_eq_some_iff.1 hk1).1;obtain⟨k,has,to,j,q,ph,nu,bs,bk⟩:=b;have hkk:=hF.k;have gs0:=hF.has;have simple:∀{p':Ph} {bs':Str} {bk':List ByteArray} {nu':Nat},(A4 n (E2 ks) i ⟨k,has,to,j,q,ph,nu,bs,bk⟩ s).N1= .inl ⟨k,has,to,j,q,p',nu',bs',bk'⟩->(A4 n (E2 ks) i ⟨k,has,to,j,q,ph,nu,bs,bk⟩ s).nts=[]->Ec0 ph=none->PT s j s.en.length ph (some p')->jn0 p'=jn0 ph->(gq0 p'=true->gq0 ph=true)->(∀e,phE p'=some e->phE ph=some e\/(gE (sT n i ⟨k,has,to,j,q,ph,nu,bs,bk⟩ s) e).key=q/\gq0 ph=true)->lkE p'=none->wt p'+1 <=wt ph ->
   FNx ks s (sT n i ⟨k,has,to,j,q,ph,nu,bs,bk⟩ s) ⟨k,has,to,j,q,ph,nu,bs,bk⟩ t (A4 n (E2 ks) i ⟨k,has,to,j,q,ph,nu,bs,bk⟩ s):=by
  intro p' bs' bk' nu' h1 h2 h3 h4 h5 h6 h7 h8 h9;refine⟨by rw[h1];exact h4,fun b' z=>?_,fun b' e z _=>?_,fun x z=>?_,by rw[h2];show []=match Ec0 ph with|some e=>_|none=>_;rw[h3]⟩
  ·rw[h1]at z;cases z;exact⟨t,hF.on (s':=sT n i ⟨k,has,to,j,q,ph,nu,bs,bk⟩ s) (p':=p') hg h5 h6 h7 hE h8,by show wt p'+_+1 <=wt ph+_;omega,.inl ⟨rfl,by show jn0 ph <=jn0 p';omega⟩⟩
  ·rw[h1]at z;cases z;rfl
  ·rw[h1]at z;cases z
 have round:∀{s1:E3} {hs1:Nat->Option Nat},sT n i ⟨k,has,to,j,q,ph,nu,bs,bk⟩ s=s1->A4 n (E2 ks) i ⟨k,has,to,j,q,ph,nu,bs,bk⟩ s=P6 n ((E2 ks).drop k) k hs1 s1 []->Ec0 ph=none->jn0 ph=6->(∀x,(x=none\/x=some .j5)->PT s j s.en.length ph x) ->
   FNx ks s (sT n i ⟨k,has,to,j,q,ph,nu,bs,bk⟩ s) ⟨k,has,to,j,q,ph,nu,bs,bk⟩ t (A4 n (E2 ks) i ⟨k,has,to,j,q,ph,nu,bs,bk⟩ s):=by
  intro s1 hs1 h0 h1 h2 h3 h4;have hk6:k=6*t+6:=by have:k=6*t+jn0 ph:=hkk;omega
  obtain⟨r1,r2⟩:=Gw0 (n:=n) (ks:=ks) (s':=s1) (has:=hs1) hk6 htl;rw[h0,h1];refine⟨?_,fun b' z=>?_,fun b' e z hm=>?_,fun x z=>?_,by rw[r1];show []=match Ec0 ph with|some e=>_|none=>_;rw[h2]⟩
  ·rcases r2 with⟨r2,_⟩|⟨b',r2,r3,_⟩
   ·rw[r2];exact h4 _ (.inl rfl)
   ·rw[r2];exact h4 _ (.inr (by show some b'.ph=_;rw[r3]))
  ·rcases r2 with⟨r2,_⟩|⟨b2,r2,r3,r4,r5⟩
   ·rw[r2]at z;cases z
   ·rw[r2]at z;cases z;refine⟨t+1,r4,?_,.inr ⟨rfl,r3,h3⟩⟩;have hw:=Tm0 ph;rw[r3];show 15+15*(ks.length-(t+1)-1)+1 <=wt ph+15*(ks.length-t-1);omega
  ·rcases r2 with⟨r2,_⟩|⟨b2,r2,r3,_⟩
   ·rw[r2]at z;cases z
   ·rw[r2]at z;cases z;rw[r3]at hm;rcases hm with hm|hm <;> cases hm
  ·rcases r2 with⟨r2,r5⟩|⟨b2,r2,_⟩
   ·rw[r2]at z;cases z;exact⟨rfl,h3,r5⟩
   ·rw[r2]at z;cases z
 cases ph with
 |j5=>exact simple (p':=.look) rfl rfl rfl .j5 rfl (fun _=>rfl) (fun e z=>by cases z) rfl (by decide)
 |look=>
  cases hf:bo0 s j q with
  |none=>exact simple (p':=.ep0) (by unfold A4;simp only[hf];rfl) (by unfold A4;simp only[hf]) rfl .os1 rfl (fun _=>rfl) (fun e z=>by cases z) rfl (by decide)
  |some e=>exact simple (p':=.more e) (by unfold A4;simp only[hf];rfl) (by unfold A4;simp only[hf]) rfl (.or1 e (ck0 hf).1) rfl (fun _=>rfl) (fun e' z=>by cases z;exact .inr ⟨(ck0 hf).2,rfl⟩) rfl (by show 13+1 <=14;decide)
 |more e=>exact simple (p':=.run e) rfl rfl rfl (.more e) rfl (fun _=>rfl) (fun e' z=>.inl z) rfl (by show 12+1 <=13;decide)
 |ep0=>exact simple (p':=.lck) rfl rfl rfl .ep0 rfl (fun _=>rfl) (fun e z=>by cases z) rfl (by decide)
 |lck=>exact simple (p':=.cd0) rfl rfl rfl .lck rfl (fun _=>rfl) (fun e z=>by cases z) rfl (by decide)
 |cd0=>
  cases hf:bo0 s j q with
  |none=>exact simple (p':=.make) (by unfold A4;simp only[hf];rfl) (by unfold A4;simp only[hf]) rfl .ou1 rfl (fun _=>rfl) (fun e z=>by cases z) rfl (by decide)
  |some e=>exact simple (p':=.z6 e) (by unfold A4;simp only[hf];rfl) (by unfold A4;simp only[hf]) rfl (.ot1 e (ck0 hf).1) rfl (fun _=>rfl) (fun e' z=>by cases z;exact .inr ⟨(ck0 hf).2,rfl⟩) rfl (by show 10+1 <=11;decide)
 |z6 e=>exact simple (p':=.unl e) rfl rfl rfl (.z6 e) rfl (fun _=>rfl) (fun e' z=>.inl z) rfl (by show 9+1 <=10;decide)
 |make=>exact simple (p':=.unl s.en.length) rfl rfl rfl .make rfl (fun _=>rfl) (fun e' z=>by cases z;exact .inr ⟨by show(gE (an0 n i _ s) s.en.length).key=q;rw[mx0],rfl⟩) rfl (by show 9+1 <=10;decide)
 |ad0 e=>exact simple (p':=.ae0 e) rfl rfl rfl (.ad0 e) rfl (fun z=>by cases z) (fun e' z=>.inl z) rfl (by show 4+1 <=5;decide)
 |ae0 e=>
  by_cases hin:e∈(s.st j).l
  ·exact simple (p':=.K1 e) (by unfold A4;simp only[if_pos hin];rfl) (by unfold A4;simp only[if_pos hin]) rfl (.ov1 e hin) rfl (fun z=>by cases z) (fun e' z=>.inl z) rfl (by show 3+1 <=4;decide)
  ·exact simple (p':=.R6 e) (by unfold A4;simp only[if_neg hin];rfl) (by unfold A4;simp only[if_neg hin]) rfl (.ow1 e hin) rfl (fun z=>by cases z) (fun e' z=>.inl z) rfl (by show 1+1 <=4;decide)
 |K1 e=>
  by_cases hz:(gE s e).K1=0
  ·exact simple (p':=.out e) (by unfold A4;simp only[if_pos hz];rfl) (by unfold A4;simp only[if_pos hz]) rfl (.gm1 e hz) rfl (fun z=>by cases z) (fun e' z=>.inl z) rfl (by show 2+1 <=3;decide)
  ·exact simple (p':=.R6 e) (by unfold A4;simp only[if_neg hz];rfl) (by unfold A4;simp only[if_neg hz]) rfl (.gn1 e hz) rfl (fun z=>by cases z) (fun e' z=>.inl z) rfl (by show 1+1 <=3;decide)
 |out e=>exact simple (p':=.R6 e) rfl rfl rfl (.out e) rfl (fun z=>by cases z) (fun e' z=>.inl z) rfl (by show 1+1 <=2;decide)
 |R6 e=>exact round rfl rfl rfl rfl fun x hx=>.R6 e x hx
 |less e=>
  by_cases hz:(gE (D8 s e (-1)) e).K1=0
  ·exact simple (p':=.ad0 e) (by unfold A4;simp only[if_pos hz];rfl) (by unfold A4;simp only[if_pos hz]) rfl (.Tl0 e hz) rfl (fun z=>by cases z) (fun e' z=>.inl z) rfl (by show 5+1 <=6;decide)
  ·exact round (s1:=D8 s e (-1)) (hs1:=has) rfl (by unfold A4;simp only[if_neg hz]) rfl rfl fun x hx=>.Ja0 e x hz hx
 |run e=>
  have hto:to=0:=(hk2 rfl).2;have hk:k=6*t+1:=hkk;have z:=bc1 (n:=n) (has:=o3 has to (some e)) (s:=W6 s j {s.st j with E5:=(s.st j).E5-1}) (nts:=[]) (e:=e) hk1 (by rw[hto];exact Y0);rw[<- hk]at z;have h1:A4 n (E2 ks) i ⟨k,has,to,j,q,.run e,nu,bs,bk⟩ s=_:=z;rw[h1];refine⟨.run e,fun b' z=>?_,fun b' e' z hm=>?_,(fun x z=>by cases z),rfl⟩
  ·cases z;exact⟨t,⟨⟨key,hk1,(fun z=>by cases z),fun e' z=>by cases z;exact hk3 e rfl⟩,rfl,fun e' z=>by cases z;show o3 has to (some e) 0=_;rw[hto,Y0]⟩,by show 8+_+1 <=12+_;omega,.inl ⟨rfl,by show 1 <=3;decide⟩⟩
  ·cases z;rcases hm with hm|hm <;> cases hm
 |unl e=>
  have hto:to=0:=(hk2 rfl).2;have hk:k=6*t+1:=hkk;have z:=bc1 (n:=n) (has:=o3 has to (some e)) (s:=W6 s j {s.st j with held:=false}) (nts:=[]) (e:=e) hk1 (by rw[hto];exact Y0);rw[<- hk]at z;have h1:A4 n (E2 ks) i ⟨k,has,to,j,q,.unl e,nu,bs,bk⟩ s=_:=z;rw[h1];refine⟨.unl e,fun b' z=>?_,fun b' e' z hm=>?_,(fun x z=>by cases z),rfl⟩
  ·cases z;exact⟨t,⟨⟨key,hk1,(fun z=>by cases z),fun e' z=>by cases z;exact hk3 e rfl⟩,rfl,fun e' z=>by cases z;show o3 has to (some e) 0=_;rw[hto,Y0]⟩,by show 8+_+1 <=9+_;omega,.inl ⟨rfl,by show 1 <=3;decide⟩⟩
  ·cases z;rcases hm with hm|hm <;> cases hm
 |n5 e=>
  have hh:=gs0 e rfl;have hk:k=6*t+3:=hkk;have hke:(gE (A8 s e {gE s e with held:=true}) e).key=key:=(hg.same e (hE e rfl)).1.trans (hk3 e rfl);have z:=op1 (n:=n) (has:=has) (s:=A8 s e {gE s e with held:=true}) (nts:=[]) (e:=e) hk1 hh;rw[<- hk]at z;have h1:A4 n (E2 ks) i ⟨k,has,to,j,q,.n5 e,nu,bs,bk⟩ s=_:=z;rw[h1];refine⟨.n5 e,fun b' z=>?_,fun b' e' z hm=>?_,(fun x z=>by cases z),rfl⟩
  ·cases z;exact⟨t,⟨⟨key,hk1,(fun z=>by cases z),fun e' z=>by cases z;exact hke⟩,rfl,fun e' z=>by cases z;exact hh⟩,by show 7+_+1 <=8+_;omega,.inl ⟨rfl,by show 3 <=5;decide⟩⟩
  ·cases z;rcases hm with hm|hm <;> cases hm
 |W2 e=>
  have hh:=gs0 e rfl;have hk:k=6*t+5:=hkk;have hke:(gE (A8 s e {gE s e with held:=false}) e).key=key:=(hg.same e (hE e rfl)).1.trans (hk3 e rfl);have z:=oq1 (n:=n) (has:=has) (s:=A8 s e {gE s e with held:=false}) (nts:=[]) (e:=e) hk1 hh;rw[<- hk]at z;have h1:A4 n (E2 ks) i ⟨k,has,to,j,q,.W2 e,nu,bs,bk⟩ s=_:=z;rw[h1];refine⟨.W2 e,fun b' z=>?_,fun b' e' z hm=>?_,(fun x z=>by cases z),rfl⟩
  ·cases z;exact⟨t,⟨⟨key,hk1,(fun z=>by cases z),fun e' z=>by cases z;exact hke⟩,rfl,fun e' z=>by cases z⟩,by show 6+_+1 <=7+_;omega,.inl ⟨rfl,by show 5 <=6;decide⟩⟩
  ·cases z;rcases hm with hm|hm <;> cases hm
end
def isP (E:Ph->Option Nat) (e:Nat) (f:Lb ⊕ Nat):Bool:=decide ((phO f).bind E=some e)
section
variable {n i:Nat}{s:E3}{b:Lb}
theorem Tn0 (n i:Nat) (b:Lb) (s:E3):(sT n i b s).en.length=match b.ph with
  | .make=>s.en.length+1
  |_=>s.en.length:=by
 obtain⟨k,has,to,j,q,ph,nu,bs,bk⟩:=b;cases ph with
 |make=>show(s.en ++ [_]).length=_;rw[List.length_append];rfl
 |more e=>exact List.length_set ..
 |z6 e=>exact List.length_set ..
 |less e=>exact List.length_set ..
 |n5 e=>exact List.length_set ..
 |W2 e=>exact List.length_set ..
 |_=>rfl
theorem go1 (hE:∀e,phE b.ph=some e->e<s.en.length) {e:Nat} (he:e<(sT n i b s).en.length):(gE (sT n i b s) e).K1=match b.ph with
  | .more e0| .z6 e0=>if e=e0 then IntKind.i64.wrap ((gE s e0).K1+1) else(gE s e).K1
  | .less e0=>if e=e0 then IntKind.i64.wrap ((gE s e0).K1 + -1) else(gE s e).K1
  | .make=>if e=s.en.length then 1 else(gE s e).K1
  |_=>(gE s e).K1:=by
 rw[Tn0]at he;obtain⟨k,has,to,j,q,ph,nu,bs,bk⟩:=b;have key:∀e0 x,e0<s.en.length->(gE (A8 s e0 x) e).K1=if e=e0 then x.K1 else(gE s e).K1:=fun e0 x h=>by
  rw[er0 h];split <;> rfl
 cases ph with
 |more e0=>exact key e0 _ (hE e0 rfl)
 |z6 e0=>exact key e0 _ (hE e0 rfl)
 |less e0=>exact key e0 _ (hE e0 rfl)
 |n5 e0=>refine(key e0 _ (hE e0 rfl)).trans ?_;show(if e=e0 then(gE s e0).K1 else _)=(gE s e).K1;split;rename_i h;rw[h];rfl
 |W2 e0=>refine(key e0 _ (hE e0 rfl)).trans ?_;show(if e=e0 then(gE s e0).K1 else _)=(gE s e).K1;split;rename_i h;rw[h];rfl
 |make=>
  have he:e<s.en.length+1:=he;show(gE (an0 n i _ s) e).K1=if e=s.en.length then 1 else(gE s e).K1
  by_cases h:e=s.en.length
  ·rw[if_pos h,h,mx0]
  ·rw[if_neg h,Ac0 (by omega)]
 |_=>rfl
theorem ox1 (hE:∀e,phE b.ph=some e->e<s.en.length) {e:Nat} (he:e<(sT n i b s).en.length):(gE (sT n i b s) e).held=match b.ph with
  | .n5 e0=>if e=e0 then true else(gE s e).held
  | .W2 e0=>if e=e0 then false else(gE s e).held
  | .make=>if e=s.en.length then false else(gE s e).held
  |_=>(gE s e).held:=by
 rw[Tn0]at he;obtain⟨k,has,to,j,q,ph,nu,bs,bk⟩:=b;have key:∀e0 x,e0<s.en.length->(gE (A8 s e0 x) e).held=if e=e0 then x.held else(gE s e).held:=fun e0 x h=>by
  rw[er0 h];split <;> rfl
 have same:∀e0 d,e0<s.en.length->(gE (D8 s e0 d) e).held=(gE s e).held:=fun e0 d h=>by
  refine(key e0 _ h).trans ?_;show(if e=e0 then(gE s e0).held else _)=(gE s e).held;split;rename_i h;rw[h];rfl
 cases ph with
 |more e0=>exact same e0 _ (hE e0 rfl)
 |z6 e0=>exact same e0 _ (hE e0 rfl)
 |less e0=>exact same e0 _ (hE e0 rfl)
 |n5 e0=>exact key e0 _ (hE e0 rfl)
 |W2 e0=>exact key e0 _ (hE e0 rfl)
 |make=>
  have he:e<s.en.length+1:=he;show(gE (an0 n i _ s) e).held=if e=s.en.length then false else(gE s e).held
  by_cases h:e=s.en.length
  ·rw[if_pos h,h,mx0]
  ·rw[if_neg h,Ac0 (by omega)]
 |_=>rfl
theorem lT (n i:Nat) (b:Lb) (s:E3) (j:Nat):((sT n i b s).st j).l=if j=b.j then(match b.ph with
  | .make=>(s.st b.j).l ++ [s.en.length]
  | .out e0=>(s.st b.j).l.filter fun x=>decide (x≠e0)
  |_=>(s.st b.j).l) else(s.st j).l:=by
 by_cases h:j=b.j
 ·subst h;rw[if_pos rfl];obtain⟨k,has,to,j,q,ph,nu,bs,bk⟩:=b;cases ph <;> first
   |rfl
   |(simp[sT,W6,an0,Ab0,Y0];done)
 ·rw[if_neg h,Dd0 h]
end
structure FOk (n m:Nat) (ks:Nat->List ByteArray) (s:E3) (ft:List (Lb ⊕ Nat)):Prop where
 tok:TOk n m (fun i=>E2 (ks i)) s ft
 fl:∀i b,ft[i]? =some (.inl b)->∃t,FL (ks i) s b t
 us:∀e,e<s.en.length->(gE s e).K1=(ft.countP (isP af0 e):Nat)
 inn:∀e,e<s.en.length->0<(gE s e).K1->e∈(s.st (M9 n (gE s e).key)).l
 mo:∀(i:Nat) (b:Lb) (e:Nat),ft[i]? =some (.inl b)->moE b.ph=some e->e∈(s.st b.j).l
 ou:∀(i:Nat) (b:Lb) (e:Nat),ft[i]? =some (.inl b)->ouE b.ph=some e->(gE s e).K1=0
 hd:∀e,e<s.en.length->ft.countP (isP unE e)=if(gE s e).held=true then 1 else 0
 k2:∀j e,e∈(s.st j).l->M9 n (gE s e).key=j
 dr:∀e,e<s.en.length->(gE s e).K1=0->e∈(s.st (M9 n (gE s e).key)).l->0<ft.countP (isP drE e)
section
variable {n m i:Nat}{ks:Nat->List ByteArray}{s:E3}{ft:List (Lb ⊕ Nat)}{b:Lb}
theorem FOk.start:FOk n m ks jm0 [] :=
 ⟨TOk.start,(fun i b h=>by cases h),fun e h=>absurd h (Nat.not_lt_zero _),fun e h=>absurd h (Nat.not_lt_zero _),(fun i b e h=>by cases h),(fun i b e h=>by cases h),fun e h=>absurd h (Nat.not_lt_zero _),(fun j e h=>by cases h),fun e h=>absurd h (Nat.not_lt_zero _)⟩
theorem lz0 {E:Ph->Option Nat} {e:Nat} (hb:ft[i]? =some (.inl b)) (h:E b.ph=some e):0<ft.countP (isP E e) :=
 List.countP_pos_iff.2 ⟨_,List.mem_of_getElem? hb,by unfold isP;simp[phO,h]⟩
theorem FOk.beg (h:FOk n m ks s ft) (hn:0<n):FOk n m ks s (ft ++ [(P6 n (E2 (ks ft.length)) 0 (fun _=>none) s []).N1]):=by
 have hf:(P6 n (E2 (ks ft.length)) 0 (fun _=>none) s []).N1= .inr 1\/∃b,(P6 n (E2 (ks ft.length)) 0 (fun _=>none) s []).N1= .inl b/\b.ph= .j5/\FL (ks ft.length) s b 0:=by
  cases hk:(ks ft.length)[0]? with
  |none=>exact .inl (by have:=yr0 (n:=n) (t:=0) (has:=fun _=>none) (s:=s) (nts:=[]) hk;exact congrArg (·.N1) this)
  |some key=>
   have:=yq0 (n:=n) (t:=0) (has:=fun _=>none) (s:=s) (nts:=[]) hk;exact .inr ⟨_,congrArg (·.N1) this,rfl,⟨⟨key,hk,fun _=>⟨rfl,rfl⟩,fun e z=>by cases z⟩,rfl,fun e z=>by cases z⟩⟩
 have hT:=h.tok.beg hn;have hT:TOk n m (fun i=>E2 (ks i)) s (ft ++ [(P6 n (E2 (ks ft.length)) 0 (fun _=>none) s []).N1]):=hT;revert hT;generalize (P6 n (E2 (ks ft.length)) 0 (fun _=>none) s []).N1=f at hf;intro hT;have hno:∀(E:Ph->Option Nat) e,E .j5=none->(ft ++ [f]).countP (isP E e)=ft.countP (isP E e):=fun E e hE=>by
  rw[List.countP_append];have:[f].countP (isP E e)=0:=by
   rcases hf with rfl|⟨b,rfl,hp,_⟩
   ·rfl
   ·simp[isP,phO,hp,hE]
  omega
 have hold:∀i b,(ft ++ [f])[i]? =some (.inl b)->ft[i]? =some (.inl b)\/(i=ft.length/\b.ph= .j5/\FL (ks ft.length) s b 0):=fun i b hb=>by
  rcases ac0 hb with z|⟨hi,z⟩
  ·exact .inl z
  ·rcases hf with rfl|⟨b',rfl,hp,hF⟩
   ·cases z
   ·cases z;exact .inr ⟨hi,hp,hF⟩
 refine⟨hT,fun i b hb=>?_,fun e he=>by rw[hno _ _ rfl];exact h.us e he,h.inn,fun i b e hb z=>?_,fun i b e hb z=>?_,fun e he=>by rw[hno _ _ rfl];exact h.hd e he,h.k2,fun e he h1 h2=>by rw[hno _ _ rfl];exact h.dr e he h1 h2⟩
 ·rcases hold i b hb with z|⟨rfl,_,hF⟩
  ·exact h.fl i b z
  ·exact⟨0,hF⟩
 ·rcases hold i b hb with y|⟨_,hp,_⟩
  ·exact h.mo i b e y z
  ·rw[hp]at z;cases z
 ·rcases hold i b hb with y|⟨_,hp,_⟩
  ·exact h.ou i b e y z
  ·rw[hp]at z;cases z
theorem Yl0 {p:Ph} {e:Nat} (h:af0 p=some e):phE p=some e:=by cases p <;> first|exact h|cases h
theorem Gx0 {p:Ph} {e:Nat} (h:unE p=some e):phE p=some e:=by cases p <;> first|exact h|cases h
theorem gp1 {p:Ph} {e:Nat} (h:ouE p=some e):phE p=some e:=by cases p <;> first|exact h|cases h
theorem FOk.To0 (h:FOk n m ks s ft) {E:Ph->Option Nat} (hE:∀{p e},E p=some e->phE p=some e) {e:Nat} (he:s.en.length <=e):ft.countP (isP E e)=0:=by
 refine List.countP_eq_zero.2 fun f hf hp=>?_;obtain⟨i,hi⟩:=List.mem_iff_getElem?.1 hf;unfold isP at hp;cases f with
 |inr x=>cases of_decide_eq_true hp
 |inl b=>
  have hp:E b.ph=some e:=of_decide_eq_true hp;have:=(h.tok.L3 i b hi).e e (hE hp);omega
theorem bd1 {c:Nat} (h:c <=16):IntKind.i64.wrap ((c:Int)+1)=((c+1:Nat):Int):=by rw[IntKind.wrap_i64];omega
theorem be1 {c:Nat} (h:c <=16) (h0:0<c):IntKind.i64.wrap ((c:Int) + -1)=((c-1:Nat):Int):=by rw[IntKind.wrap_i64];omega
set_option maxHeartbeats 4000000 in
theorem FOk.V4 (h:FOk n m ks s ft) (hn:0<n) (him:i<m) (hl:ft.length <=16) (hb:ft[i]? =some (.inl b)) (hr:Z5 b s=true):FOk n m ks (A4 n (E2 (ks i)) i b s).s (ft.set i (A4 n (E2 (ks i)) i b s).N1):=by
 have hT:=h.tok.V4 hn him hb hr;have hT:TOk n m (fun i=>E2 (ks i)) (A4 n (E2 (ks i)) i b s).s (ft.set i (A4 n (E2 (ks i)) i b s).N1):=hT;obtain⟨t,hF⟩:=h.fl i b hb;have hL:LOk n (E2 (ks i)) i s b:=h.tok.L3 i b hb;have hX:=jh0 hL hF;have hg:=my0 hL;have hE:=hL.e;have hlen:=(List.getElem?_eq_some_iff.1 hb).1;have hle:=Tn0 n i b s;rw[rd0]at hT⊢;revert hT hX;generalize hfo:A4 n (E2 (ks i)) i b s=o;intro hT hX;have hc:∀(E:Ph->Option Nat) e,(ft.set i o.N1).countP (isP E e)+(if E b.ph=some e then 1 else 0)=ft.countP (isP E e)+(if(phO o.N1).bind E=some e then 1 else 0):=fun E e=>by
  have h1:=ou0 (isP E e) (b:=o.N1) hb;have e1:isP E e (.inl b)=decide (E b.ph=some e):=rfl;have e2:isP E e o.N1=decide ((phO o.N1).bind E=some e):=rfl;rw[e1,e2]at h1;simpa using h1
 have r7:∀E e,ft.countP (isP E e) <=16:=fun E e=>Nat.le_trans List.countP_le_length hl;have hpt:=hX.pht;have hU:=fun e he=>go1 (n:=n) (i:=i) (b:=b) (s:=s) hE (e:=e) he;have hH:=fun e he=>ox1 (n:=n) (i:=i) (b:=b) (s:=s) hE (e:=e) he;have hLt:=lT n i b s;have kn0:∀e,e<s.en.length->(gE (sT n i b s) e).key=(gE s e).key:=fun e he=>(hg.same e he).1;have A1:b.ph= .make->(gE (sT n i b s) s.en.length).key=b.q/\b.j=M9 n b.q:=fun hp=>by
  refine⟨?_,hL.st (by rw[hp];rfl)⟩;have:sT n i b s=an0 n i b s:=by unfold sT;rw[hp]
  rw[this,mx0]
 have rz0:∀i' b',(ft.set i o.N1)[i']? =some (.inl b')->(i'≠i/\ft[i']? =some (.inl b'))\/(i'=i/\o.N1= .inl b'):=fun i' b' p7=>by
  by_cases e:i'=i
  ·subst e;rw[List.getElem?_set_self hlen]at p7;exact .inr ⟨rfl,Option.some.inj p7⟩
  ·rw[List.getElem?_set_ne (Ne.symm e)]at p7;exact .inl ⟨e,p7⟩
 have jt0:∀e,af0 b.ph=some e->0<ft.countP (isP af0 e):=fun e he=>lz0 hb he;have Ch0:∀e,e<s.en.length->e<(sT n i b s).en.length:=fun e he=>Nat.lt_of_lt_of_le he hg.len;have An0:∀e,e<(sT n i b s).en.length->e<s.en.length\/(b.ph= .make/\e=s.en.length):=fun e he=>by
  rw[hle]at he;revert he;cases hp:b.ph <;> intro he <;> first
   |exact .inl he
   |exact(Nat.lt_or_eq_of_le (Nat.le_of_lt_succ he)).imp id fun z=>⟨rfl,z⟩
 have hus:∀e,e<(sT n i b s).en.length->(gE (sT n i b s) e).K1=((ft.set i o.N1).countP (isP af0 e):Nat):=fun e he=>by
  have h1:=hU e he;have h2:=hc af0 e;have h3:=r7 af0 e;have h4:=jt0 e;have h5:e<s.en.length->(gE s e).K1=(ft.countP (isP af0 e):Nat):=h.us e;have h6:s.en.length <=e->ft.countP (isP af0 e)=0:=fun z=>h.To0 Yl0 z;have h8:=An0 e he;rw[h1];clear h1;generalize (ft.set i o.N1).countP (isP af0 e)=c' at h2⊢;generalize ft.countP (isP af0 e)=c at *;generalize phO o.N1=x at hpt h2;have h9:∀e0:Nat,e0=e->e<s.en.length->(gE s e0).K1=c:=fun e0 z1 z2=>by rw[z1];exact h5 z2
  cases hp:b.ph <;> rw[hp]at hpt h2 h4 h8 <;> cases hpt
  all_goals try dsimp only
  all_goals simp only[af0,Option.bind_some,Option.some.injEq,reduceCtorEq,if_false,Nat.add_zero]at h2 h4
  case make=>
   rcases h8 with z|⟨_,z⟩
   ·show(if e=s.en.length then(1:Int) else(gE s e).K1)=_;rw[if_neg (show ¬e=s.en.length by omega),h5 z];rw[if_neg (show ¬s.en.length=e by omega)]at h2;omega
   ·show(if e=s.en.length then(1:Int) else(gE s e).K1)=_;rw[if_pos z];rw[if_pos z.symm]at h2;have:=h6 (by omega);omega
  all_goals have J1:e<s.en.length:=h8.elim id fun z=>by cases z.1
  case more e0=>
   by_cases z:e=e0
   ·rw[if_pos z,h9 e0 z.symm J1,bd1 h3];rw[if_pos z.symm]at h2;omega
   ·rw[if_neg z,h5 J1];rw[if_neg (Ne.symm z)]at h2;omega
  case z6 e0=>
   by_cases z:e=e0
   ·rw[if_pos z,h9 e0 z.symm J1,bd1 h3];rw[if_pos z.symm]at h2;omega
   ·rw[if_neg z,h5 J1];rw[if_neg (Ne.symm z)]at h2;omega
  case less.Tl0 e0 hz=>
   by_cases z:e=e0
   ·have:=h4 z.symm;rw[if_pos z,h9 e0 z.symm J1,be1 h3 this];rw[if_pos z.symm]at h2;omega
   ·rw[if_neg z,h5 J1];rw[if_neg (Ne.symm z)]at h2;omega
  case less.Ja0 e0 hz hx=>
   have hxx:¬(x.bind af0=some e):=by rcases hx with rfl|rfl <;> simp[af0]
   rw[if_neg hxx]at h2;by_cases z:e=e0
   ·have:=h4 z.symm;rw[if_pos z,h9 e0 z.symm J1,be1 h3 this];rw[if_pos z.symm]at h2;omega
   ·rw[if_neg z,h5 J1];rw[if_neg (Ne.symm z)]at h2;omega
  case R6.R6 e0 hx=>
   have hxx:¬(x.bind af0=some e):=by rcases hx with rfl|rfl <;> simp[af0]
   rw[if_neg hxx]at h2;show(gE s e).K1=_;rw[h5 J1];omega
  all_goals
   show(gE s e).K1=_;rw[h5 J1]
   first
    |omega
    |(split at h2 <;> omega)
 have hq:∀e,Dc0 b.ph=some e->b.j=M9 n (gE s e).key:=fun e z=>by have:=hL.q e z;rw[this.2,this.1]
 have oy1:∀(i':Nat) (b':Lb),i'≠i->ft[i']? =some (.inl b')->eq0 b.ph=true->b'.j=b.j->mw0 b'.ph=false/\eq0 b'.ph=false:=fun i' b' N3 p7 hw hj=>by
  have h1:=h.tok.gr0 hb hw;have h2:=h.tok.ex _ h1;constructor
  ·cases hr':mw0 b'.ph with
   |false=>rfl
   |true=>have:=h.tok.Gj0 p7 hr';rw[hj,h2]at this;exact absurd this (by decide)
  ·cases L1:eq0 b'.ph with
   |false=>rfl
   |true=>exact absurd (h.tok.Gk0 p7 hb L1 hw hj) N3
 have hin:∀j e,e∈(s.st j).l->b.ph≠.out e->e∈((sT n i b s).st j).l:=fun j e he N3=>by
  rw[hLt];by_cases z:j=b.j
  ·rw[if_pos z];rw[z]at he;cases hp:b.ph <;> first
    |exact he
    |exact List.mem_append_left _ he
    |(refine List.mem_filter.2 ⟨he,?_⟩;rw[hp]at N3;exact decide_eq_true fun w=>N3 (by rw[w]))
  ·rw[if_neg z];exact he
 have gl0:∀j e,e∈((sT n i b s).st j).l->(e∈(s.st j).l/\b.ph≠.out e\/e∈(s.st j).l/\j≠b.j)\/(b.ph= .make/\e=s.en.length/\j=b.j):=fun j e he=>by
  rw[hLt]at he;by_cases z:j=b.j
  ·rw[if_pos z]at he;subst z;cases hp:b.ph with
   |make=>
    rw[hp]at he;rcases List.mem_append.1 he with y|y
    ·exact .inl (.inl ⟨y,by intro w;cases w⟩)
    ·exact .inr ⟨rfl,List.mem_singleton.1 y,rfl⟩
   |out e0=>
    rw[hp]at he;obtain⟨y1,y2⟩:=List.mem_filter.1 he;exact .inl (.inl ⟨y1,by intro w;injection w with w;exact of_decide_eq_true y2 w.symm⟩)
   |_=>
    rw[hp]at he;exact .inl (.inl ⟨he,by intro w;cases w⟩)
  ·rw[if_neg z]at he;exact .inl (.inr ⟨he,z⟩)
 have hk2:∀j e,e∈((sT n i b s).st j).l->M9 n (gE (sT n i b s) e).key=j:=fun j e he=>by
  rcases gl0 j e he with(⟨y,_⟩|⟨y,_⟩)|⟨hp,rfl,hj⟩
  ·rw[kn0 e (h.tok.so.l _ _ y)];exact h.k2 j e y
  ·rw[kn0 e (h.tok.so.l _ _ y)];exact h.k2 j e y
  ·rw[(A1 hp).1,hj,(A1 hp).2]
 have rk0:∀e,e<s.en.length->af0 b.ph≠some e->moE b.ph≠some e->(gE (sT n i b s) e).K1=(gE s e).K1:=fun e he h1 h2=>by
  rw[hU e (Ch0 e he)];revert h1 h2;cases hp:b.ph <;> intro h1 h2 <;> first
   |rfl
   |exact if_neg fun z=>h2 (by rw[z];rfl)
   |exact if_neg fun z=>h1 (by rw[z];rfl)
   |exact if_neg (by omega)
 refine⟨hT,fun i' b' p7=>?_,hus,fun e he hu=>?_,fun i' b' e p7 hm=>?_,fun i' b' e p7 hm=>?_,fun e he=>?_,hk2,fun e he hu hl2=>?_⟩
 ·rcases rz0 i' b' p7 with⟨_,z⟩|⟨rfl,z⟩
  ·obtain⟨t',⟨key,k1,k2',k3⟩,k4,k5⟩:=h.fl i' b' z;have hE':=(h.tok.L3 i' b' z).e;exact⟨t',⟨⟨key,k1,k2',fun e y=>(kn0 e (hE' e y)).trans (k3 e y)⟩,k4,k5⟩⟩
  ·obtain⟨t',k1,_⟩:=hX.fl b' z;exact⟨t',k1⟩
 ·rcases An0 e he with J1|⟨hp,rfl⟩
  ·rw[kn0 e J1];have hno:b.ph≠.out e:=fun hp=>by
    have h1:=h.ou i b e hb (by rw[hp];rfl);rw[rk0 e J1 (by rw[hp];simp[af0]) (by rw[hp];simp[moE]),h1]at hu;exact absurd hu (by decide)
   refine hin _ e ?_ hno;by_cases hm:moE b.ph=some e
   ·have h1:=h.mo i b e hb hm;rw[h.k2 _ _ h1];exact h1
   ·refine h.inn e J1 ?_;by_cases hue:af0 b.ph=some e
    ·rw[h.us e J1];have:=jt0 e hue;omega
    ·rw[rk0 e J1 hue hm]at hu;exact hu
  ·rw[(A1 hp).1,<- (A1 hp).2,hLt,if_pos rfl,hp];exact List.mem_append_right _ (List.mem_singleton.2 rfl)
 ·rcases rz0 i' b' p7 with⟨N3,z⟩|⟨rfl,z⟩
  ·have h1:=h.mo i' b' e z hm;refine hin _ e h1 fun hp=>?_;have h2:=hq e (by rw[hp];rfl);rw[h.k2 _ _ h1]at h2;have h3:=oy1 i' b' N3 z (by rw[hp];rfl) h2.symm;revert hm h3;cases b'.ph <;> intro hm h3 <;> first
    |(cases hm;done)
    |(have y:true=false:=h3.1;cases y)
    |(have y:true=false:=h3.2;cases y)
  ·have hj:=hX.jj b' e z (.inl hm);have nf0:=hpt;rw[z]at nf0;have nf0:PT s b.j s.en.length b.ph (some b'.ph):=nf0;have key:e∈(s.st b.j).l/\b.ph≠.out e:=by
    revert hm;generalize b'.ph=p' at nf0;intro hm;cases hpb:b.ph <;> rw[hpb]at nf0 <;> cases nf0 <;> first
     |(cases hm;done)
     |(cases hm;exact⟨by assumption,by simp⟩)
     |(rename_i hx;rcases hx with hx|hx <;> cases hx <;> cases hm;done)
   rw[hj];exact hin _ e key.1 key.2
 ·rcases rz0 i' b' p7 with⟨N3,z⟩|⟨rfl,z⟩
  ·have h1:=h.ou i' b' e z hm;have J1:=(h.tok.L3 i' b' z).e e (gp1 hm);have L1:eq0 b'.ph=true:=by revert hm;cases b'.ph <;> intro hm <;> first|rfl|cases hm
   have r9:b'.j=M9 n (gE s e).key:=by
    have:=(h.tok.L3 i' b' z).q e (by revert hm;cases b'.ph <;> intro hm <;> first|exact hm|cases hm);rw[this.2,this.1]
   rw[rk0 e J1 (fun hue=>?_) (fun hme=>?_)]
   ·exact h1
   ·have:=jt0 e hue;rw[h.us e J1]at h1;omega
   ·have h2:=h.mo i b e hb hme;have h3:b'.j=b.j:=r9.trans (h.k2 _ _ h2);have h4:=h.tok.gr0 z L1;rw[h3]at h4;by_cases hr':mw0 b.ph=true
    ·have h5:=h.tok.Gj0 hb hr';have h6:=h.tok.ex _ h4;omega
    ·have hw:eq0 b.ph=true:=by revert hme hr';cases b.ph <;> intro hme hr' <;> first|rfl|(exact absurd rfl hr')|cases hme
     exact N3 (h.tok.Gk0 z hb L1 hw h3)
  ·have nf0:=hpt;rw[z]at nf0;have nf0:PT s b.j s.en.length b.ph (some b'.ph):=nf0;have key:(gE s e).K1=0/\b.ph= .K1 e:=by
    revert hm;generalize b'.ph=p' at nf0;intro hm;cases hpb:b.ph <;> rw[hpb]at nf0 <;> cases nf0 <;> first
     |(cases hm;done)
     |(cases hm;exact⟨by assumption,rfl⟩)
     |(rename_i hx;rcases hx with hx|hx <;> cases hx <;> cases hm;done)
   rw[rk0 e (hE e (by rw[key.2];rfl)) (by rw[key.2];simp[af0]) (by rw[key.2];simp[moE])];exact key.1
 ·have h1:=hH e he;have h2:=hc unE e;have h5:e<s.en.length->ft.countP (isP unE e)=if(gE s e).held=true then 1 else 0:=h.hd e
  have h6:s.en.length <=e->ft.countP (isP unE e)=0:=fun z=>h.To0 Gx0 z;have h8:=An0 e he;have h4:unE b.ph=some e->0<ft.countP (isP unE e):=fun z=>lz0 hb z;have h7:=hr;unfold Z5 at h7;generalize (gE (sT n i b s) e).held=g at h1⊢;generalize (ft.set i o.N1).countP (isP unE e)=c' at h2⊢;generalize ft.countP (isP unE e)=c at *;generalize phO o.N1=x at hpt h2;cases hp:b.ph <;> rw[hp]at hpt h2 h4 h8 h7 h1 <;> cases hpt
  all_goals try dsimp only at h7 h1
  all_goals simp only[unE,Option.bind_some,Option.some.injEq,reduceCtorEq,if_false,Nat.add_zero]at h2 h4
  case make=>
   rcases h8 with z|⟨_,z⟩
   ·rw[if_neg (show ¬e=s.en.length by omega)]at h1;rw[h1,<- h5 z];omega
   ·rw[if_pos z]at h1;rw[h1];have:=h6 (by omega);simp;omega
  all_goals have J1:e<s.en.length:=h8.elim id fun z=>by cases z.1
  all_goals have h9:=h5 J1
  case n5 e0=>
   have h7:(gE s e0).held=false:=by simpa using h7
   by_cases z:e=e0
   ·subst z;rw[if_pos rfl]at h1 h2;rw[h7]at h9;rw[h1];simp at h9⊢;omega
   ·rw[if_neg z]at h1;rw[if_neg (Ne.symm z)]at h2;rw[h1,<- h9];omega
  case W2 e0=>
   by_cases z:e=e0
   ·subst z;have h10:=h4 rfl;rw[if_pos rfl]at h1 h2;rw[h1];simp;split at h9 <;> omega
   ·rw[if_neg z]at h1;rw[if_neg (Ne.symm z)]at h2;rw[h1,<- h9];omega
  case less.Ja0 e0 hz hx=>
   have hxx:¬(x.bind unE=some e):=by rcases hx with rfl|rfl <;> simp[unE]
   rw[if_neg hxx]at h2;rw[h1,<- h9];omega
  case R6.R6 e0 hx=>
   have hxx:¬(x.bind unE=some e):=by rcases hx with rfl|rfl <;> simp[unE]
   rw[if_neg hxx]at h2;rw[h1,<- h9];omega
  all_goals
   rw[h1,<- h9];omega
 ·rcases An0 e he with J1|⟨hp,rfl⟩
  ·rw[kn0 e J1]at hl2;have jk0:e∈(s.st (M9 n (gE s e).key)).l/\b.ph≠.out e:=by
    rcases gl0 _ e hl2 with(⟨y1,y2⟩|⟨y1,y2⟩)|⟨_,y,_⟩
    ·exact⟨y1,y2⟩
    ·exact⟨y1,fun hp=>y2 (hq e (by rw[hp];rfl)).symm⟩
    ·omega
   have h2:=hc drE e;have h3:=h.us e J1;have h4:=hus e he;have h9:=hc af0 e;have h10:=jt0 e;by_cases hu0:(gE s e).K1=0
   ·have h5:=h.dr e J1 hu0 jk0.1;by_cases hd:drE b.ph=some e
    ·rw[if_pos hd]at h2;have hbj:=hq e (by revert hd;cases b.ph <;> intro hd <;> first|exact hd|cases hd);have hx:(phO o.N1).bind drE=some e:=by
      revert hd jk0;generalize phO o.N1=x at hpt;cases hpb:b.ph <;> rw[hpb]at hpt <;> cases hpt <;> intro jk0 hd <;> first
       |(cases hd;done)
       |(cases hd;rfl)
       |(cases hd;exact absurd rfl jk0.2)
       |(cases hd;rename_i hz;exact absurd hu0 hz)
       |(cases hd;rename_i hz;rw[hbj]at hz;exact absurd jk0.1 hz)
     rw[if_pos hx]at h2;omega
    ·rw[if_neg hd]at h2;split at h2 <;> omega
   ·have hu':af0 b.ph=some e:=by
     by_cases hue:af0 b.ph=some e
     ·exact hue
     ·exfalso;by_cases hme:moE b.ph=some e
      ·have hx:(phO o.N1).bind af0=some e:=by
        revert hme;generalize phO o.N1=x at hpt;cases hpb:b.ph <;> rw[hpb]at hpt <;> cases hpt <;> intro hme <;> first|(cases hme;done)|(cases hme;rfl)
       rw[if_pos hx]at h9;rw[hu]at h4;split at h9 <;> omega
      ·rw[rk0 e J1 hue hme]at hu;exact hu0 hu
    have hx:(phO o.N1).bind drE=some e:=by
     have hz:¬((phO o.N1).bind af0=some e):=fun z=>by
      rw[if_pos hu',if_pos z]at h9;have:=h10 hu';rw[hu]at h4;omega
     have Lo0:=hU e he;rw[hu]at Lo0;revert hz hu' Lo0;generalize phO o.N1=x at hpt;cases hpb:b.ph <;> rw[hpb]at hpt <;> cases hpt <;> intro hu' hz Lo0 <;> first
      |(cases hu';done)
      |(cases hu';exact absurd rfl hz)
      |(cases hu';rfl)
      |(cases hu';dsimp only at Lo0;rw[if_pos rfl,<- og0 (d:=-1) J1]at Lo0;exact absurd Lo0.symm (by assumption))
    rw[if_pos hx]at h2;have hnd:¬(drE b.ph=some e):=by revert hu';cases b.ph <;> intro hu' <;> simp[drE,af0]at hu'⊢
    rw[if_neg hnd]at h2;omega
  ·rw[hU _ he,hp]at hu;dsimp only at hu;rw[if_pos rfl]at hu;cases hu
end
section
variable {p:W4}{ks:Nat->List ByteArray}
theorem Gy0 (p:W4) (q:PR (S0 p)):((S0 p).bgn q).ft=q.ft ++ [(P6 p.n (p.bo q.ft.length) 0 (fun _=>none) q.s []).N1]/\((S0 p).bgn q).s=q.s/\((S0 p).bgn q).evs=q.evs:=⟨rfl,r8 ..,rfl⟩
theorem pa0 (p:W4) (q:PR (S0 p)) {i:Nat} {b:Lb} (h:q.ft[i]? =some (.inl b)):((S0 p).V4 q i).ft=q.ft.set i (A4 p.n (p.bo i) i b q.s).N1/\((S0 p).V4 q i).s=(A4 p.n (p.bo i) i b q.s).s/\((S0 p).V4 q i).evs=q.evs ++ [(i,u9 p.obj b)]/\((S0 p).V4 q i).nts=q.nts++tell i (q.evs.length+1) (A4 p.n (p.bo i) i b q.s).nts:=by
 unfold Sys.V4;rw[h];exact⟨rfl,rfl,rfl,rfl⟩
theorem gq1 (hp:A5 p) (hb:p.bo=fun i=>E2 (ks i)):∀q,(S0 p).Reach q->FOk p.n p.m ks q.s q.ft/\∀(i x:Nat),q.ft[i]? =some (.inr x)->x=1:=by
 have hlen:∀q,(S0 p).Reach q->q.ft.length <=16:=fun q hq=>Nat.le_trans (Hn0 q hq) hp.m;have key:∀q,(S0 p).Reach q->(q.ft.length <=16->FOk p.n p.m ks q.s q.ft/\∀(i x:Nat),q.ft[i]? =some (.inr x)->x=1):=by
  refine Sys.ind (Y:=S0 p) (fun q=>q.ft.length <=16->FOk p.n p.m ks q.s q.ft/\∀(i x:Nat),q.ft[i]? =some (.inr x)->x=1) (fun _=>⟨FOk.start,fun i x h=>by cases h⟩) (fun q hq _ hl=>?_) (fun q i b hq hm hf hr hl=>?_)
  ·obtain⟨e1,e2,_⟩:=Gy0 p q;rw[e1]at hl⊢;rw[e2];have J7:q.ft.length <=16:=by rw[List.length_append]at hl;omega
   have h1:=(hq J7).1.beg hp.n.1;have e3:p.bo q.ft.length=E2 (ks q.ft.length):=congrFun hb _;rw[e3];refine⟨h1,fun i x hx=>?_⟩;rcases ac0 hx with z|⟨_,z⟩
   ·exact(hq J7).2 i x z
   ·cases hk:(ks q.ft.length)[0]? with
    |none=>
     have:=yr0 (n:=p.n) (t:=0) (has:=fun _=>none) (s:=q.s) (nts:=[]) hk;have e:(P6 p.n (E2 (ks q.ft.length)) 0 (fun _=>none) q.s []).N1= .inr 1:=congrArg (·.N1) this;rw[e]at z;cases z;rfl
    |some key=>
     have:=yq0 (n:=p.n) (t:=0) (has:=fun _=>none) (s:=q.s) (nts:=[]) hk;have e:=congrArg (·.N1) this;have e:(P6 p.n (E2 (ks q.ft.length)) 0 (fun _=>none) q.s []).N1=_:=e;rw[e]at z;cases z
  ·obtain⟨e1,e2,_⟩:=pa0 p q hf;rw[e1,e2];rw[e1,List.length_set]at hl;have hm':q.ft.length=p.m:=hm;have hi:i<p.m:=by rw[<- hm'];exact(List.getElem?_eq_some_iff.1 hf).1
   have e3:p.bo i=E2 (ks i):=congrFun hb _;rw[e3];refine⟨(hq hl).1.V4 hp.n.1 hi hl hf hr,fun i' x hx=>?_⟩;by_cases e:i'=i
   ·subst e;rw[List.getElem?_set_self (List.getElem?_eq_some_iff.1 hf).1]at hx;obtain⟨t,hF⟩:=(hq hl).1.fl _ b hf;exact((jh0 ((hq hl).1.tok.L3 _ b hf) hF).fin x (Option.some.inj hx)).1
   ·rw[List.getElem?_set_ne (Ne.symm e)]at hx;exact(hq hl).2 i' x hx
 exact fun q hq=>key q hq (hlen q hq)
theorem pb0 (hp:A5 p) (hb:p.bo=fun i=>E2 (ks i)) (q:PR (S0 p)) (hq:(S0 p).Reach q):FOk p.n p.m ks q.s q.ft:=(gq1 hp hb q hq).1
def ag0 (ks:List ByteArray):Lb ⊕ Nat->Nat
 | .inr _=>0
 | .inl b=>wt b.ph+15*(ks.length-(b.k-1)/6-1)
def Phi (ks:Nat->List ByteArray):Nat->List (Lb ⊕ Nat)->Nat
 |_,[]=>0
 |i,f::ft=>ag0 (ks i) f+Phi ks (i+1) ft
theorem Jb0 (ks:Nat->List ByteArray) (f:Lb ⊕ Nat):∀(ft:List (Lb ⊕ Nat)) (j:Nat),Phi ks j (ft ++ [f])=Phi ks j ft+ag0 (ks (j+ft.length)) f
 | [],j=>by simp[Phi]
 |g::ft,j=>by
  show ag0 (ks j) g+Phi ks (j+1) (ft ++ [f])=ag0 (ks j) g+Phi ks (j+1) ft+ag0 (ks (j+(ft.length+1))) f;rw[Jb0 ks f ft (j+1),show j+1+ft.length=j+(ft.length+1)by omega];omega
theorem Jc0 (ks:Nat->List ByteArray) (f':Lb ⊕ Nat):∀(ft:List (Lb ⊕ Nat)) (j i:Nat) (f:Lb ⊕ Nat),ft[i]? =some f->Phi ks j (ft.set i f')+ag0 (ks (j+i)) f=Phi ks j ft+ag0 (ks (j+i)) f'
 | [],j,i,f,h=>by cases h
 |g::ft,j,0,f,h=>by
  have h:some g=some f:=h;cases h;show ag0 (ks j) f'+Phi ks (j+1) ft+ag0 (ks j) g=ag0 (ks j) g+Phi ks (j+1) ft+ag0 (ks j) f';omega
 |g::ft,j,i+1,f,h=>by
  have ih:=Jc0 ks f' ft (j+1) i f h;show ag0 (ks j) g+Phi ks (j+1) (ft.set i f')+ag0 (ks (j+(i+1))) f=ag0 (ks j) g+Phi ks (j+1) ft+ag0 (ks (j+(i+1))) f';rw[show j+1+i=j+(i+1)by omega]at ih;omega
theorem FL.Lp0 {ks:List ByteArray} {s:E3} {b:Lb} {t:Nat} (h:FL ks s b t):(b.k-1)/6=t:=by
 have:=h.k;cases hp:b.ph <;> rw[hp]at this <;> simp only[jn0]at this <;> omega
theorem Lq0 {n i:Nat} {ks:List ByteArray} {s:E3} {b:Lb} {t:Nat} (hL:LOk n (E2 ks) i s b) (hF:FL ks s b t):ag0 ks (A4 n (E2 ks) i b s).N1+1 <=ag0 ks (.inl b):=by
 have hX:=jh0 hL hF;have e1:ag0 ks (.inl b)=wt b.ph+15*(ks.length-t-1):=by show wt b.ph+15*(ks.length-(b.k-1)/6-1)=_;rw[hF.Lp0]
 rw[e1];cases hf:(A4 n (E2 ks) i b s).N1 with
 |inr x=>have:=Tm0 b.ph;show 0+1 <=_;omega
 |inl b'=>
  obtain⟨t',h1,h2,_⟩:=hX.fl b' hf;show wt b'.ph+15*(ks.length-(b'.k-1)/6-1)+1 <=_;rw[h1.Lp0];exact h2
theorem Tp0 {n:Nat} {ks:List ByteArray} {s:E3}:ag0 ks (P6 n (E2 ks) 0 (fun _=>none) s []).N1=15*ks.length:=by
 cases hk:ks[0]? with
 |none=>
  have:=yr0 (n:=n) (t:=0) (has:=fun _=>none) (s:=s) (nts:=[]) hk;have e:(P6 n (E2 ks) 0 (fun _=>none) s []).N1= .inr 1:=congrArg (·.N1) this;have:=List.getElem?_eq_none_iff.1 hk;rw[e];show 0=_;omega
 |some key=>
  have:=yq0 (n:=n) (t:=0) (has:=fun _=>none) (s:=s) (nts:=[]) hk;have e:(P6 n (E2 ks) 0 (fun _=>none) s []).N1= .inl ⟨1,fun _=>none,0,M9 n key,key,.j5,0,kj0,[]⟩:=congrArg (·.N1) this;have:=(List.getElem?_eq_some_iff.1 hk).1;rw[e];show 15+15*(ks.length-(1-1)/6-1)=15*ks.length;omega
theorem iu0 (hb:p.bo=fun i=>E2 (ks i)):∀k,Phi ks 0 ((S0 p).D3 k).ft=15*Y8 (fun i=>(ks i).length) k/\((S0 p).D3 k).ft.length=k/\((S0 p).D3 k).evs=[]/\((S0 p).D3 k).nts=[]
 |0=>⟨rfl,rfl,rfl,rfl⟩
 |k+1=>by
  obtain⟨h1,h2,h3,h4⟩:=iu0 hb k;obtain⟨e1,_,e3⟩:=Gy0 p ((S0 p).D3 k);show Phi ks 0 ((S0 p).bgn ((S0 p).D3 k)).ft=_/\((S0 p).bgn ((S0 p).D3 k)).ft.length=_/\((S0 p).bgn ((S0 p).D3 k)).evs=[]/\((S0 p).bgn ((S0 p).D3 k)).nts=[];have e4:p.bo k=E2 (ks k):=congrFun hb _;rw[e1,e3,h2,e4];refine⟨?_,by rw[List.length_append,h2];rfl,h3,?_⟩
  ·rw[Jb0,h1,h2,Nat.zero_add,Tp0,H6];omega
  ·show((S0 p).D3 k).nts++tell _ _ (P6 p.n (p.bo ((S0 p).D3 k).ft.length) 0 (fun _=>none) ((S0 p).D3 k).s []).nts=[];rw[h4,h2,e4];have:(P6 p.n (E2 (ks k)) 0 (fun _=>none) ((S0 p).D3 k).s []).nts=[]:=by
    cases hk:(ks k)[0]? with
    |none=>exact congrArg (·.nts) (yr0 (n:=p.n) (t:=0) (has:=fun _=>none) (nts:=[]) hk)
    |some key=>exact congrArg (·.nts) (yq0 (n:=p.n) (t:=0) (has:=fun _=>none) (nts:=[]) hk)
   rw[this];rfl
theorem FOk.live {n m:Nat} {s:E3} {ft:List (Lb ⊕ Nat)} (h:FOk n m ks s ft) {i:Nat} {b:Lb} (hb:ft[i]? =some (.inl b)):∃(i:Nat) (b:Lb),ft[i]? =some (.inl b)/\Z5 b s=true:=by
 by_cases hr:Z5 b s=true
 ·exact⟨i,b,hb,hr⟩
 have hr:Z5 b s=false:=by simpa using hr
 have gr1:∀e,e<s.en.length->(gE s e).held=true->∃(i:Nat) (b:Lb),ft[i]? =some (.inl b)/\Z5 b s=true:=fun e he hh=>by
  have h1:=h.hd e he;rw[hh,if_pos rfl]at h1;have h2:0<ft.countP (isP unE e):=by omega
  obtain⟨f,hf,hpf⟩:=List.countP_pos_iff.1 h2;obtain⟨i',hi'⟩:=List.mem_iff_getElem?.1 hf;cases f with
  |inr x=>unfold isP at hpf;cases of_decide_eq_true hpf
  |inl b'=>
   refine⟨i',b',hi',?_⟩;have hpf:unE b'.ph=some e:=of_decide_eq_true hpf;unfold Z5;revert hpf;cases b'.ph <;> intro hpf <;> first|rfl|cases hpf
 have hrd:0<(s.st b.j).E5->∃(i:Nat) (b:Lb),ft[i]? =some (.inl b)/\Z5 b s=true:=fun h0=>by
  rw[h.tok.rd]at h0;obtain⟨f,hf,hpf⟩:=List.countP_pos_iff.1 h0;obtain⟨i',hi'⟩:=List.mem_iff_getElem?.1 hf;cases f with
  |inr x=>cases hpf
  |inl b'=>
   refine⟨i',b',hi',?_⟩;have hpf:(decide (b'.j=b.j)&&mw0 b'.ph)=true:=hpf;rw[Bool.and_eq_true]at hpf;have hpf:=hpf.2;unfold Z5;revert hpf;cases b'.ph <;> intro hpf <;> first|rfl|cases hpf
 have hwr:(s.st b.j).held=true->∃(i:Nat) (b:Lb),ft[i]? =some (.inl b)/\Z5 b s=true:=fun h0=>by
  have h1:=h.tok.wr b.j;rw[h0,if_pos rfl]at h1;have h2:0<ft.countP (kk0 b.j):=by omega
  obtain⟨f,hf,hpf⟩:=List.countP_pos_iff.1 h2;obtain⟨i',hi'⟩:=List.mem_iff_getElem?.1 hf;cases f with
  |inr x=>cases hpf
  |inl b'=>
   refine⟨i',b',hi',?_⟩;have hpf:(decide (b'.j=b.j)&&eq0 b'.ph)=true:=hpf;rw[Bool.and_eq_true]at hpf;have hpf:=hpf.2;unfold Z5;revert hpf;cases b'.ph <;> intro hpf <;> first|rfl|cases hpf
 unfold Z5 at hr;have hE:=(h.tok.L3 i b hb).e;revert hr hE;cases hp:b.ph <;> intro hr hE <;> first
  |cases hr
  |(refine hwr ?_;simpa using hr)
  |(refine gr1 _ (hE _ rfl) ?_;simpa using hr)
  |exact(Decidable.em ((s.st b.j).held=true)).elim hwr fun hh=>hrd (by have hh:(s.st b.j).held=false:=(by simpa using hh);rw[hh]at hr;simp at hr;omega)
end
section
variable {p:W4}{ks:Nat->List ByteArray}
theorem rl0 (p:W4) (q:PR (S0 p)) (e:Int):((S0 p).step q e=q/\(S0 p).rds q=[])\/∃(i:Nat) (b:Lb),(S0 p).step q e=(S0 p).V4 q i/\i<p.m/\q.ft[i]? =some (.inl b)/\Z5 b q.s=true:=by
 unfold Sys.step;cases h:((S0 p).rds q)[aa0 e ((S0 p).rds q).length]? with
 |none=>
  refine .inl ⟨rfl,?_⟩;rcases Nat.eq_zero_or_pos ((S0 p).rds q).length with z|z
  ·exact List.length_eq_zero_iff.1 z
  ·exfalso;have h1:=List.getElem?_eq_none_iff.1 h;have h2:aa0 e ((S0 p).rds q).length<((S0 p).rds q).length:=by
    unfold aa0;have a:=Int.emod_nonneg e (b:=(((S0 p).rds q).length:Int)) (by omega);have b:=Int.emod_lt_of_pos e (b:=(((S0 p).rds q).length:Int)) (by omega);omega
   omega
 |some i=>
  obtain⟨h1,h2⟩:=Sys.zr0 h;unfold Sys.gz0 at h2;cases hx:q.ft[i]? with
  |none=>rw[hx]at h2;cases h2
  |some f=>
   cases f with
   |inr x=>rw[hx]at h2;cases h2
   |inl b=>rw[hx]at h2;exact .inr ⟨i,b,rfl,h1,hx,h2⟩
theorem Ym0 (hp:A5 p) (hb:p.bo=fun i=>E2 (ks i)) {q:PR (S0 p)} (hq:(S0 p).Reach q) (hm:q.ft.length=p.m) (h:(S0 p).rds q=[]) (i:Nat) (b:Lb):q.ft[i]? ≠some (.inl b):=fun hf=>by
 obtain⟨i',b',h1,h2⟩:=(pb0 hp hb q hq).live hf;have hi:i'<p.m:=by rw[<- hm];exact(List.getElem?_eq_some_iff.1 h1).1
 have:i'∈(S0 p).rds q:=by
  unfold Sys.rds;refine List.mem_filter.2 ⟨List.mem_range.2 hi,?_⟩;unfold Sys.gz0;rw[h1];exact h2
 rw[h]at this;cases this
theorem Tq0 (hp:A5 p) (hb:p.bo=fun i=>E2 (ks i)) (sc:Nat->Int):∀n,Phi ks 0 ((S0 p).pn sc n).ft+((S0 p).pn sc n).evs.length <=15*Y8 (fun i=>(ks i).length) p.m/\(((S0 p).pn sc n).evs.length=n\/∀(i:Nat) (b:Lb),((S0 p).pn sc n).ft[i]? ≠some (.inl b))
 |0=>by
  obtain⟨h1,_,h3,_⟩:=iu0 hb p.m;show Phi ks 0 ((S0 p).D3 p.m).ft+((S0 p).D3 p.m).evs.length <=_/\(((S0 p).D3 p.m).evs.length=0\/_);rw[h1,h3];exact⟨Nat.le_refl _,.inl rfl⟩
 |n+1=>by
  obtain⟨ih1,ih2⟩:=Tq0 hp hb sc n;have hR:(S0 p).Reach ((S0 p).pn sc n):=.inr ⟨sc,n,rfl⟩;have hlen:=Sys.br0 (Y:=S0 p) sc n;show Phi ks 0 ((S0 p).step ((S0 p).pn sc n) (sc n)).ft+_ <=_/\(((S0 p).step ((S0 p).pn sc n) (sc n)).evs.length=n+1\/∀(i:Nat) (b:Lb),((S0 p).step ((S0 p).pn sc n) (sc n)).ft[i]? ≠some (.inl b));rcases rl0 p ((S0 p).pn sc n) (sc n)with⟨h1,h2⟩|⟨i,b,h1,h2,h3,h4⟩
  ·have e:(S0 p).pn sc (n+1)=(S0 p).pn sc n:=h1;rw[e,h1];exact⟨ih1,.inr (Ym0 hp hb hR hlen h2)⟩
  ·have e:(S0 p).pn sc (n+1)=(S0 p).V4 ((S0 p).pn sc n) i:=h1;obtain⟨e1,_,e3,_⟩:=pa0 p ((S0 p).pn sc n) h3;have e4:p.bo i=E2 (ks i):=congrFun hb _;rw[e,h1,e1,e3,e4];have hK:=pb0 hp hb _ hR;obtain⟨t,hF⟩:=hK.fl i b h3;have hr:=Lq0 (hK.tok.L3 i b h3) hF;have hs:=Jc0 ks (A4 p.n (E2 (ks i)) i b ((S0 p).pn sc n).s).N1 ((S0 p).pn sc n).ft 0 i (.inl b) h3;rw[Nat.zero_add]at hs;refine⟨by rw[List.length_append,List.length_singleton];omega,.inl ?_⟩;rw[List.length_append,List.length_singleton];rcases ih2 with z|z
   ·rw[z]
   ·exact absurd h3 (z i b)
structure Gz0 (p:W4) (q:PR (S0 p)) (S:Nat->PR (S0 p)):Prop where
 s0:S 0=(S0 p).D3 p.m
 s1:S q.evs.length=q
 go:∀i,i<q.evs.length->∃(c:Nat) (b:Lb),c<p.m/\(S i).ft[c]? =some (.inl b)/\Z5 b (S i).s=true/\S (i+1)=(S0 p).V4 (S i) c/\q.evs[i]? =some (c,u9 p.obj b)
 re:∀i,i <=q.evs.length->(S0 p).Reach (S i)
 ev:∀i,i <=q.evs.length->(S i).evs.length=i
 nt:∀i,i <=q.evs.length->∃l,q.nts=(S i).nts++l/\∀x∈l,i<x.1
theorem Jd0 (hb:p.bo=fun i=>E2 (ks i)) (sc:Nat->Int):∀n,∃S,Gz0 p ((S0 p).pn sc n) S
 |0=>by
  obtain⟨_,_,h3,h4⟩:=iu0 hb p.m;have e:((S0 p).pn sc 0).evs=[]:=h3;refine⟨fun _=>(S0 p).D3 p.m,rfl,rfl,fun i hi=>?_,fun i _=>.inl ⟨p.m,Nat.le_refl _,rfl⟩,fun i hi=>?_,fun i _=>⟨[],(List.append_nil _).symm,fun x hx=>by cases hx⟩⟩
  ·rw[e]at hi;exact absurd hi (Nat.not_lt_zero _)
  ·rw[e]at hi;rw[h3];have hi:i <=0:=hi;show 0=i;omega
 |n+1=>by
  obtain⟨S,h⟩:=Jd0 hb sc n;rcases rl0 p ((S0 p).pn sc n) (sc n)with⟨h1,h2⟩|⟨c,b,h1,h2,h3,h4⟩
  ·have e:(S0 p).pn sc (n+1)=(S0 p).pn sc n:=h1;rw[e];exact⟨S,h⟩
  ·have e:(S0 p).pn sc (n+1)=(S0 p).V4 ((S0 p).pn sc n) c:=h1;obtain⟨e1,_,e3,e4⟩:=pa0 p ((S0 p).pn sc n) h3;generalize hq:(S0 p).pn sc n=q at *;have hR':(S0 p).Reach ((S0 p).V4 q c):=.inr ⟨sc,n+1,e.symm⟩;rw[e];have hl:((S0 p).V4 q c).evs.length=q.evs.length+1:=by rw[e3,List.length_append];rfl
   refine⟨fun j=>if j <=q.evs.length then S j else(S0 p).V4 q c,?_,?_,fun i hi=>?_,fun i hi=>?_,fun i hi=>?_,fun i hi=>?_⟩
   ·show(if 0 <=q.evs.length then S 0 else _)=_;rw[if_pos (Nat.zero_le _)];exact h.s0
   ·show(if((S0 p).V4 q c).evs.length <=q.evs.length then _ else _)=_;rw[hl,if_neg (by omega)]
   ·rw[hl]at hi;show ∃(c':Nat) (b':Lb),c'<p.m/\(if i <=q.evs.length then S i else _).ft[c']? =_/\Z5 b' (if i <=q.evs.length then S i else _).s=true/\(if i+1 <=q.evs.length then S (i+1) else _)=(S0 p).V4 (if i <=q.evs.length then S i else _) c'/\_;rw[if_pos (by omega)];by_cases z:i<q.evs.length
    ·obtain⟨c',b',g1,g2,g3,g4,g5⟩:=h.go i z;rw[if_pos (by omega),e3,List.getElem?_append_left z];exact⟨c',b',g1,g2,g3,g4,g5⟩
    ·obtain rfl:i=q.evs.length:=by omega
     rw[if_neg (by omega),h.s1,e3,List.getElem?_append_right (Nat.le_refl _),Nat.sub_self];exact⟨c,b,h2,h3,h4,rfl,rfl⟩
   ·show(S0 p).Reach (if i <=q.evs.length then S i else _);split
    ·exact h.re i (by assumption)
    ·exact hR'
   ·show(if i <=q.evs.length then S i else _).evs.length=i;split
    ·exact h.ev i (by assumption)
    ·rw[hl]at hi⊢;omega
   ·show ∃l,((S0 p).V4 q c).nts=(if i <=q.evs.length then S i else _).nts++l/\∀x∈l,i<x.1;split
    ·rename_i z;obtain⟨l,g1,g2⟩:=h.nt i z;rw[e4,g1];refine⟨l++tell c (q.evs.length+1) _,by rw[List.append_assoc],fun x hx=>?_⟩;rcases List.mem_append.1 hx with y|y
     ·exact g2 x y
     ·unfold tell at y;obtain⟨k,_,rfl⟩:=List.mem_map.1 y;show i<q.evs.length+1;omega
    ·exact⟨[],(List.append_nil _).symm,fun x hx=>by cases hx⟩
end
def kB:ByteArray:=ByteArray.mk #[107]
def eB:ByteArray:=ByteArray.mk #[]
theorem gs1 {a b:ByteArray} (h:kB++a=kB++b):a=b:=by
 have h1:=congrArg (fun x:ByteArray=>x.data.toList) h;simp only[ByteArray.data_append,Array.toList_append]at h1;have h2:=List.append_cancel_left h1;cases a;cases b;exact congrArg ByteArray.mk (Array.toList_inj.1 h2)
theorem Tr0 (a:ByteArray):eB≠kB++a:=fun h=>by
 have h1:=congrArg ByteArray.size h;rw[ByteArray.size_append]at h1;have h2:eB.size=0:=rfl;have h3:kB.size=1:=rfl;omega
def ma0 (s:E3):Option (Lb ⊕ Nat)->ByteArray
 |some (.inl b)=>match unE b.ph with
  |some e=>kB++(gE s e).key
  |none=>eB
 |_=>eB
def Ao0:Ph->Nat
 | .n5 _=>1
 | .W2 _| .less _| .ad0 _| .ae0 _| .K1 _| .out _| .R6 _=>2
 |_=>0
def di0 (ks:List ByteArray):Option (Lb ⊕ Nat)->Nat
 |some (.inl b)=>2*((b.k-1)/6)+Ao0 b.ph
 |some (.inr _)=>2*ks.length
 |none=>0
section
variable {n m c:Nat}{ks:Nat->List ByteArray}{s:E3}{ft:List (Lb ⊕ Nat)}{b:Lb}
structure oz1 (ks:Nat->List ByteArray) (s s':E3) (ft ft':List (Lb ⊕ Nat)) (c:Nat) (b:Lb) (o:k6 E3 Lb):Prop where
 oth:∀c':Nat,c'≠c->ma0 s' ft'[c']? =ma0 s ft[c']?/\di0 (ks c') ft'[c']? =di0 (ks c') ft[c']?
 own:(∃(e:Nat) (key:ByteArray),unE b.ph=none/\o.nts=[⟨1,am0 s' (some e)⟩]/\di0 (ks c) ft'[c]? =di0 (ks c) ft[c]? + 1/\di0 (ks c) ft'[c]? % 2=0/\0<di0 (ks c) ft'[c]?/\(ks c)[di0 (ks c) ft'[c]? / 2-1]? =some key/\ma0 s' ft'[c]? =kB++key/\∀c':Nat,ma0 s ft[c']? ≠kB++key) \/
  (∃e:Nat,unE b.ph=none/\o.nts=[⟨1,am0 s' (some e)⟩]/\di0 (ks c) ft'[c]? =di0 (ks c) ft[c]? + 1/\di0 (ks c) ft'[c]? % 2=1/\ma0 s' ft'[c]? =eB/\ma0 s ft[c]? =eB) \/
  (o.nts=[]/\di0 (ks c) ft'[c]? =di0 (ks c) ft[c]?/\ma0 s' ft'[c]? =eB/\(unE b.ph=none->ma0 s ft[c]? =eB))
set_option maxHeartbeats 1000000 in
theorem FOk.pa1 (h:FOk n m ks s ft) (hb:ft[c]? =some (.inl b)) (hr:Z5 b s=true):oz1 ks s (sT n c b s) ft (ft.set c (A4 n (E2 (ks c)) c b s).N1) c b (A4 n (E2 (ks c)) c b s):=by
 obtain⟨t,hF⟩:=h.fl c b hb;have hL:LOk n (E2 (ks c)) c s b:=h.tok.L3 c b hb;have hX:=jh0 hL hF;have hg:=my0 hL;have hlen:=(List.getElem?_eq_some_iff.1 hb).1;have kn0:∀e,e<s.en.length->(gE (sT n c b s) e).key=(gE s e).key:=fun e he=>(hg.same e he).1;have hk0:di0 (ks c) (some (.inl b))=2*t+Ao0 b.ph:=by show 2*((b.k-1)/6)+_=_;rw[hF.Lp0]
 have hpt:=hX.pht;have mp0:=hX.nts;refine⟨fun c' N3=>?_,?_⟩
 ·rw[List.getElem?_set_ne (Ne.symm N3)];refine⟨?_,rfl⟩;cases hx:ft[c']? with
  |none=>rfl
  |some f=>
   cases f with
   |inr x=>rfl
   |inl b'=>
    show(match unE b'.ph with|some e=>kB++(gE (sT n c b s) e).key|none=>eB)=match unE b'.ph with|some e=>kB++(gE s e).key|none=>eB
    cases hu:unE b'.ph with
    |none=>rfl
    |some e=>show kB++_=kB++_;rw[kn0 e ((h.tok.L3 c' b' hx).e e (Gx0 hu))]
 rw[List.getElem?_set_self hlen,hb,hk0];have hho:∀(p':Ph),(phO (A4 n (E2 (ks c)) c b s).N1=some p'\/phO (A4 n (E2 (ks c)) c b s).N1=none)->unE p'=none->ma0 (sT n c b s) (some (A4 n (E2 (ks c)) c b s).N1)=eB:=fun p' hp hu=>by
  cases hf:(A4 n (E2 (ks c)) c b s).N1 with
  |inr x=>rfl
  |inl b'=>
   rw[hf]at hp;rcases hp with hp|hp
   ·have hp:some b'.ph=some p':=hp;show(match unE b'.ph with|some e=>_|none=>eB)=eB;rw[Option.some.inj hp,hu]
   ·cases hp
 have hcn:∀(p':Ph),phO (A4 n (E2 (ks c)) c b s).N1=some p'->p'≠.j5->di0 (ks c) (some (A4 n (E2 (ks c)) c b s).N1)=2*t+Ao0 p':=fun p' hp hnr=>by
  cases hf:(A4 n (E2 (ks c)) c b s).N1 with
  |inr x=>rw[hf]at hp;cases hp
  |inl b'=>
   rw[hf]at hp;have hp:some b'.ph=some p':=hp;obtain⟨t',h1,_,h3⟩:=hX.fl b' hf;show 2*((b'.k-1)/6)+Ao0 b'.ph=_;rw[h1.Lp0,Option.some.inj hp];rcases h3 with⟨rfl,_⟩|⟨_,h4,_⟩
   ·rfl
   ·exact absurd ((Option.some.inj hp).symm.trans h4) hnr
 have Yn0:∀x,phO (A4 n (E2 (ks c)) c b s).N1=x->(x=none\/x=some .j5)->jn0 b.ph=6->Ao0 b.ph=2->di0 (ks c) (some (A4 n (E2 (ks c)) c b s).N1)=2*t+2:=fun x hx hxx ho hc2=>by
  cases hf:(A4 n (E2 (ks c)) c b s).N1 with
  |inr y=>
   have h1:=hX.fin y hf;show 2*(ks c).length=_;omega
  |inl b'=>
   rw[hf]at hx;have hx:some b'.ph=x:=hx;have hp:b'.ph= .j5:=by
    rcases hxx with z|z
    ·rw[z]at hx;cases hx
    ·rw[z]at hx;exact Option.some.inj hx
   obtain⟨t',h1,_,h3⟩:=hX.fl b' hf;show 2*((b'.k-1)/6)+Ao0 b'.ph=_;rw[h1.Lp0,hp];rcases h3 with⟨_,h4⟩|⟨h4,_⟩
   ·rw[hp,ho]at h4;exact absurd h4 (by decide)
   ·rw[h4];show 2*(t+1)+0=_;omega
 have hhb:unE b.ph=none->ma0 s (some (.inl b))=eB:=fun hu=>by
  show(match unE b.ph with|some e=>_|none=>eB)=eB;rw[hu]
 obtain⟨key,hk1,_,hk3⟩:=hF.key;cases hp:b.ph <;> rw[hp]at hpt mp0 hhb hk3
 case n5 e=>
  cases hx:phO (A4 n (E2 (ks c)) c b s).N1 <;> rw[hx]at hpt <;> cases hpt
  have hc1:=hcn _ hx (by intro z;cases z);have hc1:di0 (ks c) (some (A4 n (E2 (ks c)) c b s).N1)=2*t+2:=hc1;have hkk:=hk3 e rfl;have J1:=hL.e e (by rw[hp];rfl);refine .inl ⟨e,key,rfl,mp0,hc1,by omega,by omega,by rw[hc1,show(2*t+2)/2-1=t by omega];exact hk1,?_,fun c' H8=>?_⟩
  ·cases hf:(A4 n (E2 (ks c)) c b s).N1 with
   |inr x=>rw[hf]at hx;cases hx
   |inl b'=>
    rw[hf]at hx;have hx:some b'.ph=some (.W2 e):=hx;show(match unE b'.ph with|some e=>kB++(gE (sT n c b s) e).key|none=>eB)=_;rw[Option.some.inj hx];show kB++(gE (sT n c b s) e).key=_;rw[kn0 e J1,hkk]
  ·cases hy:ft[c']? with
   |none=>rw[hy]at H8;exact Tr0 key H8
   |some f=>
    rw[hy]at H8;cases f with
    |inr x=>exact Tr0 key H8
    |inl b'=>
     have H8:(match unE b'.ph with|some e=>kB++(gE s e).key|none=>eB)=kB++key:=H8;cases hu:unE b'.ph with
     |none=>rw[hu]at H8;exact Tr0 key H8
     |some e'=>
      rw[hu]at H8;have hke:(gE s e').key=key:=gs1 H8;have Uw0:=(h.tok.L3 c' b' hy).e e' (Gx0 hu);have tk1:af0 b'.ph=some e':=by revert hu;cases b'.ph <;> intro hu <;> first|exact hu|cases hu
      have u1:0<(gE s e).K1:=by rw[h.us e J1];have:=lz0 (E:=af0) (e:=e) hb (by rw[hp];rfl);omega
      have u2:0<(gE s e').K1:=by rw[h.us e' Uw0];have:=lz0 (E:=af0) (e:=e') hy tk1;omega
      have i1:=h.inn e J1 u1;have i2:=h.inn e' Uw0 u2;rw[hke]at i2;rw[hkk]at i1;have heq:=ne0 (h.tok.so.nd _) e' i2 e i1 (hke.trans hkk.symm);subst heq;have h1:=h.hd e' J1;have h2:=lz0 (E:=unE) (e:=e') hy hu;have h3:(gE s e').held=false:=by unfold Z5 at hr;rw[hp]at hr;simpa using hr
      rw[h3]at h1;simp at h1;exact absurd (h1 _ (List.mem_of_getElem? hy)) (by unfold isP;simp[phO,hu])
 case run e=>
  cases hx:phO (A4 n (E2 (ks c)) c b s).N1 <;> rw[hx]at hpt <;> cases hpt
  have hc1:di0 (ks c) (some (A4 n (E2 (ks c)) c b s).N1)=2*t+1:=hcn _ hx (by intro z;cases z);exact .inr (.inl ⟨e,rfl,mp0,hc1,by omega,hho _ (.inl hx) rfl,hhb rfl⟩)
 case unl e=>
  cases hx:phO (A4 n (E2 (ks c)) c b s).N1 <;> rw[hx]at hpt <;> cases hpt
  have hc1:di0 (ks c) (some (A4 n (E2 (ks c)) c b s).N1)=2*t+1:=hcn _ hx (by intro z;cases z);exact .inr (.inl ⟨e,rfl,mp0,hc1,by omega,hho _ (.inl hx) rfl,hhb rfl⟩)
 case W2 e=>
  cases hx:phO (A4 n (E2 (ks c)) c b s).N1 <;> rw[hx]at hpt <;> cases hpt
  have hc1:=hcn _ hx (by intro z;cases z);exact .inr (.inr ⟨mp0,hc1,hho _ (.inl hx) rfl,fun z=>by cases z⟩)
 case less e=>
  have ug1:=hpt;cases hx:phO (A4 n (E2 (ks c)) c b s).N1 with
  |none=>exact .inr (.inr ⟨mp0,Yn0 _ hx (.inl rfl) (by rw[hp];rfl) (by rw[hp];rfl),hho .j5 (.inr hx) rfl,fun _=>hhb rfl⟩)
  |some p'=>
   rw[hx]at hpt;by_cases hpr:p'= .j5
   ·subst hpr;exact .inr (.inr ⟨mp0,Yn0 _ hx (.inr rfl) (by rw[hp];rfl) (by rw[hp];rfl),hho _ (.inl hx) rfl,fun _=>hhb rfl⟩)
   ·have hp':p'= .ad0 e:=by
     cases hpt with
     |Tl0 _ _=>rfl
     |Ja0 _ _ _ hxx=>rcases hxx with z|z <;> cases z;exact absurd rfl hpr
    subst hp';have hc1:=hcn _ hx hpr;exact .inr (.inr ⟨mp0,hc1,hho _ (.inl hx) rfl,fun _=>hhb rfl⟩)
 case R6 e=>
  cases hx:phO (A4 n (E2 (ks c)) c b s).N1 with
  |none=>exact .inr (.inr ⟨mp0,Yn0 _ hx (.inl rfl) (by rw[hp];rfl) (by rw[hp];rfl),hho .j5 (.inr hx) rfl,fun _=>hhb rfl⟩)
  |some p'=>
   rw[hx]at hpt;have hp':p'= .j5:=by
    cases hpt with
    |R6 _ _ hxx=>rcases hxx with z|z <;> cases z;rfl
   subst hp';exact .inr (.inr ⟨mp0,Yn0 _ hx (.inr rfl) (by rw[hp];rfl) (by rw[hp];rfl),hho _ (.inl hx) rfl,fun _=>hhb rfl⟩)
 all_goals
  cases hx:phO (A4 n (E2 (ks c)) c b s).N1 <;> rw[hx]at hpt <;> cases hpt
  all_goals
   have hc1:=hcn _ hx (by intro z;cases z);exact .inr (.inr ⟨mp0,hc1,hho _ (.inl hx) rfl,fun _=>hhb rfl⟩)
end
theorem gt1 (b:Lb):((u9 1 b).kind=2/\(u9 1 b).obj=3)↔unE b.ph≠none:=by
 have h2:oW 1 2=3:=by decide
 have h1:oW 1 1=2:=by decide
 have h3:oW 1 3=4:=by decide
 unfold u9;cases b.ph <;> simp[unE,h1,h2,h3]
section
variable {p:W4}{ks:Nat->List ByteArray}
def Ap0 (q:PR (S0 p)) (c:Nat):ByteArray:=ma0 q.s q.ft[c]?
def rm0 (ks:Nat->List ByteArray) (q:PR (S0 p)) (c:Nat):Nat:=di0 (ks c) q.ft[c]?
def Pre (ks:Nat->List ByteArray) (S:Nat->PR (S0 p)) (Q:PR (S0 p)) (i n:Nat) (H:Nat->ByteArray) (C:Nat->Nat):Prop :=
 (n=(S i).nts.length/\H=Ap0 (S i)/\C=rm0 ks (S i)) \/
 (∃(c:Nat) (txt:ByteArray),c<p.m/\n+1=(S i).nts.length/\Q.nts[n]? =some (i,c,⟨1,txt⟩)/\o3 C c (C c+1)=rm0 ks (S i) /\
  ((∃key,(C c+1)%2=0/\0<C c+1/\(ks c)[(C c+1)/2-1]? =some key/\(∀k,H k≠kB++key)/\o3 H c (kB++key)=Ap0 (S i))\/((C c+1)%2=1/\H=Ap0 (S i))))
theorem Aq0 (hb:p.bo=fun i=>E2 (ks i)):∀k c,Ap0 ((S0 p).D3 k) c=eB/\rm0 ks ((S0 p).D3 k) c=0
 |0,c=>⟨rfl,rfl⟩
 |k+1,c=>by
  obtain⟨ih1,ih2⟩:=Aq0 hb k c;obtain⟨_,hl,_⟩:=iu0 hb k;obtain⟨e1,e2,_⟩:=Gy0 p ((S0 p).D3 k);unfold Ap0 at ih1;unfold rm0 at ih2;show ma0 ((S0 p).bgn ((S0 p).D3 k)).s ((S0 p).bgn ((S0 p).D3 k)).ft[c]? =_/\di0 _ ((S0 p).bgn ((S0 p).D3 k)).ft[c]? =_;rw[e1,e2];rcases Nat.lt_trichotomy c k with z|z|z
  ·rw[List.getElem?_append_left (by omega)];exact⟨ih1,ih2⟩
  ·subst z;rw[List.getElem?_append_right (by omega),hl,Nat.sub_self];have e4:p.bo c=E2 (ks c):=congrFun hb _;rw[e4];cases hk:(ks c)[0]? with
   |none=>
    have e:(P6 p.n (E2 (ks c)) 0 (fun _=>none) ((S0 p).D3 c).s []).N1= .inr 1:=congrArg (·.N1) (yr0 (n:=p.n) (t:=0) (has:=fun _=>none) (s:=((S0 p).D3 c).s) (nts:=[]) hk);rw[e];have:=List.getElem?_eq_none_iff.1 hk;exact⟨rfl,by show 2*(ks c).length=0;omega⟩
   |some key=>
    have e:=congrArg (·.N1) (yq0 (n:=p.n) (t:=0) (has:=fun _=>none) (s:=((S0 p).D3 c).s) (nts:=[]) hk);have e:(P6 p.n (E2 (ks c)) 0 (fun _=>none) ((S0 p).D3 c).s []).N1=_:=e;rw[e];exact⟨rfl,by show 2*((6*0+1-1)/6)+0=0;decide⟩
  ·rw[List.getElem?_eq_none (by rw[List.length_append,hl];show k+1 <=c;omega)];exact⟨rfl,rfl⟩
variable {Q:PR (S0 p)}{S:Nat->PR (S0 p)}
theorem Gz0.tl1 (h:Gz0 p Q S) (hb:p.bo=fun i=>E2 (ks i)):Pre ks S Q 0 0 (fun _=>eB) (fun _=>0):=by
 obtain⟨_,_,_,h4⟩:=iu0 hb p.m;rw[<- h.s0]at h4;refine .inl ⟨by rw[h4];rfl,funext fun c=>?_,funext fun c=>?_⟩
 ·rw[h.s0];exact(Aq0 hb p.m c).1.symm
 ·rw[h.s0];exact(Aq0 hb p.m c).2.symm
theorem Gz0.step (h:Gz0 p Q S) (hp:A5 p) (hb:p.bo=fun i=>E2 (ks i)) (ho:p.obj=1) {i n:Nat} {H:Nat->ByteArray} {C:Nat->Nat} (hi:i<Q.evs.length) (hn:n=(S i).nts.length) (hH:H=Ap0 (S i)) (hC:C=rm0 ks (S i)) :
  ∃c st,c<p.m/\Q.evs[i]? =some (c,st)/\((st.kind=2/\st.obj=3)->Pre ks S Q (i+1) n (o3 H c eB) C)/\(¬(st.kind=2/\st.obj=3)->Pre ks S Q (i+1) n H C):=by
 obtain⟨c,b,hc,hf,hr,hS,he⟩:=h.go i hi;rw[ho]at he;refine⟨c,_,hc,he,?_⟩;rw[gt1];have hK:=pb0 hp hb _ (h.re i (by omega));have hT:=hK.pa1 hf hr;obtain⟨e1,e2,e3,e4⟩:=pa0 p (S i) hf;have e5:p.bo c=E2 (ks c):=congrFun hb _;rw[e5]at e1 e2 e4;rw[rd0]at e2;rw[h.ev i (by omega)]at e4;obtain⟨l,hl,_⟩:=h.nt (i+1) hi;rw[hS]at hl;have Yo0:Ap0 (S (i+1))=o3 (Ap0 (S i)) c (ma0 (sT p.n c b (S i).s) ((S i).ft.set c (A4 p.n (E2 (ks c)) c b (S i).s).N1)[c]?):=funext fun x=>by
  unfold Ap0;rw[hS,e1,e2];by_cases z:x=c
  ·subst z;rw[Y0]
  ·rw[Z0 z];exact(hT.oth x z).1
 have gu1:rm0 ks (S (i+1))=o3 (rm0 ks (S i)) c (di0 (ks c) ((S i).ft.set c (A4 p.n (E2 (ks c)) c b (S i).s).N1)[c]?):=funext fun x=>by
  unfold rm0;rw[hS,e1];by_cases z:x=c
  ·subst z;rw[Y0]
  ·rw[Z0 z];exact(hT.oth x z).2
 have hcc:C c=di0 (ks c) (S i).ft[c]?:=by rw[hC];rfl
 have hHc:H c=ma0 (S i).s (S i).ft[c]?:=by rw[hH];rfl
 rcases hT.own with⟨e,key,h1,h2,h3,h4,h5,h6,h7,h8⟩|⟨e,h1,h2,h3,h4,h5,h6⟩|⟨h1,h2,h3,h4⟩
 ·refine⟨fun z=>absurd h1 z,fun _=>.inr ⟨c,am0 (sT p.n c b (S i).s) (some e),hc,?_,?_,?_,.inl ⟨key,?_,?_,?_,fun k=>?_,?_⟩⟩⟩
  ·rw[hS,e4,h2,hn];simp[tell]
  ·rw[hl,e4,h2,hn,List.append_assoc];rw[List.getElem?_append_right (Nat.le_refl _),Nat.sub_self];rfl
  ·rw[gu1,h3,hC];rfl
  ·rw[hcc,<- h3];exact h4
  ·rw[hcc,<- h3];exact h5
  ·rw[hcc,<- h3];exact h6
  ·rw[hH];exact h8 k
  ·rw[Yo0,h7,hH]
 ·refine⟨fun z=>absurd h1 z,fun _=>.inr ⟨c,am0 (sT p.n c b (S i).s) (some e),hc,?_,?_,?_,.inr ⟨?_,?_⟩⟩⟩
  ·rw[hS,e4,h2,hn];simp[tell]
  ·rw[hl,e4,h2,hn,List.append_assoc];rw[List.getElem?_append_right (Nat.le_refl _),Nat.sub_self];rfl
  ·rw[gu1,h3,hC];rfl
  ·rw[hcc,<- h3];exact h4
  ·rw[Yo0,h5,hH];funext x;by_cases z:x=c
   ·subst z;rw[Y0];exact h6
   ·rw[Z0 z]
 ·have hlen:n=(S (i+1)).nts.length:=by rw[hS,e4,h1,hn];simp[tell]
  have hCC:C=rm0 ks (S (i+1)):=by
   rw[gu1,h2,hC];funext x;by_cases z:x=c
   ·subst z;rw[Y0];rfl
   ·rw[Z0 z]
  refine⟨fun _=>.inl ⟨hlen,?_,hCC⟩,fun z=>.inl ⟨hlen,?_,hCC⟩⟩
  ·rw[Yo0,h3,hH]
  ·rw[Yo0,h3,hH];have hu:unE b.ph=none:=by
    cases hu:unE b.ph with
    |none=>rfl
    |some e=>exact absurd (by rw[hu];simp) z
   funext x;by_cases y:x=c
   ·subst y;rw[Y0];exact h4 hu
   ·rw[Z0 y]
theorem Gz0.over (h:Gz0 p Q S) {i n:Nat} (hi:i <=Q.evs.length) (hn:n=(S i).nts.length) (J1:n<Q.nts.length):∃x,Q.nts[n]? =some x/\x.1≠i:=by
 obtain⟨l,h1,h2⟩:=h.nt i hi;obtain⟨x,hx⟩:∃x,Q.nts[n]? =some x:=⟨_,List.getElem?_eq_getElem J1⟩
 refine⟨x,hx,?_⟩;rw[h1,hn,List.getElem?_append_right (Nat.le_refl _),Nat.sub_self]at hx;have:=h2 x (List.mem_of_getElem? hx);omega
end
structure ng0 (w:World) (ka:Option Addr) (m:Nat) (ks:Nat->List ByteArray) (kA:Nat->Option Addr) (kC:Nat->Nat):Prop where
 sl:SL ka m
 row:∀i,i<m->w.cell? ⟨ab ka,ao ka+i*1,none⟩=some (.slice (kA i) (ks i).length (kC i))
 sl2:∀i,i<m->SL (kA i) (ks i).length
 str:∀i,i<m->∀t k,(ks i)[t]? =some k->w.cell? ⟨ab (kA i),ao (kA i)+t*1,none⟩=some (.string k)
 len:m <=1048576/\∀i,i<m->(ks i).length <=1048576
theorem ng0.j0 {w w':World} {ka:Option Addr} {m:Nat} {ks:Nat->List ByteArray} {kA:Nat->Option Addr} {kC:Nat->Nat} (h:ng0 w ka m ks kA kC) (hb:Below w.heap.size w w'):ng0 w' ka m ks kA kC :=
 ⟨h.sl,fun i hi=>cj0 (h.row i hi) hb,h.sl2,fun i hi t k hk=>cj0 (h.str i hi t k hk) hb,h.len⟩
def gv1 (o:SOp):List Value:=[.int .i64 o.kind,.int .i64 o.rc0,.string o.key]
def Ha0 (ks:List ByteArray):List Value:=(E2 ks).flatMap gv1
theorem Ts0 (ks:List ByteArray) (k:ByteArray):Ha0 (ks ++ [k])=Ha0 ks ++ [.int .i64 1,.int .i64 0,.string k,.int .i64 5,.int .i64 0,.string ByteArray.empty,.int .i64 2,.int .i64 0,.string ByteArray.empty,.int .i64 5,.int .i64 0,.string ByteArray.empty,.int .i64 3,.int .i64 0,.string ByteArray.empty,.int .i64 4,.int .i64 0,.string ByteArray.empty]:=by
 unfold Ha0 E2;rw[List.flatMap_append,List.flatMap_append];rfl
theorem Lr0 (l:List SOp):∀(k:Nat) (o:SOp),l[k]? =some o->∀(j:Nat) (v:Value),(oj1 o)[j]? =some v->(l.flatMap gv1)[k*3+j]? =some v:=by
 induction l with
 |nil=>intro k o h;cases h
 |cons a l ih=>
  intro k o h j v hv;have hj:j<3:=(Array.getElem?_eq_some_iff.1 hv).1;cases k with
  |zero=>
   have h:some a=some o:=h;cases h;rw[Nat.zero_mul,Nat.zero_add,List.flatMap_cons,List.getElem?_append_left (by show j<3;exact hj)];obtain rfl|rfl|rfl:j=0\/j=1\/j=2:=by omega
   all_goals exact hv
  |succ k=>
   rw[List.flatMap_cons,List.getElem?_append_right (by show 3 <=_;omega)];have e:(k+1)*3+j-(gv1 a).length=k*3+j:=by show(k+1)*3+j-3=_;omega
   rw[e];exact ih k o h j v hv
structure L9 (w:World) (B i:Nat) (ks:Nat->List ByteArray) (oa:Nat->Option Addr) (oc:Nat->Nat):Prop where
 row:∀j,j<i->Own w B 85 3 (oa j) (6*(ks j).length) (oc j) (Ha0 (ks j))
section
variable {w w':World}{B i:Nat}{ks:Nat->List ByteArray}{oa:Nat->Option Addr}{oc:Nat->Nat}
theorem L9.j0 (h:L9 w B i ks oa oc) (hb:Below w.heap.size w w'):L9 w' B i ks oa oc:=⟨fun j hj=>(h.row j hj).j0 hb⟩
theorem L9.mod {N:Nat} {TS:List TypeId} (h:L9 w B i ks oa oc) (hm:N4 w w' N TS) (hT:TS.contains 85=false):L9 w' B i ks oa oc:=⟨fun j hj=>(h.row j hj).mod hm hT⟩
theorem L9.down {B':Nat} (h:L9 w B' i ks oa oc) (hB:B <=B'):L9 w B i ks oa oc:=⟨fun j hj=>(h.row j hj).down hB⟩
theorem L9.none:L9 w B 0 ks oa oc:=⟨fun _j hj=>absurd hj (Nat.not_lt_zero _)⟩
theorem L9.add {a:Option Addr} {c N:Nat} (h:L9 w B i ks oa oc) (hN:B <=N) (hO:Own w N 85 3 a (6*(ks i).length) c (Ha0 (ks i))):L9 w B (i+1) ks (o3 oa i a) (o3 oc i c):=⟨fun j hj=>by
 by_cases z:j=i
 ·subst z;rw[Y0,Y0];exact hO.down hN
 ·rw[Z0 z,Z0 z];exact h.row j (by omega)⟩
def Ar0 (ks:Nat->List ByteArray) (oa:Nat->Option Addr) (oc:Nat->Nat) (j:Nat):Value:=.slice (oa j) (6*(ks j).length) (oc j)
theorem Tt0 {a:Option Addr} {c:Nat}:(List.range (i+1)).map (Ar0 ks (o3 oa i a) (o3 oc i c))=(List.range i).map (Ar0 ks oa oc) ++ [.slice a (6*(ks i).length) c]:=by
 rw[List.range_succ,List.map_append];congr 1
 ·apply List.map_congr_left;intro j hj;have:j≠i:=by have:j<i:=(by simpa using hj);omega
  unfold Ar0;rw[Z0 this,Z0 this]
 ·simp[Ar0,Y0]
theorem L9.pb1 {m c:Nat} {a:Option Addr} (h:L9 w B m ks oa oc) (hO:Own w B 86 1 a m c ((List.range m).map (Ar0 ks oa oc))) (hl:∀j,j<m->(ks j).length <=1048576):cf0 w a m (fun j=>if j<m then E2 (ks j) else []) oa oc:=by
 refine⟨hO.sl,fun j hj=>?_,fun j hj=>?_,fun j hj=>?_⟩
 ·simp only[if_pos hj];rw[hO.off,Nat.zero_add,Nat.mul_one,fq0];exact hO.cell (by simp[hj,Ar0])
 ·simp only[if_pos hj];refine⟨by rw[fq0];exact(h.row j hj).sl,fun k o ho x v hv=>?_⟩;rw[(h.row j hj).off,Nat.zero_add];exact(h.row j hj).cell (Lr0 _ k o ho x v hv)
 ·simp only[if_pos hj];rw[fq0];have:=hl j hj;omega
theorem Tu0 (ks:Nat->List ByteArray) (m:Nat):∀k,k <=m->Y8 (fun i=>(if i<m then E2 (ks i) else []).length) k=6*Y8 (fun i=>(ks i).length) k
 |0,_=>rfl
 |k+1,h=>by
  rw[H6,H6,Tu0 ks m k (by omega),if_pos (by omega),fq0];omega
theorem Ls0 {k:ByteArray} {l:List ByteArray} {t:Nat} (h:l[t]? =some k):l.take (t+1)=l.take t ++ [k]:=by
 obtain⟨h1,h2⟩:=List.getElem?_eq_some_iff.1 h;rw[List.take_succ_eq_append_getElem h1,h2]
end
theorem Yp0 {ks:Nat->List ByteArray} {m:Nat} (h:∀i k,k∈ks i->k.size <=1000000000000):∀i o,o∈(if i<m then E2 (ks i) else [])->o.key.size <=1000000000000:=by
 intro i o ho;split at ho
 ·unfold E2 at ho;obtain⟨k,hk,ho⟩:=List.mem_flatMap.1 ho;have h0:ByteArray.empty.size <=1000000000000:=by decide
  have h1:=h i k hk;unfold fop at ho;simp only[List.mem_cons,List.not_mem_nil,or_false]at ho;rcases ho with rfl|rfl|rfl|rfl|rfl|rfl <;> first|exact h1|exact h0
 ·cases ho
theorem pc1 {ks:Nat->List ByteArray} {m:Nat} (hz:∀i,m <=i->ks i=[]):(fun i=>if i<m then E2 (ks i) else [])=fun i=>E2 (ks i):=funext fun i=>by
 by_cases h:i<m
 ·rw[if_pos h]
 ·rw[if_neg h,hz i (by omega)];rfl
theorem Ed0 (k:Int):prog.built 85 [(0,.int .i64 k)]=some #[.int .i64 k,.int .i64 0,.string ByteArray.empty]:=by kernel_rfl
theorem pd1 (k:Int) (q:ByteArray):prog.built 85 [(0,.int .i64 k),(2,.string q)]=some #[.int .i64 k,.int .i64 0,.string q]:=by kernel_rfl
theorem Below.to {w0 w w':World} {N:Nat} (h:Below w0.heap.size w0 w) (hN:w0.heap.size <=N) (hb:Below N w w'):Below w0.heap.size w0 w':=h.trans (hb.mono hN)
section
variable [Ctx prog]
end
section
theorem Yq0 (x0:Int) (x1:Int) (x2:Option Addr) (x3:Nat) (x4:Nat) (x5:Option Addr) (x6:Nat) (x7:Nat):prog.built 39 [(0,.int .i64 x0),(1,.int .i64 x1),(2,.slice x2 x3 x4),(3,.slice x5 x6 x7)]=some #[.int .i64 x0,.int .i64 x1,.slice x2 x3 x4,.slice x5 x6 x7]:=by kernel_rfl
end
section
variable [Ctx prog]
set_option maxHeartbeats 1000000 in
theorem gw1 {m kc:Nat} {ks:Nat->List ByteArray} {ka:Option Addr} {kA:Nat->Option Addr} {kC:Nat->Nat} (w0:World) (ko0:ng0 w0 ka m ks kA kC):C prog 47 #[.slice ka m kc] w0 fun v w=>∃a c oa oc,v= .slice a m c/\L9 w w0.heap.size m ks oa oc/\Own w w0.heap.size 86 1 a m c ((List.range m).map (Ar0 ks oa oc))/\Below w0.heap.size w0 w:=by
 refine C.enter (n:=43) func47 rfl rfl ?_;have hb:Below w0.heap.size w0 w0:=Below.refl _ _;have hlm:=ko0.len;refine U0 ?_;refine U73 ?_;refine U131 ?_;refine U53 ?_;refine W.loop (fun k e w=>∃(i:Nat),∃(a:Option Addr),∃(c:Nat),∃(oa:Nat->Option Addr),∃(oc:Nat->Nat),k=m-i/\e 0= .slice ka m kc/\e 3= .slice a i c/\e 4= .int .i64 (i:Nat)/\i <=m/\Below w0.heap.size w0 w/\Own w w0.heap.size 86 1 a i c ((List.range i).map (Ar0 ks oa oc))/\L9 w w0.heap.size i ks oa oc/\ng0 w ka m ks kA kC) _ ⟨0,none,0,(fun _=>none),(fun _=>0),rfl,rfl,rfl,rfl,Nat.zero_le _,hb,Own.nil _ _ _ _,L9.none,ko0⟩ ?_;rintro k e w ⟨i,a,c,oa,oc,hk,s0,s3,s4,hi,hb,hO,hR,hKs⟩;rw[P0 s0,P0 s3,P0 s4];clear s0 s3 s4;refine U14 ?_;refine L.va (R9 rfl) ?_;refine L.va (M6 rfl underlying57 rfl) ?_;refine U61 ?_;refine W.w6 rfl (fun h10=>?_) (fun h10=>?_)
 ·have J1:i<m:=by omega
  have hll:=hlm.2 i J1;refine U24 ?_;refine U131 ?_;refine U53 ?_;obtain⟨w1,hw1⟩:∃w1,w1=w:=⟨_,rfl⟩
  subst hw1;have hO1:=hO;have hR1:=hR;have h01:w0.heap.size <=w1.heap.size:=hb.size;refine W.loop (fun k e w=>∃(u:Nat),∃(la:Option Addr),∃(lc:Nat),k=(ks i).length-u/\e 0= .slice ka m kc/\e 3= .slice a i c/\e 4= .int .i64 (i:Nat)/\e 5= .slice la (6*u) lc/\e 6= .int .i64 (u:Nat)/\u <=(ks i).length/\Below w0.heap.size w0 w/\Below w1.heap.size w1 w/\Own w w1.heap.size 85 3 la (6*u) lc (Ha0 ((ks i).take u))/\ng0 w ka m ks kA kC) _ ⟨0,none,0,rfl,rfl,rfl,rfl,rfl,rfl,Nat.zero_le _,hb,Below.refl _ _,Own.nil _ _ _ _,hKs⟩ ?_;rintro k e w ⟨u,la,lc,hk,s0,s3,s4,s5,s6,hu,hb,hbn,hl,hKs⟩;rw[P0 s0,P0 s3,P0 s4,P0 s5,P0 s6];clear s0 s3 s4 s5 s6;refine U14 ?_;refine U23 ?_;refine U410 ?_;refine U532 ?_;refine W.w6 rfl (fun h19=>?_) (fun h19=>?_)
  ·have hut:u<(ks i).length:=by omega
   obtain⟨key,kn0⟩:∃key,(ks i)[u]? =some key:=⟨_,List.getElem?_eq_getElem hut⟩
   refine U83 ?_;refine U123 ?_;refine U23 ?_;refine U410 ?_;refine L.va (C4 rfl) ?_;refine L.va (S5 (i:=u) rfl rfl underlying61 sz9 (hKs.sl2 i J1) hut) ?_;refine L.va (A0 (v:=.string key) rfl underlying9 rfl ((hKs).str i J1 u key kn0)) ?_;refine L.va (G2 (vs:=[(0,.int .i64 1),(2,.string key)]) rfl (pd1 _ _)) ?_;refine L.va (G2 (vs:=[(0,.int .i64 5)]) rfl (Ed0 _)) ?_;refine L.va (G2 (vs:=[(0,.int .i64 2)]) rfl (Ed0 _)) ?_;refine L.va (G2 (vs:=[(0,.int .i64 5)]) rfl (Ed0 _)) ?_;refine L.va (G2 (vs:=[(0,.int .i64 3)]) rfl (Ed0 _)) ?_;refine L.va (G2 (vs:=[(0,.int .i64 4)]) rfl (Ed0 _)) ?_;refine L.Qo0 (vs:=[(0,.agg #[.int .i64 1,.int .i64 0,.string key]),(1,.agg #[.int .i64 5,.int .i64 0,.string ByteArray.empty]),(2,.agg #[.int .i64 2,.int .i64 0,.string ByteArray.empty]),(3,.agg #[.int .i64 5,.int .i64 0,.string ByteArray.empty]),(4,.agg #[.int .i64 3,.int .i64 0,.string ByteArray.empty]),(5,.agg #[.int .i64 4,.int .i64 0,.string ByteArray.empty])]) (cs:=#[.int .i64 1,.int .i64 0,.string key,.int .i64 5,.int .i64 0,.string ByteArray.empty,.int .i64 2,.int .i64 0,.string ByteArray.empty,.int .i64 5,.int .i64 0,.string ByteArray.empty,.int .i64 3,.int .i64 0,.string ByteArray.empty,.int .i64 4,.int .i64 0,.string ByteArray.empty]) rfl underlying86 Vj0 jn1 (by decide) (by kernel_rfl) (fun w b36 F36=>?_);have uh1:=F36.lq hb.size;have hb:=G0 hb F36.below;have hbn:=G0 hbn F36.below;have hl:=hl.j0 F36.below;have id0:=F36.blk;refine L.E9 (B:=w1.heap.size) (m:=6) rfl rfl underlying86 qk1 rfl (by decide) hl (fun h=>by cases h) (news:=[.int .i64 1,.int .i64 0,.string key,.int .i64 5,.int .i64 0,.string ByteArray.empty,.int .i64 2,.int .i64 0,.string ByteArray.empty,.int .i64 5,.int .i64 0,.string ByteArray.empty,.int .i64 3,.int .i64 0,.string ByteArray.empty,.int .i64 4,.int .i64 0,.string ByteArray.empty]) rfl (fun ad had j u hj=>by
    cases had;rw[Addr.add_lit]
    match j,hj with
    |0,hj=>cases hj;exact id0.q0 0 rfl
    |1,hj=>cases hj;exact id0.q0 1 rfl
    |2,hj=>cases hj;exact id0.q0 2 rfl
    |3,hj=>cases hj;exact id0.q0 3 rfl
    |4,hj=>cases hj;exact id0.q0 4 rfl
    |5,hj=>cases hj;exact id0.q0 5 rfl
    |6,hj=>cases hj;exact id0.q0 6 rfl
    |7,hj=>cases hj;exact id0.q0 7 rfl
    |8,hj=>cases hj;exact id0.q0 8 rfl
    |9,hj=>cases hj;exact id0.q0 9 rfl
    |10,hj=>cases hj;exact id0.q0 10 rfl
    |11,hj=>cases hj;exact id0.q0 11 rfl
    |12,hj=>cases hj;exact id0.q0 12 rfl
    |13,hj=>cases hj;exact id0.q0 13 rfl
    |14,hj=>cases hj;exact id0.q0 14 rfl
    |15,hj=>cases hj;exact id0.q0 15 rfl
    |16,hj=>cases hj;exact id0.q0 16 rfl
    |17,hj=>cases hj;exact id0.q0 17 rfl) (fun u hu=>by simp only[List.mem_cons,List.not_mem_nil,or_false]at hu;rcases hu with rfl|rfl|rfl|rfl|rfl|rfl|rfl|rfl|rfl|rfl|rfl|rfl|rfl|rfl|rfl|rfl|rfl|rfl <;> rfl) (by omega) (by omega) hbn.size (fun la2 lc2 w2 hO2 hg2 G1 _=>?_)
   have hbn:=hbn.trans G1;have hb:=Below.to hb h01 G1;have hKs:=ko0.j0 hb;have hl2:Own w2 w1.heap.size 85 3 la2 (6*(u+1)) lc2 (Ha0 ((ks i).take (u+1))):=by rw[Ls0 kn0,Ts0];exact hO2
   clear hg2 G1 hl hO2
   rename World=>w
   refine U127 ?_;refine U74 ?_;exact⟨_,by omega,⟨u+1,la2,lc2,rfl,rfl,rfl,rfl,rfl,rfl,(by omega),hb,hbn,hl2,hKs⟩⟩
  ·refine W.exit ?_;refine U116 ?_;have hue:u=(ks i).length:=by omega
   rw[hue,List.take_length]at hl;rw[hue];have hO:=hO1.j0 hbn;have hR:=hR1.j0 hbn;clear hbn;refine U123 ?_;refine L.va (R9 rfl) ?_;refine L.ct0 (cs:=#[.slice la (6*(ks i).length) lc]) rfl rfl underlying36 ct1 rfl ⟨_,jo1⟩ (by decide) (fun w b40 F40=>?_);have Cy0:=F40.lq hb.size;have hb:=G0 hb F40.below;have hO:=hO.j0 F40.below;have hR:=hR.j0 F40.below;have hl:=hl.j0 F40.below;have kh0:=F40.blk;refine L.E9 (B:=w0.heap.size) (m:=1) rfl rfl underlying36 ql1 rfl (by decide) hO (fun h=>by cases h) (news:=[.slice la (6*(ks i).length) lc]) rfl (fun ad had j u hj=>by
    cases had;rw[Addr.add_lit]
    match j,hj with
    |0,hj=>cases hj;exact kh0.q0 0 rfl) (fun u hu=>by simp only[List.mem_cons,List.not_mem_nil,or_false]at hu;subst hu;rfl) (by omega) (by omega) hb.size (fun a2 c2 w2 hO2 hg2 G1 _=>?_)
   have hmo:N4 w w2 w0.heap.size [86]:=N4.app hO hg2 G1 rfl hO2;have hb:=hb.trans G1;have hR:=hR.mod hmo rfl;have hl:=hl.mod hmo rfl;have hKs:=ko0.j0 hb;clear hmo hg2 G1 hO
   rename World=>w
   refine U127 ?_;refine U74 ?_;exact⟨_,by omega,⟨i+1,a2,c2,(o3 oa i la),(o3 oc i lc),rfl,rfl,rfl,rfl,(by omega),hb,(by rw[Tt0];exact hO2),(hR.add h01 hl),hKs⟩⟩
 ·obtain rfl:m=i:=by omega
  refine W.exit ?_;refine U323 ?_;refine U143 ?_;exact⟨a,c,oa,oc,rfl,hR,hO,hb⟩
theorem Yr0 {m kc:Nat} {ks:Nat->List ByteArray} {ka:Option Addr} {kA:Nat->Option Addr} {kC:Nat->Nat} {n:Int} {sn scp:Nat} {sa:Option Addr} (w0:World) (ko0:ng0 w0 ka m ks kA kC):C prog 23 #[.agg #[.int .i64 n,.slice ka m kc,.slice sa sn scp]] w0 fun v w=>∃a c oa oc,v= .agg #[.int .i64 1,.int .i64 n,.slice a m c,.slice sa sn scp]/\L9 w w0.heap.size m ks oa oc/\Own w w0.heap.size 86 1 a m c ((List.range m).map (Ar0 ks oa oc))/\Below w0.heap.size w0 w:=by
 refine C.enter (n:=11) func23 rfl rfl ?_;refine U1 ?_;intro hb;refine L.box (cs:=#[.int .i64 n,.slice ka m kc,.slice sa sn scp]) rfl rfl (fun w b1 F1=>?_);refine U246 ?_;intro lt1 hb;have N5:=F1.blk;refine L.alloc (cs:=#[.int .i64 0,.int .i64 0,.slice none 0 0,.slice none 0 0]) jk1 rfl (fun w b2 F2=>?_);refine U15 ?_;intro lt2 hb;have N5:=N5.j0 F2.below;have A2:=F2.blk;refine U134 ?_;refine W.fl 7 [4] [0,1,2,3,5,6,4] (fun w'=>K0 w' b1 #[.int .i64 n,.slice ka m kc,.slice sa sn scp] 59) (by kernel_rfl) (by kernel_rfl) (by kernel_rfl) (by kernel_rfl) (by kernel_rfl) (N5.j0 (Below.refl w.heap.size w).drew) ?_;refine U17 ?_;intro V3 hb;have N5:=N5.j0 V3;have A2:=A2.j0 V3;clear V3;generalize w.drew=w at *;refine F.va rfl rfl (fun w' L1=>(B0 rfl underlying59 rfl sz3 (by decide))) ?_;refine F.va rfl rfl (fun w' L1=>(A0 rfl underlying3 rfl (L1.q0 0 (v:=.int .i64 n) rfl))) ?_;refine F.va rfl rfl (fun w' L1=>(B0 rfl underlying59 rfl co1 (by decide))) ?_;refine F.va rfl rfl (fun w' L1=>(A0 rfl underlying57 rfl (L1.q0 1 (v:=.slice ka m kc) rfl))) ?_;refine F.va rfl rfl (fun w' L1=>(B0 rfl underlying59 rfl Bw0 (by decide))) ?_;refine F.va rfl rfl (fun w' L1=>(A0 rfl underlying37 rfl (L1.q0 2 (v:=.slice sa sn scp) rfl))) ?_;refine F.doo rfl rfl ?_;refine L.call (K2 rfl func47 rfl qx1 rfl) (gw1 _ (ko0.j0 hb)) ?_;rintro _ w ⟨a,c,oa,oc,rfl,hR,hO,O2⟩;have hR:=hR.down hb.size;have hO:=hO.down hb.size;refine U99 ?_;intro hb N5;have A2:=A2.j0 O2;refine L.nil ⟨rfl,N5,?_⟩;refine U8 ?_;refine L.va (G2 (parts:=[(0,.const (.int .i64 1)),(1,.tmp 4),(2,.tmp 7),(3,.tmp 9)]) rfl (Yq0 1 n a m c sa sn scp)) ?_;refine L.pu 0 [.int .i64 1,.int .i64 n,.slice a m c,.slice sa sn scp] #[.int .i64 1,.int .i64 n,.slice a m c,.slice sa sn scp] Oc0 A2 (fun w A1 hg N2=>?_);have Y5:=N4.ei0 A2 hg;have hb:=M4 hb hb.size hg lt2;have hR:=hR.mod Y5 rfl;have hO:=hO.mod Y5 rfl;have A2:=A1;refine U56 ?_;refine ends.cell (cs:=#[.int .i64 1,.int .i64 n,.slice a m c,.slice sa sn scp]) (.inr rfl) rfl rfl underlying39 rfl Oc0 A2 ?_;exact⟨a,c,oa,oc,rfl,hR,hO,hb⟩
end
end Go.Vy.Sc
end
section
namespace Go.Vy
open Go Go.Conc
theorem Lx0 {H:Type} {enc:TypeId×Value->H} {a:Assume} {C:Checked} {os:Os} {f:FuncId} {fn:Func} {s:OpenSpec} {k:(H:Type)->List (DataW H)->Bool} (hk:s.cond=some k) {F:Stop.Interp} {conds:List PathCond} {apart fresh handsOn again:Bool}
  (own:ownKnob C.prog.godebug=none) (started:os.Started) (hfn:C.prog.funcs[f]? =some fn)
  (wit:∃(w:World) (tape:Tape) (i:Input),w.os=os/\(w.forCall tape i).Shaped C.prog/\i.vars=[]/\Input.okWide C.prog (w.forCall tape i) .any w.heap.size f i/\s.pre6 enc C.prog fn conds apart (w.forCall tape i).memory i.args/\a.holds C.prog (lone (Frame.enter C.prog f i.args .normal) [] (w.forCall tape i)))
  (runs:∀(W:World) (base:Nat) (args:Array Value) (ds gs:List (DataW H)) (before:List MemPlace),(∀(j:Nat) t v,fn.params[j]? =some t->args[j]? =some v->Value.okWide C.prog W .any base t v)->DataW.Whole enc C.prog fn.params.toList s.vars apart W args.toList ds gs before->k H (ds++gs)=true ->
   ∃M last o w' t',runNT C.prog (M+1) (solo (G (Frame.enter C.prog f args .normal) []) W) #[]=(.ended o w',t')/\runN C.prog M (solo (G (Frame.enter C.prog f args .normal) []) W)= .next last/\step C.prog last= .ended o w'/\Conc.Good C.prog (fun v W'=>(s.at F).post enc C.prog fn apart fresh handsOn again W args v W') last o w' t') :
  ReturnsInLeavingWide a C os f .any (s.pre6 enc C.prog fn conds apart) ((s.at F).post enc C.prog fn apart fresh handsOn again):=by
 refine returnsInLeavingWide_of_good own started wit fun w tape i _ _ _ hok Hb0 _=>?_;obtain⟨_,_,_,fn',pe1,_,_,_,_,tm1⟩:=hok;rw[hfn]at pe1;obtain rfl:=Option.some.inj pe1;obtain⟨ds,gs,before,hw,_,hkk⟩:=(OpenSpec.pre_some hk conds apart _ _).1 Hb0.1;obtain⟨M,last,o,w',t',h1,h2,h3,h4⟩:=runs (w.forCall tape i) w.heap.size i.args ds gs before tm1 (DataW.Whole.of_heap (w':=w.forCall tape i) (by rfl) hw) hkk;exact⟨M,last,o,w',t',h1,h2,h3,h4.mono fun v hp=>ChangeSpec.post_blind hp⟩
theorem Hc0 {p:Pinned} {s:OpenSpec} {c:OpenClaim} (f:FuncId) (fn:Func) (hn:c.program=p.name) (hs:c.sum=p.sum) (hsp:c.spec=s.name) (hstart:c.start= .entering) (gl0:c.outside=[]) (hin:c.inits=[]) (hun:c.under=none)
  (hi4:c.initsInPlace=[]/\c.initsUnfollowed=false/\c.initsRecurse=false/\c.initsNamed=[]/\c.initsPassed=[]) (hnb:c.noBlocks=false) (hlv:c.leaving=true) (hfo:c.followed=none) (tn1:c.narrowed=s.cond.isSome) (gx1:c.still=false)
  (hfn:p.checked.prog.funcNamed c.func=some f) (hf:p.checked.prog.funcs[f]? =some fn) (closed:joinedFacts p.checked.prog f fn s.bare c=true) (pf1:fn.isInstance p.checked.prog c.origin c.targs) (pg1:fn.isWrapper p.checked.prog c.wrapper c.mainSum)
  (h:∀os:Os,os.Started->∀(H:Type) (enc:TypeId×Value->H),(∀a b,enc a=enc b->a=b)->∀F:Stop.Interp,ReturnsInLeavingWide c.assume p.checked os f .any (c.pre enc p.checked.prog fn s) ((s.at F).post enc p.checked.prog fn c.apart c.fresh c.handsOn c.again)):c.holds p s:=by
 simp only[joinedFacts,Bool.and_eq_true,beq_iff_eq,Array.all_eq_true_iff_forall_mem,List.all_eq_true,decide_eq_true_eq]at closed;obtain⟨⟨⟨⟨⟨⟨⟨⟨⟨⟨⟨⟨⟨⟨⟨⟨⟨⟨⟨⟨⟨⟨⟨⟨⟨⟨⟨⟨⟨⟨⟨q1,q2⟩,q3⟩,q4⟩,q5⟩,q6⟩,q7⟩,q8⟩,q9⟩,q10⟩,q11⟩,q12⟩,q13⟩,q14⟩,q15⟩,q16⟩,q17⟩,to1⟩,q18⟩,q19⟩,q20⟩,q21⟩,q22⟩,q23⟩,tq1⟩,q24⟩,tr1⟩,ts1⟩,q25⟩,q26⟩,q27⟩,q28⟩:=closed;have hq:∀os:Os,Stop.quiet p.checked.prog os:=fun os k hk=>by rw[q9]at hk;cases hk
 have hex:∃os:Os,c.world os/\Stop.quiet p.checked.prog os:=⟨_,by unfold OpenClaim.world;rw[gl0,hstart];exact WideRow.started_initial,hq _⟩
 refine⟨q1,hn,hs,hsp,q2,q3,?_,?_,f,fn,hfn,hf,⟨q4,q19⟩,(fun hb=>by rw[hnb]at hb;cases hb),?_,pf1,pg1,q6.trans q7.symm,⟨q8.trans q9.symm,?_,tq1⟩,q10,q11,q12,q13,q14,⟨q15,q27,q28⟩,⟨q16,q20⟩,⟨q17,q21,q25,q26⟩,⟨q22,tr1,ts1,to1⟩,?_,fun n hn'=>varReadable_some (q18 n hn'),hex,[],?_,fun os st _ H enc inj=>?_⟩
 ·unfold OpenClaim.startFits;rw[hstart];exact q24
 ·unfold OpenClaim.startTold;rw[hstart];exact⟨hin,hun,hi4⟩
 ·unfold OpenClaim.namedList;rw[hfo];exact q5
 ·unfold Program.envWorded;rw[q9];rfl
 ·rw[gl0,tn1];cases hsh:c.shortTexts with
  |none=>simp
  |some _=>rw[hsh]at q23;cases q23
 ·unfold OpenClaim.lists;rw[hfo]
 ·have st':os.Started:=by unfold OpenClaim.world at st;rw[gl0,hstart]at st;exact st
  rw[OpenClaim.post_not_still gx1];unfold OpenClaim.form;rw[hstart,q6];intro F;have e1:c.okInput=Input.okWide:=by unfold OpenClaim.okInput;rw[hnb]
  have e2:c.atReturn p.checked.prog=leavingAtReturn p.checked.prog:=by unfold OpenClaim.atReturn;rw[hlv]
  have e3:c.always p.checked.prog []=nothingAlways:=by unfold OpenClaim.always;rw[hfo]
  have e4:s.post enc p.checked.prog fn F c.outside c.apart c.fresh c.handsOn c.again=(s.at F).post enc p.checked.prog fn c.apart c.fresh c.handsOn c.again:=by rw[gl0];rfl
  rw[e1,e2,e3];show ReturnsInOpen _ _ _ _ _ _ _ _ (s.post enc p.checked.prog fn F c.outside c.apart c.fresh c.handsOn c.again) _ _;rw[e4];exact h os st' H enc inj F q24
end Go.Vy
end
section
namespace Go.Vy.Sc
open Go Go.Conc Go.Yc Go.RowKit Go.Proofs Go.Proofs.YtinppmaojmdmhaaGreat Tryz
open Go.Vc Go.Wg Go.ChangeShapes Go.WideShapes Go.ChangeAt Go.Deep
theorem Tv0 {H:Type} (d:DataW H):1 <=Rows.uptoBulk d:=by
 cases d with
 |lit l=>cases l <;> simp[Rows.uptoBulk]
 |_=>simp[Rows.uptoBulk]
theorem nh0 {H:Type} {d:DataW H}:∀{l:List (DataW H)},d∈l->Rows.uptoBulk d <=Rows.uptoBulkAll l
 |x::r,h=>by
  simp only[Rows.uptoBulkAll];rcases List.mem_cons.1 h with rfl|h
  ·omega
  ·have:=nh0 h;omega
theorem Ee0 {H:Type}:∀(l:List (DataW H)),l.length <=Rows.uptoBulkAll l
 | []=>Nat.zero_le _
 |x::r=>by
  have:=Tv0 x;have:=Ee0 r;simp only[Rows.uptoBulkAll,List.length_cons];omega
theorem gy1 {H:Type} {l:List (DataW H)} (h:Rows.uptoSmall H l=true):Rows.uptoBulkAll l <=1048576:=of_decide_eq_true h
section
variable {H:Type}{enc:TypeId×Value->H}{W:World}{base:Nat}{spare:Nat->Bool}{held:Bool}{P:Program}
theorem Ef0 {t:TypeId} {fs:Array Field} {fuel:Nat} {cs:List Value} {x:DataW H×List MemPlace} (ht:P.underlying t=some (.struct fs)) (h:DataW.trod enc P W base spare held fuel t cs=some x) :
  ∃m,cs.length=P.cellsOf t/\∀(j:Nat) f,fs[j]? =some f->∃y,Rows.uptoBulk y.1 <=Rows.uptoBulk x.1/\DataW.trod enc P W base spare held m f.type ((cs.drop f.offset).take (P.cellsOf f.type))=some y:=by
 obtain⟨xs,m,_,hx,hl,hxl,hf⟩:=DataW.trod_struct ht h;refine⟨m,hl,fun j f hj=>?_⟩;have hjl:j<xs.length:=by rw[hxl];exact(Array.getElem?_eq_some_iff.1 hj).1
 refine⟨xs[j],?_,by rw[hf j f hj];exact List.getElem?_eq_getElem hjl⟩;rw[hx];have h1:Rows.uptoBulk xs[j].1 <=Rows.uptoBulkAll (xs.map (·.1)):=nh0 (List.mem_map.2 ⟨xs[j],List.getElem_mem hjl,rfl⟩);simp only[Rows.uptoBulk];omega
theorem ro0 {t e:TypeId} {s:Nat} {a:Option Addr} {len cap fuel:Nat} {x:DataW H×List MemPlace} (ht:P.underlying t=some (.slice e)) (hs:P.cellsOf e=s) (h0:0<s) (h:DataW.trod enc P W base spare held fuel t [.slice a len cap]=some x) :
  SL a len/\(a=none->len=0/\cap=0)/\(len <=cap/\len <=Rows.uptoBulk x.1)/\∃n,∀i,i<len->∃cs y,Rows.uptoBulk y.1 <=Rows.uptoBulk x.1/\cs.length=s/\(∀(j:Nat) v,cs[j]? =some v->W.cell? ⟨ab a,ao a+i*s+j,none⟩=some v)/\DataW.trod enc P W base spare held n e cs=some y:=by
 rcases open_slice ht h with⟨hcs,_⟩|⟨ad,l,c,m,n,D,Pl,hcs,hb,hl,hm,hmm,hx,hi⟩
 ·simp at hcs;obtain⟨rfl,rfl,rfl⟩:=hcs;exact⟨SL.zero _,fun _=>⟨rfl,rfl⟩,⟨Nat.le_refl _,Nat.zero_le _⟩,0,fun i hi=>absurd hi (Nat.not_lt_zero _)⟩
 ·simp at hcs;obtain⟨rfl,rfl,rfl⟩:=hcs;have hlm:len <=m:=by rw[hmm];split <;> omega
  have hbk:Rows.uptoBulkAll ((List.range len).map D) <=Rows.uptoBulk x.1:=by
   rw[hx];simp only[Rows.uptoBulk];omega
  have hE:∀i,i<len->∃cs y,Rows.uptoBulk y.1 <=Rows.uptoBulk x.1/\cs.length=s/\(∀(j:Nat) v,cs[j]? =some v->W.cell? ((ad.add (i*s)).add j)=some v)/\DataW.trod enc P W base spare held n e cs=some y:=fun i M7=>by
   obtain⟨cs,h1,h2⟩:=hi i (by omega);rw[hs]at h1;obtain⟨_,h4,h3⟩:=World.cells?_some h1;refine⟨cs,_,Nat.le_trans (nh0 (List.mem_map.2 ⟨i,by simpa using M7,rfl⟩)) hbk,h4,fun j v hj=>?_,h2⟩;have:j<s:=by rw[<- h4];exact(List.getElem?_eq_some_iff.1 hj).1
   rw[h3 j this];exact hj
  have hsp:0<len->ad=⟨ad.block,ad.off,none⟩:=fun hl0=>by
   obtain⟨cs,y,_,h1,h2,_⟩:=hE 0 hl0;obtain⟨v,hv⟩:∃v,cs[0]? =some v:=⟨_,List.getElem?_eq_getElem (by omega)⟩
   have:=h2 0 v hv;rw[Nat.zero_mul]at this;have e1:(ad.add 0).add 0=ad:=by simp[Addr.add]
   rw[e1]at this;obtain⟨b,o,sp⟩:=ad;cases sp with
   |none=>rfl
   |some sp=>unfold World.cell? at this;simp at this;split at this <;> simp at this
  refine⟨fun hl0=>by rw[hsp hl0];rfl,(fun h=>by cases h),⟨hl,?_⟩,n,fun i M7=>?_⟩
  ·have:=Ee0 ((List.range len).map D);rw[List.length_map,List.length_range]at this;omega
  ·obtain⟨cs,y,h5,h1,h2,h3⟩:=hE i M7;refine⟨cs,y,h5,h1,fun j v hj=>?_,h3⟩;have:=h2 j v hj;rw[hsp (by omega),Addr.add_lit,Addr.add_lit]at this;exact this
end
section
variable {H:Type}{enc:TypeId×Value->H}{W:World}{base:Nat}{spare:Nat->Bool}{held:Bool}
theorem Tw0:prog.cellsOf 9=1:=by kernel_rfl
theorem Lt0:prog.cellsOf 61=1:=by kernel_rfl
theorem Tx0:prog.cellsOf 59=3:=by kernel_rfl
theorem Ty0:prog.cellsOf 57=1:=by kernel_rfl
theorem Lu0:prog.cellsOf 37=1:=by kernel_rfl
theorem Ys0 {n len cap:Nat} {a:Option Addr} {x:DataW H×List MemPlace} (h:DataW.trod enc prog W base spare held n 61 [.slice a len cap]=some x) (hx:Rows.uptoBulk x.1 <=1048576):∃l:List ByteArray,l.length=len/\SL a len/\len <=1048576/\(∀(k:Nat) o,l[k]? =some o->W.cell? ⟨ab a,ao a+k*1,none⟩=some (.string o))/\∀o∈l,o.size <=1000000000000:=by
 obtain⟨h1,_,⟨_,h2⟩,m,h3⟩:=ro0 underlying61 Tw0 (by decide) h;obtain⟨f,hf⟩:=qr0 (α:=ByteArray) (n:=len) (p:=fun i o=>W.cell? ⟨ab a,ao a+i*1,none⟩=some (.string o)/\o.size <=1000000000000) fun i hi=>by
  obtain⟨cs,y,g0,_,g2,g3⟩:=h3 i hi;obtain⟨s,rfl,hy,_⟩:=DataW.trod_string underlying9 g3;refine⟨s,g2 0 _ rfl,?_⟩;rw[hy]at g0;simp only[Rows.uptoBulk]at g0;have e:s.data.toList.length=s.size:=by rw[Array.length_toList];rfl
  omega
 refine⟨(List.range len).map f,by simp,h1,by omega,fun k o hk=>?_,fun o ho=>?_⟩
 ·have hkl:k<len:=by
   have:=(List.getElem?_eq_some_iff.1 hk).1;simpa using this
  simp[hkl]at hk;rw[<- hk];exact(hf k hkl).1
 ·obtain⟨k,hk,rfl⟩:=List.mem_map.1 ho;exact(hf k (List.mem_range.1 hk)).2
theorem Lv0 {a:Option Addr} {len cap:Nat} {d:DataW H} {p:List MemPlace} {fuel:Nat} (hf:DataW.trod enc prog W base spare held fuel 37 [.slice a len cap]=some (d,p)) (hd:Rows.uptoBulk d <=1048576):∃sc,tm0 (ht0 W) a len cap sc/\len <=1048576:=by
 obtain⟨h1,h2,h4,n,h3⟩:=ro0 underlying37 Cl0 Nat.one_pos hf;have h4c:=h4.1;have h4:len <=Rows.uptoBulk d:=h4.2;obtain⟨sc,hsc⟩:=qr0 (α:=Int) (n:=len) (p:=fun i z=>W.cell? ⟨ab a,ao a+i*1,none⟩=some (.int .i64 z)) fun i hi=>by
  obtain⟨cs,y,_,_,g2,g3⟩:=h3 i hi;obtain⟨z,rfl,_⟩:=DataW.trod_int underlying3 g3;exact⟨z,g2 0 _ rfl⟩
 exact⟨sc,⟨h1,h2,h4c,fun j hj=>ms0 (hsc j hj)⟩,by omega⟩
theorem Yt0 {a:Option Addr} {len cap fuel:Nat} {x:DataW H×List MemPlace} (h:DataW.trod enc prog W base spare held fuel 57 [.slice a len cap]=some x) (hd:Rows.uptoBulk x.1 <=1048576):∃ks kA kC,ng0 (ht0 W) a len ks kA kC/\(∀i,len <=i->ks i=[])/\∀i k,k∈ks i->k.size <=1000000000000:=by
 obtain⟨h1,h2,h4,n,h3⟩:=ro0 underlying57 Lt0 Nat.one_pos h;have h4:len <=Rows.uptoBulk x.1:=h4.2;obtain⟨F,hF⟩:=qr0 (α:=List ByteArray×Option Addr×Nat) (n:=len) (p:=fun i z=>W.cell? ⟨ab a,ao a+i*1,none⟩=some (.slice z.2.1 z.1.length z.2.2)/\SL z.2.1 z.1.length/\z.1.length <=1048576/\(∀(k:Nat) o,z.1[k]? =some o->W.cell? ⟨ab z.2.1,ao z.2.1+k*1,none⟩=some (.string o))/\∀o∈z.1,o.size <=1000000000000) fun i hi=>by
  obtain⟨cs,y,g0,g1,g2,g3⟩:=h3 i hi;have hcs:∃a' Tz0 Lw0,cs=[.slice a' Tz0 Lw0]:=by
   rcases DataW.trod_slice underlying61 g3 with⟨h0,_⟩|⟨a',Tz0,Lw0,_,_,_,_,h0,_⟩
   ·exact⟨_,_,_,h0⟩
   ·exact⟨_,_,_,h0⟩
  obtain⟨a',Tz0,Lw0,rfl⟩:=hcs;obtain⟨l,rfl,q1,q2,q3,q4⟩:=Ys0 g3 (by omega);exact⟨(l,a',Lw0),g2 0 _ rfl,q1,q2,q3,q4⟩
 refine⟨fun i=>if i<len then(F i).1 else [],fun i=>(F i).2.1,fun i=>(F i).2.2,⟨h1,fun i hi=>?_,fun i hi=>?_,fun i hi t k hk=>?_,by omega,fun i hi=>?_⟩,fun i hi=>if_neg (by omega),fun i k hk=>?_⟩
 ·show(ht0 W).cell? _=some (.slice _ (if i<len then(F i).1 else []).length _);rw[if_pos hi];exact ms0 (hF i hi).1
 ·show SL _ (if i<len then(F i).1 else []).length;rw[if_pos hi];exact(hF i hi).2.1
 ·have hk:(if i<len then(F i).1 else [])[t]? =some k:=hk;rw[if_pos hi]at hk;exact ms0 ((hF i hi).2.2.2.1 t k hk)
 ·show(if i<len then(F i).1 else []).length <=_;rw[if_pos hi];exact(hF i hi).2.2.1
 ·have hk:k∈(if i<len then(F i).1 else []):=hk;split at hk
  ·rename_i hi;exact(hF i hi).2.2.2.2 k hk
  ·cases hk
set_option maxRecDepth 100000 in
theorem ph1 {r:Reach} {b0:Nat} {v:Value} {d:DataW H} {p:List MemPlace} (hv:Value.okWide prog W r b0 59 v) (h:DataW.Trod enc prog W base spare held 59 v d p) (hd:Rows.uptoBulk d <=1048576) :
  ∃n ka m kc sa sn scp ks kA kC sc,v= .agg #[.int .i64 n,.slice ka m kc,.slice sa sn scp]/\ng0 (ht0 W) ka m ks kA kC/\(∀i,m <=i->ks i=[])/\(∀i k,k∈ks i->k.size <=1000000000000)/\tm0 (ht0 W) sa sn scp sc/\sn <=1048576:=by
 obtain⟨cs,rfl,N2⟩:=okWide_struct underlying59 hv;obtain⟨fuel,hf⟩:=h;have hf:DataW.trod enc prog W base spare held fuel 59 cs.toList=some (d,p):=hf;obtain⟨m0,hl,hff⟩:=Ef0 underlying59 hf;rw[Tx0]at hl;obtain⟨v0,v1,v2,hcs⟩:=sp1 hl;rw[hcs]at hff;obtain⟨y0,_,h0⟩:∃y,Rows.uptoBulk y.1 <=Rows.uptoBulk d/\DataW.trod enc prog W base spare held m0 3 (([v0,v1,v2].drop 0).take (prog.cellsOf 3))=some y:=hff 0 _ rfl;obtain⟨y1,b1,h1⟩:∃y,Rows.uptoBulk y.1 <=Rows.uptoBulk d/\DataW.trod enc prog W base spare held m0 57 (([v0,v1,v2].drop 1).take (prog.cellsOf 57))=some y:=hff 1 _ rfl;obtain⟨y2,b2,h2⟩:∃y,Rows.uptoBulk y.1 <=Rows.uptoBulk d/\DataW.trod enc prog W base spare held m0 37 (([v0,v1,v2].drop 2).take (prog.cellsOf 37))=some y:=hff 2 _ rfl;rw[Cl0]at h0;rw[Ty0]at h1;rw[Lu0]at h2;obtain⟨z0,g0,_⟩:=DataW.trod_int underlying3 h0;have s1:∃a len cap,([v1]:List Value)=[.slice a len cap]:=by
  rcases DataW.trod_slice underlying57 h1 with⟨h0,_⟩|⟨a',Tz0,Lw0,_,_,_,_,h0,_⟩
  ·exact⟨_,_,_,h0⟩
  ·exact⟨_,_,_,h0⟩
 have s2:∃a len cap,([v2]:List Value)=[.slice a len cap]:=by
  rcases DataW.trod_slice underlying37 h2 with⟨h0,_⟩|⟨a',Tz0,Lw0,_,_,_,_,h0,_⟩
  ·exact⟨_,_,_,h0⟩
  ·exact⟨_,_,_,h0⟩
 obtain⟨ka,m,kc,e1⟩:=s1;obtain⟨sa,sn,scp,e2⟩:=s2;simp at g0;obtain rfl:=List.cons.inj e1 |>.1;obtain rfl:=List.cons.inj e2 |>.1;obtain⟨ks,kA,kC,q1,q2,q3⟩:=Yt0 (show DataW.trod enc prog W base spare held m0 57 [.slice ka m kc]=some y1 from h1) (by omega);obtain⟨sc,q4,q5⟩:=Lv0 (d:=y2.1) (p:=y2.2) (show DataW.trod enc prog W base spare held m0 37 [.slice sa sn scp]=some y2 from h2) (by omega);exact⟨z0,ka,m,kc,sa,sn,scp,ks,kA,kC,sc,by rw[<- Array.toArray_toList (xs:=cs),hcs,g0],q1,q2,q3,q4,q5⟩
end
end Go.Vy.Sc
end
section
namespace Go.Vy.Sc
open Go Go.Conc Go.Yc Go.RowKit Go.Proofs Go.Proofs.YtinppmaojmdmhaaGreat Tryz
open Go.Vc Go.Wg
theorem Je0 {α:Type} (f:α->List Value) (k:Nat) (hf:∀x,(f x).length=k):∀(l:List α) (i:Nat) (x:α) (j:Nat) (v:Value),l[i]? =some x->(f x)[j]? =some v->(l.flatMap f)[i*k+j]? =some v:=by
 intro l
 induction l with
 |nil=>intro i x j v h;cases h
 |cons y l ih=>
  intro i x j v h hj;rw[List.flatMap_cons];cases i with
  |zero=>
   cases h;have hl:=(List.getElem?_eq_some_iff.1 hj).1;rw[Nat.zero_mul,Nat.zero_add,List.getElem?_append_left hl];exact hj
  |succ i=>
   rw[List.getElem?_append_right (by rw[hf,Nat.succ_mul];omega),hf,Nat.succ_mul,show i*k+k+j-k=i*k+j by omega];exact ih i x j v h hj
theorem Ua0 {w:World} {B n c:Nat} {E:TypeId} {a:Option Addr} {evs:List (Nat×Stp)} (hO:Own w B E 4 a n c (evs.flatMap evC)) {i:Nat} {e:Nat×Stp} (he:evs[i]? =some e) (j:Nat) (v:Value) (hj:(evC e)[j]? =some v):w.cell? ⟨ab a,ao a+i*4+j,none⟩=some v:=by
 rw[hO.off,Nat.zero_add];exact hO.cell (Je0 evC 4 (fun _=>rfl) evs i e j v he hj)
theorem Ub0 {w:World} {B n c:Nat} {E:TypeId} {a:Option Addr} {nts:List (Nat×Nat×Nte)} (hO:Own w B E 4 a n c (nts.flatMap ntC)) {i:Nat} {e:Nat×Nat×Nte} (he:nts[i]? =some e) (j:Nat) (v:Value) (hj:(ntC e)[j]? =some v):w.cell? ⟨ab a,ao a+i*4+j,none⟩=some v:=by
 rw[hO.off,Nat.zero_add];exact hO.cell (Je0 ntC 4 (fun _=>rfl) nts i e j v he hj)
def evX (R:Rn) (i:Nat):Stp:=(R.evs.getD i (0,⟨0,0,0⟩)).2
theorem Hd0 {R:Rn} {i:Nat} {x:Nat×Stp} (h:R.evs[i]? =some x):evX R i=x.2:=by unfold evX;rw[List.getD_eq_getElem?_getD,h];rfl
theorem Uc0 {w:World} {B n c:Nat} {E:TypeId} {R:Rn} (hO:Own w B E 4 R.ea n c (R.evs.flatMap evC)) {i:Nat} (hi:i<R.evs.length):w.cell? ⟨ab R.ea,ao R.ea+i*4+1,none⟩=some (.int .i64 (evX R i).kind)/\w.cell? ⟨ab R.ea,ao R.ea+i*4+2,none⟩=some (.int .i64 (evX R i).obj):=by
 have he:R.evs[i]? =some R.evs[i]:=List.getElem?_eq_getElem hi;rw[Hd0 he];exact⟨Ua0 hO he 1 _ rfl,Ua0 hO he 2 _ rfl⟩
section
variable {p:W4}{sc:Nat->Int}{sn B:Nat}{w w':World}{R:Rn}{m:Gm}{r:o6}
theorem o7.fresh (h:o7 p sc sn B w R m r) {b:Nat} (hb:w.heap.size <=b):¬R.fp b/\¬SF p m (pT p sc sn) r b :=
 ⟨fun z=>by have:=h.run.mem.lt z;omega,fun z=>by have:=(h.mem.vis h.ok z).1;omega⟩
theorem o7.gz1 (h:o7 p sc sn B w R m r) {b:Nat} (hg:w.grownBy w' (some b)) (hn:¬R.fp b/\¬SF p m (pT p sc sn) r b):o7 p sc sn B w' R m r :=
 ⟨h.mem.congr fun c hc=>hg.block c (h.mem.vis h.ok hc).1 fun e=>hn.2 (by cases e;exact hc),h.run.j6 hg hn.1,h.roR,h.ok⟩
end
theorem ha1 {p:W4} {ks:Nat->List ByteArray} (hp:A5 p) (hb:p.bo=fun i=>E2 (ks i)) {q:PR (S0 p)} (hq:(S0 p).Reach q) (c:Nat):rm0 ks q c <=2*(ks c).length:=by
 unfold rm0;cases hx:q.ft[c]? with
 |none=>exact Nat.zero_le _
 |some f=>
  cases f with
  |inr x=>exact Nat.le_refl _
  |inl b=>
   obtain⟨t,hF⟩:=(pb0 hp hb q hq).fl c b hx;obtain⟨key,h1,_⟩:=hF.key;have h2:=(List.getElem?_eq_some_iff.1 h1).1;have h3:Ao0 b.ph <=2:=by cases b.ph <;> simp[Ao0]
   show 2*((b.k-1)/6)+Ao0 b.ph <=_;rw[hF.Lp0];omega
set_option maxHeartbeats 4000000 in
theorem tz1 {lb:Nat} {pl:Nat->C7} {n:Int} {m kc sn scp:Nat} {ks:Nat->List ByteArray} {ka sa:Option Addr} {kA:Nat->Option Addr} {kC:Nat->Nat} {sc:Nat->Int} (w0:World) (ko0:ng0 w0 ka m ks kA kC) (hzk:∀i,m <=i->ks i=[]) (hkz:∀i k,k∈ks i->k.size <=1000000000000) (hSc:tm0 w0 sa sn scp sc) (hsn:sn <=1000000000):@C prog (j9 lb pl) 6 #[.agg #[.int .i64 n,.slice ka m kc,.slice sa sn scp]] w0 fun v w=>v= .bool true/\Below w0.heap.size w0 w:=by
 letI:Ctx prog:=j9 lb pl;refine C.enter (n:=142) func6 rfl rfl ?_;have hb:Below w0.heap.size w0 w0:=Below.refl _ _;have hlm:=ko0.len;refine U0 ?_;refine L.box (cs:=#[.int .i64 n,.slice ka m kc,.slice sa sn scp]) rfl rfl (fun w b1 F1=>?_);refine U246 ?_;intro lt1 hb;have N5:=F1.blk;refine U7 ?_;refine U0 ?_;refine L.va (D2 (cs:=[.int .i64 n,.slice ka m kc,.slice sa sn scp]) rfl underlying59 rfl qc1 rfl (N5.T6 rfl)) ?_;refine L.call (K2 rfl func23 rfl qr1 rfl) (Yr0 _ (ko0.j0 hb)) ?_;rintro _ w ⟨fa,fc,oa,oc,rfl,hR,hO,O2⟩;have hR:=hR.down hb.size;have hO:=hO.down hb.size;refine U99 ?_;intro hb N5;have Eg0:=N5;have pi1:=hR;have pj1:=hO;have rj0:=hb;refine L.alloc (cs:=#[.int .i64 0,.int .i64 0,.slice none 0 0,.slice none 0 0]) jk1 rfl (fun w b3 F3=>?_);have lt3:=F3.lq hb.size;have Z7:=F3.blk;refine L.pa [.int .i64 1,.int .i64 n,.slice fa m fc,.slice sa sn scp] Oc0 Z7 (fun w A1 hg N2=>?_);have hbA:=M4 F3.below F3.below.size hg (by have:=F3.here;omega);have N5:=Eg0.j0 hbA;have hR:=pi1.j0 hbA;have hO:=pj1.j0 hbA;have hb:=G0 rj0 hbA;have Z7:=A1;clear A1 hg N2 hbA F3 Eg0 pi1 pj1 rj0;refine U3 ?_;refine U6 ?_;refine L.va (D2 (cs:=[.int .i64 1,.int .i64 n,.slice fa m fc,.slice sa sn scp]) rfl underlying39 rfl Oc0 rfl (Z7.T6 rfl)) ?_;refine L.call (K2 rfl func18 rfl qq1 rfl) (gf1 _ (by omega) (by omega) (hR.pb1 hO hlm.2)) ?_;rintro _ w ⟨bf,rfl,bu1,O2⟩;refine U99 ?_;intro hb N5;have hR:=hR.j0 O2;have hO:=hO.j0 O2;have Z7:=Z7.j0 O2;refine L.va (nq0 rfl) ?_;refine U3 ?_;refine W.cond rfl (fun h18=>?_) (fun h18=>?_)
 ·refine W.seq ?_;refine W.region rfl ?_;refine L.call (kx0  func11 rfl jv1 rfl) (Tk0 _) ?_;rintro _ w ⟨rfl,O2⟩;have hb:=G0 hb O2;exact U144
 ·have hbf:bf=true:=by simpa using h18
  obtain⟨hF,ui1⟩:=bu1 hbf;have hsm:=hF.sum;rw[Tu0 ks m m (Nat.le_refl _)]at hsm;obtain⟨nn,hnn⟩:∃nn:Nat,n=(nn:Int):=⟨n.toNat,by have:=hF.n1;omega⟩
  have th1:=hF.m1;refine U59 ?_;refine U0 ?_;refine L.va (D2 (cs:=[.int .i64 1,.int .i64 n,.slice fa m fc,.slice sa sn scp]) rfl underlying39 rfl Oc0 rfl (Z7.T6 rfl)) ?_;have Ud0:=Th0 (lb:=lb) (pl:=pl) (obj:=1) (n:=nn) (bc:=fc) (sc:=sc) w (hR.pb1 hO hlm.2) (fun i hi=>if_neg (by omega)) (Yp0 hkz) (hSc.j0 hb) ⟨by have:=hF.n1;omega,hF.m1,hF.sum,hF.sn1⟩;rw[<- hnn]at Ud0;obtain⟨Bq,hBq⟩:∃Bq,Bq=w.heap.size:=⟨_,rfl⟩
  refine L.call (K2 rfl func19 rfl jx1 rfl) Ud0 ?_;rintro _ w1 ⟨p,R,mF,r1,rfl,⟨pm,pbo,pn,Ti0,pB⟩,hY,O2⟩;rw[<- hBq]at hY;refine U99 ?_;intro hb N5;clear O2 Ud0 hBq
  rename World=>w
  have hbo:=pbo.trans (pc1 hzk);obtain⟨S,hS⟩:=Jd0 hbo sc sn;have hRe:R.evs=((S0 p).pn sc sn).evs:=hY.run.evs;have hRn:R.nts=((S0 p).pn sc sn).nts:=hY.run.nts;have pk1:=hS.tl1 hbo;have uj1:R.evs.length <=100000:=by have h9:=(Tq0 hY.ok hbo sc sn).1;rw[hRe];rw[pm]at h9;omega
  have uk1:R.nts.length <=1000000000:=by rw[hRn];have h1:=ay1 (p:=p) (fun i=>by rw[hbo];show(E2 (ks i)).length <=200;rw[fq0];rcases Nat.lt_or_ge i m with z|z;have:=ri0 (f:=fun j=>(ks j).length) z;omega;rw[hzk i z];exact Nat.zero_le _) ((S0 p).pn sc sn) (.inr ⟨sc,sn,rfl⟩);have h2:=(Sys.qn0 (Y:=S0 p) sc sn).2;have h3:(S0 p).m <=16:=hY.ok.m;omega
  refine U192 ?_;refine L.va (D9 rfl rfl) ?_;have Eg0:=N5;have Eb0:=hY;have rj0:=hb;refine L.alloc (cs:=#[.slice none 0 0,.slice none 0 0,.slice none 0 0,.slice none 0 0,.bool false,.int .i64 0]) Oe0 rfl (fun w b4 F4=>?_);have lt4:=F4.lq hb.size;have X1:=F4.blk;refine L.pa [.slice R.ea R.evs.length R.ec,.slice R.na R.nts.length R.nc,.slice (some ⟨R.eb,0,none⟩) R.m R.m,.slice (some ⟨R.wb,0,none⟩) R.m R.m,.bool R.stuck,.int .i64 (R.used:Int)] lf0 X1 (fun w A1 hg N2=>?_);have hbA:=M4 F4.below F4.below.size hg (by have:=F4.here;omega);have N5:=Eg0.j0 hbA;have hY:=Eb0.j0 hbA;have hb:=G0 rj0 hbA;have X1:=A1;clear A1 hg N2 hbA F4 Eg0 Eb0 rj0;refine U70 ?_;refine U6 ?_;refine L.va (bg0 rfl) ?_;refine L.va (nq0 rfl) ?_;refine U25 ?_;refine U540 ?_;refine L.make (m:=m) rfl rfl underlying61 in9 (z0:=.string ByteArray.empty) rfl (by decide) (by omega) (by omega) (fun w b31 F31=>?_);have pl1:=F31.lq hb.size;have pm1:=hY.fresh (Nat.le_of_eq F31.here.symm);have hb:=G0 hb F31.below;have N5:=N5.j0 F31.below;have hY:=hY.j0 F31.below;have X1:=X1.j0 F31.below;have pn1:=F31.blk;have hH:K0 w b31 (arr m fun k=>.string ((fun _=>eB) k)) 9:=by have h9:=pn1;rw[jc0]at h9;exact h9
  clear pn1;refine U73 ?_;refine U540 ?_;refine L.make (m:=m) rfl rfl underlying37 in3 (z0:=.int .i64 0) rfl (by decide) (by omega) (by omega) (fun w b35 F35=>?_);have tt1:=F35.lq hb.size;have tu1:=hY.fresh (Nat.le_of_eq F35.here.symm);have hb:=G0 hb F35.below;have N5:=N5.j0 F35.below;have hY:=hY.j0 F35.below;have X1:=X1.j0 F35.below;have hH:=hH.j0 F35.below;have Kb0:=F35.blk;have hC:K0 w b35 (arr m fun k=>.int .i64 (((fun _=>0) k:Nat):Int)) 3:=by have h9:=Kb0;rw[jc0]at h9;exact h9
  clear Kb0;refine U73 ?_;refine U5 ?_;refine U6 ?_;refine U53 ?_;have hKs:=ko0.j0 hb;refine W.loop (fun k e w=>∃(i:Nat),∃(n9:Nat),∃(H:Nat->ByteArray),∃(C:Nat->Nat),k=R.evs.length+1-i/\e 1= .pointer (some ⟨b1,0,none⟩)/\e 4= .pointer (some ⟨b4,0,none⟩)/\e 7= .slice (some ⟨b31,0,none⟩) m m/\e 8= .slice (some ⟨b35,0,none⟩) m m/\e 9= .int .i64 (n9:Nat)/\e 10= .int .i64 (i:Nat)/\i <=R.evs.length+1/\(i <=R.evs.length->Pre ks S ((S0 p).pn sc sn) i n9 H C)/\Below w0.heap.size w0 w/\K0 w b1 #[.int .i64 n,.slice ka m kc,.slice sa sn scp] 59/\K0 w b4 #[.slice R.ea R.evs.length R.ec,.slice R.na R.nts.length R.nc,.slice (some ⟨R.eb,0,none⟩) R.m R.m,.slice (some ⟨R.wb,0,none⟩) R.m R.m,.bool R.stuck,.int .i64 (R.used:Int)] 45/\o7 p sc sn Bq w R mF r1/\K0 w b31 (arr m fun k=>.string (H k)) 9/\K0 w b35 (arr m fun k=>.int .i64 (C k:Nat)) 3/\ng0 w ka m ks kA kC) _ ⟨0,0,(fun _=>eB),(fun _=>0),rfl,rfl,rfl,rfl,rfl,rfl,rfl,Nat.zero_le _,(fun _=>pk1),hb,N5,X1,hY,hH,hC,hKs⟩ ?_;rintro k e w ⟨i,n9,H,C,hk,s1,s4,s7,s8,s9,s10,hi,Hb0,hb,N5,X1,hY,hH,hC,hKs⟩;refine U476 ?_;refine U14 ?_;refine U302 ?_;refine L.va (Ho0 rfl rfl) ?_;refine U3 ?_;refine W.w6 rfl (fun h40=>?_) (fun h40=>?_)
  ·have M7:i <=R.evs.length:=by omega
   have Hb0:=Hb0 M7;refine U83 ?_;refine U344 ?_;refine W.loop (fun k e w=>∃(n9:Nat),∃(H:Nat->ByteArray),∃(C:Nat->Nat),k=R.nts.length-n9/\e 1= .pointer (some ⟨b1,0,none⟩)/\e 4= .pointer (some ⟨b4,0,none⟩)/\e 7= .slice (some ⟨b31,0,none⟩) m m/\e 8= .slice (some ⟨b35,0,none⟩) m m/\e 9= .int .i64 (n9:Nat)/\e 10= .int .i64 (i:Nat)/\Pre ks S ((S0 p).pn sc sn) i n9 H C/\Below w0.heap.size w0 w/\K0 w b1 #[.int .i64 n,.slice ka m kc,.slice sa sn scp] 59/\K0 w b4 #[.slice R.ea R.evs.length R.ec,.slice R.na R.nts.length R.nc,.slice (some ⟨R.eb,0,none⟩) R.m R.m,.slice (some ⟨R.wb,0,none⟩) R.m R.m,.bool R.stuck,.int .i64 (R.used:Int)] 45/\o7 p sc sn Bq w R mF r1/\K0 w b31 (arr m fun k=>.string (H k)) 9/\K0 w b35 (arr m fun k=>.int .i64 (C k:Nat)) 3/\ng0 w ka m ks kA kC) _ ⟨n9,H,C,rfl,rfl,rfl,rfl,rfl,rfl,rfl,Hb0,hb,N5,X1,hY,hH,hC,hKs⟩ ?_;rintro k e w ⟨n9,H,C,hk,s1,s4,s7,s8,s9,s10,Hb0,hb,N5,X1,hY,hH,hC,hKs⟩;refine U476 ?_;refine W.seq ?_;refine W.seq ?_;rcases Hb0 with⟨hn1,hH1,hC1⟩|⟨c,txt,hcp,hn1,hx,hC1,hpp⟩
   ·have X7:n9<R.nts.length->∃x,R.nts[n9]? =some x/\x.1≠i:=fun z=>by rw[hRn]at z⊢;exact hS.over (by rw[<- hRe];exact M7) hn1 z
    refine U68 ?_;refine U527 ?_;refine U521 ?_;refine L.ns0 9 [48,49,50,51,52,53,54,55,56,57] 57 (.bool false) (tj:=48) rfl (fun po1=>?_) (fun po1=>?_) (fun f=>?_)
    ·have hnl:n9<R.nts.length:=by have h9:=of_decide_eq_true po1;omega
     obtain⟨x,hx,hxi⟩:=X7 hnl;refine L.on rfl ?_;refine U492 ?_;refine U122 ?_;refine U460 ?_;refine U482 ?_;refine L.va (A0 (v:=.int .i64 ((x.1:Nat):Int)) rfl underlying3 rfl (Ub0 hY.run.mem.nts hx 0 _ rfl)) ?_;refine U122 ?_;refine L.va (S9 rfl rfl) ?_;refine U86 ?_;refine⟨rfl,congrArg Value.bool (decide_eq_false (by omega)),?_⟩;exact L0.upd rfl (L0.upd rfl (L0.upd rfl (L0.upd rfl (L0.upd rfl (L0.upd rfl (L0.upd rfl (L0.upd rfl (L0.upd rfl (L0.upd rfl (L0.refl _ _))))))))))
    ·refine L.off rfl ?_;refine U92 ?_;refine U135 ?_;refine⟨rfl,congrArg Value.bool rfl,?_⟩;exact L0.upd rfl (L0.upd rfl (L0.upd rfl (L0.upd rfl (L0.upd rfl (L0.upd rfl (L0.upd rfl (L0.upd rfl (L0.upd rfl (L0.upd rfl (L0.refl _ _))))))))))
    refine U253 ?_;refine W.exit ?_;refine U116 ?_;refine W.seq ?_;by_cases hun:i<R.evs.length/\(evX R i).kind=2/\(evX R i).obj=3
    ·obtain⟨c,st9,hcp,He0,hs1,-⟩:=hS.step hY.ok hbo Ti0 (by rw[<- hRe];exact hun.1) hn1 hH1 hC1;have hcm:c<m:=pm▸hcp;rw[<- hRe]at He0;have Ue0:i+1 <=R.evs.length->Pre ks S ((S0 p).pn sc sn) (i+1) n9 (o3 H c eB) C:=fun _=>hs1 (by have h9:=hun.2;rw[Hd0 He0]at h9;exact h9);have hi9:=hun.1;refine U68 ?_;refine U302 ?_;refine L.va (R5 (r:=true) (decide_eq_true (by omega)) (gv0 (m:=((i:Nat):Int)) (k:=((R.evs.length:Nat):Int)) rfl rfl)) ?_;refine U31 ?_;refine U230 ?_;refine U436 ?_;refine L.on rfl ?_;refine L.va (R5 (r:=true) (decide_eq_true hun.2.1) (S9 (m:=(evX R i).kind) (k:=2) rfl rfl)) ?_;refine L.va (p6 rfl) ?_;refine U31 ?_;refine U230 ?_;refine U438 ?_;refine L.on rfl ?_;refine L.va (R5 (r:=true) (decide_eq_true hun.2.2) (S9 (m:=(evX R i).obj) (k:=3) rfl rfl)) ?_;refine L.va (p6 rfl) ?_;refine U66 ?_;refine L.va (R9 rfl) ?_;refine U349 ?_;refine L.va (C4 rfl) ?_;refine L.va (S5 (i:=i) rfl rfl underlying41 cq1 hY.run.mem.evs.sl hi9) ?_;refine L.va (B0 rfl underlying67 rfl sz3 (by decide)) ?_;refine L.va (A0 (v:=.int .i64 ((c:Nat):Int)) rfl underlying3 rfl (Ua0 hY.run.mem.evs He0 0 _ rfl)) ?_;refine L.va (S5 (i:=c) rfl rfl underlying61 sz9 (fun _=>rfl) hcm) ?_;refine L.put (b:=b31) (o:=0+c*1) (vs:=[.string eB]) (arr m fun k=>.string (o3 H c eB k)) rfl rfl rfl sz9 rfl rfl hH (by rw[T5];omega) (ed0 hcm (by rw[Y0]) (fun j hj=>by rw[Z0 hj])) (fun w A1 hg N2=>?_);refine U518 ?_;intro N5 X1;have hY:=hY.gz1 hg pm1;have hC:=K0.other hC hg (K0.ne hC hH (by decide));have hb:=M4 hb hb.size hg pl1;have hKs:=ko0.j0 hb;clear hH;have hH:=A1;clear A1 hg N2;refine L.nil ?_;refine U175 ?_;exact U376
    ·have Ue0:i+1 <=R.evs.length->Pre ks S ((S0 p).pn sc sn) (i+1) n9 H C:=fun z=>by
      obtain⟨c,st9,hcp,He0,-,hs2⟩:=hS.step hY.ok hbo Ti0 (by rw[<- hRe];exact z) hn1 hH1 hC1;rw[<- hRe]at He0;exact hs2 fun y=>hun ⟨z,by rw[Hd0 He0];exact y⟩
     refine U68 ?_;refine U302 ?_;refine U521 ?_;refine L.ns0 9 [113,114,115,116,117,118,119,120,121,122] 122 (.bool (decide (i<R.evs.length/\(evX R i).kind=2))) (tj:=113) rfl (fun Jf0=>?_) (fun Jf0=>?_) (fun f=>?_)
     ·have hi9:i<R.evs.length:=by have h9:=of_decide_eq_true Jf0;omega
      refine L.on rfl ?_;refine U230 ?_;refine U436 ?_;refine U205 ?_;refine U86 ?_;refine⟨rfl,congrArg Value.bool (by first|exact wa0 Jf0|rfl|(simp_all;done)|(rw[Bool.eq_iff_iff];simp_all;omega)),?_⟩;exact L0.upd rfl (L0.upd rfl (L0.upd rfl (L0.upd rfl (L0.upd rfl (L0.upd rfl (L0.upd rfl (L0.upd rfl (L0.upd rfl (L0.upd rfl (L0.refl _ _))))))))))
     ·refine L.off rfl ?_;refine U92 ?_;refine U135 ?_;refine⟨rfl,congrArg Value.bool (by first|exact vz0 Jf0|rfl|(simp_all;done)|(rw[Bool.eq_iff_iff];simp_all;omega)),?_⟩;exact L0.upd rfl (L0.upd rfl (L0.upd rfl (L0.upd rfl (L0.upd rfl (L0.upd rfl (L0.upd rfl (L0.upd rfl (L0.upd rfl (L0.upd rfl (L0.refl _ _))))))))))
     refine L.va (bg0 rfl) ?_;refine L.ns0 9 [123,124,125,126,127,128,129,130,131,132] 132 (.bool false) (tj:=123) rfl (fun Jg0=>?_) (fun Jg0=>?_) (fun f=>?_)
     ·have hi9:i<R.evs.length:=(of_decide_eq_true Jg0).1;refine L.on rfl ?_;refine U230 ?_;refine U438 ?_;refine U205 ?_;refine U86 ?_;refine⟨rfl,congrArg Value.bool (decide_eq_false fun y=>hun ⟨(of_decide_eq_true Jg0).1,(of_decide_eq_true Jg0).2,y⟩),?_⟩;exact L0.upd rfl (L0.upd rfl (L0.upd rfl (L0.upd rfl (L0.upd rfl (L0.upd rfl (L0.upd rfl (L0.upd rfl (L0.upd rfl (L0.upd rfl (L0.refl _ _))))))))))
     ·refine L.off rfl ?_;refine U92 ?_;refine U135 ?_;refine⟨rfl,congrArg Value.bool rfl,?_⟩;exact L0.upd rfl (L0.upd rfl (L0.upd rfl (L0.upd rfl (L0.upd rfl (L0.upd rfl (L0.upd rfl (L0.upd rfl (L0.upd rfl (L0.upd rfl (L0.refl _ _))))))))))
     refine U225 ?_;refine U175 ?_;exact U376
   ·have hcm:c<m:=pm▸hcp;rw[<- hRn]at hx;have hnl:n9<R.nts.length:=(List.getElem?_eq_some_iff.1 hx).1;have hCb:C c+1 <=2*(ks c).length:=by have h9:=ha1 hY.ok hbo (hS.re i (by rw[<- hRe];exact M7)) c;rw[<- hC1,Y0]at h9;exact h9
    have ul1:=hlm.2 c hcm;refine U68 ?_;refine U527 ?_;refine L.va (R5 (r:=true) (decide_eq_true (by omega)) (gv0 (m:=((n9:Nat):Int)) (k:=((R.nts.length:Nat):Int)) rfl rfl)) ?_;refine U31 ?_;refine U492 ?_;refine U122 ?_;refine U460 ?_;refine U482 ?_;refine L.va (A0 (v:=.int .i64 ((i:Nat):Int)) rfl underlying3 rfl (Ub0 hY.run.mem.nts hx 0 _ rfl)) ?_;refine U122 ?_;refine L.va (R5 (r:=true) (decide_eq_true rfl) (S9 (m:=((i:Nat):Int)) (k:=((i:Nat):Int)) rfl rfl)) ?_;refine L.va (p6 rfl) ?_;refine U33 ?_;refine U59 ?_;refine W.block ?_;refine U0 ?_;refine U360 ?_;refine L.va (C4 rfl) ?_;refine L.va (S5 (i:=n9) rfl rfl underlying42 cp1 hY.run.mem.nts.sl hnl) ?_;refine L.va (B0 rfl underlying63 rfl sz3 (by decide)) ?_;refine L.va (A0 (v:=.int .i64 ((c:Nat):Int)) rfl underlying3 rfl (Ub0 hY.run.mem.nts hx 1 _ rfl)) ?_;refine U5 ?_;refine U0 ?_;refine U283 ?_;refine L.va (A0 (v:=.int .i64 (C c:Nat)) rfl underlying3 rfl (K0.lr0 hC hcm)) ?_;refine L.va (pm0 rfl rfl (by omega)) ?_;refine L.va (S5 (i:=c) rfl rfl underlying37 sz3 (fun _=>rfl) hcm) ?_;refine L.put (b:=b35) (o:=0+c*1) (vs:=[.int .i64 ((C c+1:Nat):Int)]) (arr m fun k=>.int .i64 ((o3 C c (C c+1) k:Nat):Int)) rfl rfl rfl sz3 rfl rfl hC (by rw[T5];omega) (ed0 hcm (by rw[Y0]) (fun j hj=>by rw[Z0 hj])) (fun w A1 hg N2=>?_);have N5:=K0.other N5 hg (K0.ne N5 hC (by decide));have X1:=K0.other X1 hg (K0.ne X1 hC (by decide));have hY:=hY.gz1 hg tu1;have hH:=K0.other hH hg (K0.ne hH hC (by decide));have hb:=M4 hb hb.size hg tt1;have hKs:=ko0.j0 hb;clear hC;have hC:=A1;clear A1 hg N2;refine U134 ?_;refine W.seq ?_;rcases hpp with⟨key,hev,hpz,kn0,N3,hH2⟩|⟨hev,hH2⟩
    ·have hmd:(((C c+1:Nat):Int).tmod 2)=0:=by show((((C c+1)%2:Nat)):Int)=0;omega
     have hq2:(C c+1)/2-1<(ks c).length:=(List.getElem?_eq_some_iff.1 kn0).1;have tv1:IntKind.i64.wrap (((C c+1:Nat):Int).tdiv 2)=(((C c+1)/2:Nat):Int):=by show IntKind.i64.wrap ((((C c+1)/2:Nat)):Int)=_;rw[IntKind.wrap_i64];omega
     have hsb:(((C c+1)/2:Nat):Int)-1=(((C c+1)/2-1:Nat):Int):=by omega
     have hkk:=hkz c key (List.mem_of_getElem? kn0);refine W.region rfl ?_;refine U283 ?_;refine U373 ?_;refine L.va (R5 (r:=true) (decide_eq_true hmd) (S9 (m:=(((C c+1:Nat):Int).tmod 2)) (k:=0) rfl rfl)) ?_;refine U33 ?_;refine U273 ?_;refine D.va (fun w' L1=>(B0 rfl underlying59 rfl co1 (by decide))) ?_;refine D.va (fun w' L1=>(A0 rfl underlying57 rfl ((N5.j0 L1).q0 1 (v:=.slice ka m kc) rfl))) ?_;refine D.va (fun w' L1=>(C4 rfl)) ?_;refine D.va (fun w' L1=>(S5 (i:=c) rfl rfl underlying57 jl1 ko0.sl hcm)) ?_;refine D.va (fun w' L1=>(A0 (v:=.slice (kA c) (ks c).length (kC c)) rfl underlying61 rfl (((hKs.j0 L1)).row c hcm))) ?_;refine D.va (fun w' L1=>(R9 rfl)) ?_;refine D.va (fun w' L1=>(C4 rfl)) ?_;refine D.va (fun w' L1=>(S5 (i:=c) rfl rfl underlying37 sz3 (fun _=>rfl) hcm)) ?_;refine D.va (fun w' L1=>(A0 (v:=.int .i64 ((C c+1:Nat):Int)) rfl underlying3 rfl (by have h9:=K0.lr0 (hC.j0 L1) hcm;rw[Y0]at h9;exact h9))) ?_;refine D.va (fun w' L1=>(tv1▸Bi0 (m:=((C c+1:Nat):Int)) (k:=2) rfl rfl (by decide))) ?_;refine D.va (fun w' L1=>(hsb▸Eq0 (m:=(((C c+1)/2:Nat):Int)) (k:=1) rfl rfl (by omega))) ?_;refine D.va (fun w' L1=>(S5 (i:=(C c+1)/2-1) rfl rfl underlying61 sz9 (ko0.sl2 c hcm) hq2)) ?_;refine D.va (fun w' L1=>(A0 (v:=.string key) rfl underlying9 rfl (((hKs.j0 L1)).str c hcm _ key kn0))) ?_;refine D.va (fun w' L1=>(cz0 (a:=ByteArray.mk #[107]) (b:=key) rfl rfl (by have h9:(ByteArray.mk #[107]).size=1:=rfl;omega))) ?_;refine D.va (fun w' L1=>E7) ?_;refine U38 ?_;intro w O2 hb;have N5:=N5.j0 O2;have X1:=X1.j0 O2;have hY:=hY.j0 O2;have hH:=hH.j0 O2;have hC:=hC.j0 O2;have hKs:=hKs.j0 O2;clear O2;show W _ _ _ _ _ _;refine U6 ?_;refine U53 ?_;refine W.loop (fun k e w=>∃(u:Nat),k=m-u/\e 1= .pointer (some ⟨b1,0,none⟩)/\e 4= .pointer (some ⟨b4,0,none⟩)/\e 7= .slice (some ⟨b31,0,none⟩) m m/\e 8= .slice (some ⟨b35,0,none⟩) m m/\e 9= .int .i64 (n9:Nat)/\e 10= .int .i64 (i:Nat)/\e 11= .int .i64 ((c:Nat):Int)/\e 12= .string (kB++key)/\e 13= .int .i64 (u:Nat)/\u <=m/\Below w0.heap.size w0 w/\K0 w b1 #[.int .i64 n,.slice ka m kc,.slice sa sn scp] 59/\K0 w b4 #[.slice R.ea R.evs.length R.ec,.slice R.na R.nts.length R.nc,.slice (some ⟨R.eb,0,none⟩) R.m R.m,.slice (some ⟨R.wb,0,none⟩) R.m R.m,.bool R.stuck,.int .i64 (R.used:Int)] 45/\o7 p sc sn Bq w R mF r1/\K0 w b31 (arr m fun k=>.string (H k)) 9/\K0 w b35 (arr m fun k=>.int .i64 ((o3 C c (C c+1)) k:Nat)) 3/\ng0 w ka m ks kA kC) _ ⟨0,rfl,rfl,rfl,rfl,rfl,rfl,rfl,rfl,rfl,rfl,Nat.zero_le _,hb,N5,X1,hY,hH,hC,hKs⟩ ?_;rintro k e w ⟨u,hk,s1,s4,s7,s8,s9,s10,s11,s12,s13,hu,hb,N5,X1,hY,hH,hC,hKs⟩;rw[P0 s1,P0 s4,P0 s7,P0 s8,P0 s9,P0 s10,P0 s11,P0 s12,P0 s13];clear s1 s4 s7 s8 s9 s10 s11 s12 s13;refine U14 ?_;refine L.va (R9 rfl) ?_;refine U532 ?_;refine W.w6 rfl (fun h93=>?_) (fun h93=>?_)
     ·have hum:u<m:=by omega
      refine U24 ?_;refine U23 ?_;refine L.va (S5 (i:=u) rfl rfl underlying61 sz9 (fun _=>rfl) hum) ?_;refine L.va (A0 (v:=.string (H u)) rfl underlying9 rfl (K0.lr0 hH hum)) ?_;refine L.va v5 ?_;refine L.va (R5 (r:=false) (decide_eq_false (N3 u)) (Cp0 (a:=H u) (b:=kB++key) rfl rfl)) ?_;refine U225 ?_;refine U74 ?_;exact⟨_,by omega,⟨u+1,rfl,rfl,rfl,rfl,rfl,rfl,rfl,rfl,rfl,rfl,(by omega),hb,N5,X1,hY,hH,hC,hKs⟩⟩
     ·refine W.exit ?_;refine U151 ?_;refine U337 ?_;refine U23 ?_;refine L.va v5 ?_;refine L.va (S5 (i:=c) rfl rfl underlying61 sz9 (fun _=>rfl) hcm) ?_;refine L.put (b:=b31) (o:=0+c*1) (vs:=[.string (kB++key)]) (arr m fun k=>.string (o3 H c (kB++key) k)) rfl rfl rfl sz9 rfl rfl hH (by rw[T5];omega) (ed0 hcm (by rw[Y0]) (fun j hj=>by rw[Z0 hj])) (fun w A1 hg N2=>?_);refine U518 ?_;intro N5 X1;have hY:=hY.gz1 hg pm1;have hC:=K0.other hC hg (K0.ne hC hH (by decide));have hb:=M4 hb hb.size hg pl1;have hKs:=ko0.j0 hb;clear hH;have hH:=A1;clear A1 hg N2;refine U46 ?_;refine U155 ?_;refine U177 ?_;exact U420
    ·have hmd:¬(((C c+1:Nat):Int).tmod 2)=0:=by show ¬((((C c+1)%2:Nat)):Int)=0;omega
     refine W.region rfl ?_;refine U283 ?_;refine U373 ?_;refine L.va (R5 (r:=false) (decide_eq_false hmd) (S9 (m:=(((C c+1:Nat):Int).tmod 2)) (k:=0) rfl rfl)) ?_;refine U85 ?_;refine W.region rfl ?_;refine U155 ?_;refine U177 ?_;exact U420
  ·refine W.exit ?_;refine U21 ?_;refine L.call (kx0  func11 rfl jv1 rfl) (Tk0 _) ?_;rintro _ w ⟨rfl,O2⟩;have hb:=G0 hb O2;exact U144
end Go.Vy.Sc
end
