/- What the claim leans on, part 6. Laws. -/
import Derived.Test.YtinppmaojmdmhaaGreatKE5
import Derived.Conc.LeavingOf
import Derived.JoinedCond
import Derived.Deep.CondSized
set_option linter.unusedVariables false
section
namespace Go.Vy.Sc
open Go Go.Conc Go.Yc Go.RowKit Go.Proofs Go.Proofs.YtinppmaojmdmhaaGreat Tryz
open Go.Vc Go.Wg
def fop (k:ByteArray):List SOp:=[⟨1,0,k⟩,⟨5,0,ByteArray.empty⟩,⟨2,0,ByteArray.empty⟩,⟨5,0,ByteArray.empty⟩,⟨3,0,ByteArray.empty⟩,⟨4,0,ByteArray.empty⟩]
def B4 (ks:List ByteArray):List SOp:=ks.flatMap fop
theorem is0 (ks:List ByteArray):(B4 ks).length=6*ks.length:=by
 induction ks with
 |nil=>rfl
 |cons a ks ih=>unfold B4 at ih⊢;rw[List.flatMap_cons,List.length_append,ih,List.length_cons];show 6+_=_;omega
theorem ye0:∀(t:Nat) (ks:List ByteArray),(B4 ks).drop (6*t)=B4 (ks.drop t)
 |0,ks=>rfl
 |t+1,[]=>by show List.drop _ []=_;rw[List.drop_nil,List.drop_nil];rfl
 |t+1,a::ks=>ye0 t ks
theorem jd0 {ks:List ByteArray} {t:Nat} {k:ByteArray} (h:ks[t]? =some k) (d:Nat):(B4 ks)[6*t+d]? =(fop k++B4 (ks.drop (t+1)))[d]?:=by
 rw[<- List.getElem?_drop,ye0,ee0 h];rfl
section
variable {n t:Nat}{ks:List ByteArray}{has:Nat->Option Nat}{s:E3}{nts:List Nte}{k:ByteArray}{e:Nat}
theorem Dm0 (h:ks[t]? =some k):R6 n ((B4 ks).drop (6*t)) (6*t) has s nts=⟨s,nts,.inl ⟨6*t+1,has,0,L9 n k,k,.S5,0,ke0,[]⟩⟩:=Dc0 (o:=⟨1,0,k⟩) (jd0 h 0) rfl
theorem Dn0 (h:ks[t]? =none):R6 n ((B4 ks).drop (6*t)) (6*t) has s nts=⟨s,nts,.inr 1⟩:=zy0 (by rw[is0];have:=List.getElem?_eq_none_iff.1 h;omega)
theorem ac1 (h:ks[t]? =some k) (hh:has 0=some e):R6 n ((B4 ks).drop (6*t+1)) (6*t+1) has s nts=⟨s,nts ++ [⟨1,ed0 s (some e)⟩],.inl ⟨6*t+3,has,0,0,(gE s e).key,.c5 e,(gE s e).num,ke0,[]⟩⟩:=by
 rw[lr0 (o:=⟨5,0,ByteArray.empty⟩) (jd0 h 1) rfl,Dd0 (o:=⟨2,0,ByteArray.empty⟩) (e:=e) (jd0 h 2) rfl hh];have h0:has (plc ⟨5,0,ByteArray.empty⟩)=some e:=hh;rw[h0]
theorem nq1 (h:ks[t]? =some k) (hh:has 0=some e):R6 n ((B4 ks).drop (6*t+3)) (6*t+3) has s nts=⟨s,nts ++ [⟨1,ed0 s (some e)⟩],.inl ⟨6*t+5,has,0,0,(gE s e).key,.W2 e,(gE s e).num,ke0,[]⟩⟩:=by
 rw[lr0 (o:=⟨5,0,ByteArray.empty⟩) (jd0 h 3) rfl,qy0 (o:=⟨3,0,ByteArray.empty⟩) (e:=e) (jd0 h 4) rfl hh];have h0:has (plc ⟨5,0,ByteArray.empty⟩)=some e:=hh;rw[h0]
theorem nr1 (h:ks[t]? =some k) (hh:has 0=some e):R6 n ((B4 ks).drop (6*t+5)) (6*t+5) has s nts=⟨s,nts,.inl ⟨6*t+6,C3 has 0 none,0,L9 n (gE s e).key,(gE s e).key,.less e,(gE s e).num,ke0,[]⟩⟩ :=
 De0 (o:=⟨4,0,ByteArray.empty⟩) (e:=e) (jd0 h 5) rfl hh
end
def ki0:Ph->Nat
 | .c5 _=>3
 | .W2 _=>5
 | .less _| .ah0 _| .aa0 _| .J1 _| .out _| .m7 _=>6
 |_=>1
def lkE:Ph->Option Nat
 | .c5 e| .W2 e=>some e
 |_=>none
def bo0:Ph->Option Nat
 | .run e| .unl e| .c5 e| .W2 e| .less e=>some e
 |_=>none
def unE:Ph->Option Nat
 | .W2 e=>some e
 |_=>none
def drE:Ph->Option Nat
 | .ah0 e| .aa0 e| .J1 e| .out e=>some e
 |_=>none
def moE:Ph->Option Nat
 | .more e| .r6 e=>some e
 |_=>none
def ouE:Ph->Option Nat
 | .out e=>some e
 |_=>none
def wt:Ph->Nat
 | .S5=>15| .look=>14| .more _=>13| .run _=>12| .en0=>13| .lck=>12| .cc0=>11| .r6 _=>10| .make=>10| .unl _=>9
 | .c5 _=>8| .W2 _=>7
 | .less _=>6| .ah0 _=>5| .aa0 _=>4| .J1 _=>3| .out _=>2| .m7 _=>1
structure FL (ks:List ByteArray) (s:E3) (b:Lb) (t:Nat):Prop where
 key:∃key,ks[t]? =some key/\(go0 b.ph=true->b.q=key/\b.to=0)/\∀e,phE b.ph=some e->(gE s e).key=key
 k:b.k=6*t+ki0 b.ph
 has:∀e,lkE b.ph=some e->b.has 0=some e
def phO:Lb ⊕ Nat->Option Ph
 | .inl b=>some b.ph
 | .inr _=>none
inductive PT (s:E3) (j N:Nat):Ph->Option Ph->Prop
 |S5:PT s j N .S5 (some .look)
 |ns1 (e:Nat) (h:e∈(s.st j).l):PT s j N .look (some (.more e))
 |nt1:PT s j N .look (some .en0)
 |more (e:Nat):PT s j N (.more e) (some (.run e))
 |run (e:Nat):PT s j N (.run e) (some (.c5 e))
 |en0:PT s j N .en0 (some .lck)
 |lck:PT s j N .lck (some .cc0)
 |nu1 (e:Nat) (h:e∈(s.st j).l):PT s j N .cc0 (some (.r6 e))
 |nv1:PT s j N .cc0 (some .make)
 |r6 (e:Nat):PT s j N (.r6 e) (some (.unl e))
 |make:PT s j N .make (some (.unl N))
 |unl (e:Nat):PT s j N (.unl e) (some (.c5 e))
 |c5 (e:Nat):PT s j N (.c5 e) (some (.W2 e))
 |W2 (e:Nat):PT s j N (.W2 e) (some (.less e))
 |ad1 (e:Nat) (h:(gE (H8 s e (-1)) e).J1=0):PT s j N (.less e) (some (.ah0 e))
 |Sp0 (e:Nat) (x:Option Ph) (h:(gE (H8 s e (-1)) e).J1≠0) (hx:x=none\/x=some .S5):PT s j N (.less e) x
 |ah0 (e:Nat):PT s j N (.ah0 e) (some (.aa0 e))
 |nw1 (e:Nat) (h:e∈(s.st j).l):PT s j N (.aa0 e) (some (.J1 e))
 |nx1 (e:Nat) (h:e∉(s.st j).l):PT s j N (.aa0 e) (some (.m7 e))
 |fo1 (e:Nat) (h:(gE s e).J1=0):PT s j N (.J1 e) (some (.out e))
 |fp1 (e:Nat) (h:(gE s e).J1≠0):PT s j N (.J1 e) (some (.m7 e))
 |out (e:Nat):PT s j N (.out e) (some (.m7 e))
 |m7 (e:Nat) (x:Option Ph) (hx:x=none\/x=some .S5):PT s j N (.m7 e) x
def Do0:Ph->Option Nat
 | .run e| .unl e| .c5 e=>some e
 |_=>none
structure FNx (ks:List ByteArray) (s s':E3) (b:Lb) (t:Nat) (o:m6 E3 Lb):Prop where
 pht:PT s b.j s.en.length b.ph (phO o.D2)
 fl:∀b',o.D2= .inl b'->∃t',FL ks s' b' t'/\wt b'.ph+15*(ks.length-t'-1)+1 <=wt b.ph+15*(ks.length-t-1)/\((t'=t/\ki0 b.ph <=ki0 b'.ph)\/(t'=t+1/\b'.ph= .S5/\ki0 b.ph=6))
 jj:∀b' e,o.D2= .inl b'->(moE b'.ph=some e\/ouE b'.ph=some e)->b'.j=b.j
 fin:∀x,o.D2= .inr x->x=1/\ki0 b.ph=6/\t+1=ks.length
 nts:o.nts=match Do0 b.ph with
  |some e=>[⟨1,ed0 s' (some e)⟩]
  |none=>[]
section
variable {n i t:Nat}{ks:List ByteArray}{s s':E3}{b:Lb}
theorem Gj0 (p:Ph):1 <=wt p:=by cases p <;> exact Nat.le_of_ble_eq_true rfl
theorem Gk0 {has:Nat->Option Nat} {k:Nat} (hk:k=6*t+6) (ht:t<ks.length):(R6 n ((B4 ks).drop k) k has s' []).nts=[]/\(((R6 n ((B4 ks).drop k) k has s' []).D2= .inr 1/\t+1=ks.length) \/
  ∃b',(R6 n ((B4 ks).drop k) k has s' []).D2= .inl b'/\b'.ph= .S5/\FL ks s' b' (t+1)/\t+1<ks.length):=by
 obtain rfl:k=6*(t+1):=by omega
 cases h:ks[t+1]? with
 |none=>
  rw[Dn0 h];have:=List.getElem?_eq_none_iff.1 h;exact⟨rfl,.inl ⟨rfl,by omega⟩⟩
 |some key=>
  rw[Dm0 h];exact⟨rfl,.inr ⟨_,rfl,rfl,⟨⟨key,h,fun _=>⟨rfl,rfl⟩,fun e z=>by cases z⟩,rfl,fun e z=>by cases z⟩,(List.getElem?_eq_some_iff.1 h).1⟩⟩
theorem FL.on {p':Ph} {bs':Str} {bk':List ByteArray} {nu':Nat} (h:FL ks s b t) (hg:Grs s s') (ho:ki0 p'=ki0 b.ph) (hi:go0 p'=true->go0 b.ph=true) (he:∀e,phE p'=some e->phE b.ph=some e\/(gE s' e).key=b.q/\go0 b.ph=true) (hL:∀e,phE b.ph=some e->e<s.en.length) (hl:lkE p'=none):FL ks s' {b with ph:=p',bs:=bs',bk:=bk',nu:=nu'} t:=by
 obtain⟨key,h1,h2,h3⟩:=h.key;refine⟨⟨key,h1,fun z=>h2 (hi z),fun e z=>?_⟩,by show b.k=_;rw[h.k];show _=6*t+ki0 p';rw[ho],fun e z=>by have z:lkE p'=some e:=z;rw[hl]at z;cases z⟩;rcases he e z with z2|⟨z2,z3⟩
 ·rw[(hg.same e (hL e z2)).1];exact h3 e z2
 ·rw[z2];exact(h2 z3).1
set_option maxHeartbeats 1000000 in
theorem mv0 (hL:LOk n (B4 ks) i s b) (hF:FL ks s b t):FNx ks s (sT n i b s) b t (u5 n (B4 ks) i b s):=by
 have hg:=qu0 hL;have hE:=hL.e;obtain⟨key,hk1,hk2,hk3⟩:=hF.key;have htl:=(List.getElem?_eq_some_iff.1 hk1).1;obtain⟨k,has,to,j,q,ph,nu,bs,bk⟩:=b;have hkk:=hF.k;have gq0:=hF.has;have simple:∀{p':Ph} {bs':Str} {bk':List ByteArray} {nu':Nat},(u5 n (B4 ks) i ⟨k,has,to,j,q,ph,nu,bs,bk⟩ s).D2= .inl ⟨k,has,to,j,q,p',nu',bs',bk'⟩->(u5 n (B4 ks) i ⟨k,has,to,j,q,ph,nu,bs,bk⟩ s).nts=[]->Do0 ph=none->PT s j s.en.length ph (some p')->ki0 p'=ki0 ph->(go0 p'=true->go0 ph=true)->(∀e,phE p'=some e->phE ph=some e\/(gE (sT n i ⟨k,has,to,j,q,ph,nu,bs,bk⟩ s) e).key=q/\go0 ph=true)->lkE p'=none->wt p'+1 <=wt ph ->
   FNx ks s (sT n i ⟨k,has,to,j,q,ph,nu,bs,bk⟩ s) ⟨k,has,to,j,q,ph,nu,bs,bk⟩ t (u5 n (B4 ks) i ⟨k,has,to,j,q,ph,nu,bs,bk⟩ s):=by
  intro p' bs' bk' nu' h1 h2 h3 h4 h5 h6 h7 h8 h9;refine⟨by rw[h1];exact h4,fun b' z=>?_,fun b' e z _=>?_,fun x z=>?_,by rw[h2];show []=match Do0 ph with|some e=>_|none=>_;rw[h3]⟩
  ·rw[h1]at z;cases z;exact⟨t,hF.on (s':=sT n i ⟨k,has,to,j,q,ph,nu,bs,bk⟩ s) (p':=p') hg h5 h6 h7 hE h8,by show wt p'+_+1 <=wt ph+_;omega,.inl ⟨rfl,by show ki0 ph <=ki0 p';omega⟩⟩
  ·rw[h1]at z;cases z;rfl
  ·rw[h1]at z;cases z
 have round:∀{s1:E3} {hs1:Nat->Option Nat},sT n i ⟨k,has,to,j,q,ph,nu,bs,bk⟩ s=s1->u5 n (B4 ks) i ⟨k,has,to,j,q,ph,nu,bs,bk⟩ s=R6 n ((B4 ks).drop k) k hs1 s1 []->Do0 ph=none->ki0 ph=6->(∀x,(x=none\/x=some .S5)->PT s j s.en.length ph x) ->
   FNx ks s (sT n i ⟨k,has,to,j,q,ph,nu,bs,bk⟩ s) ⟨k,has,to,j,q,ph,nu,bs,bk⟩ t (u5 n (B4 ks) i ⟨k,has,to,j,q,ph,nu,bs,bk⟩ s):=by
  intro s1 hs1 h0 h1 h2 h3 h4;have hk6:k=6*t+6:=by have:k=6*t+ki0 ph:=hkk;omega
  obtain⟨r1,r2⟩:=Gk0 (n:=n) (ks:=ks) (s':=s1) (has:=hs1) hk6 htl;rw[h0,h1];refine⟨?_,fun b' z=>?_,fun b' e z hm=>?_,fun x z=>?_,by rw[r1];show []=match Do0 ph with|some e=>_|none=>_;rw[h2]⟩
  ·rcases r2 with⟨r2,_⟩|⟨b',r2,r3,_⟩
   ·rw[r2];exact h4 _ (.inl rfl)
   ·rw[r2];exact h4 _ (.inr (by show some b'.ph=_;rw[r3]))
  ·rcases r2 with⟨r2,_⟩|⟨b2,r2,r3,r4,r5⟩
   ·rw[r2]at z;cases z
   ·rw[r2]at z;cases z;refine⟨t+1,r4,?_,.inr ⟨rfl,r3,h3⟩⟩;have hw:=Gj0 ph;rw[r3];show 15+15*(ks.length-(t+1)-1)+1 <=wt ph+15*(ks.length-t-1);omega
  ·rcases r2 with⟨r2,_⟩|⟨b2,r2,r3,_⟩
   ·rw[r2]at z;cases z
   ·rw[r2]at z;cases z;rw[r3]at hm;rcases hm with hm|hm <;> cases hm
  ·rcases r2 with⟨r2,r5⟩|⟨b2,r2,_⟩
   ·rw[r2]at z;cases z;exact⟨rfl,h3,r5⟩
   ·rw[r2]at z;cases z
 cases ph with
 |S5=>exact simple (p':=.look) rfl rfl rfl .S5 rfl (fun _=>rfl) (fun e z=>by cases z) rfl (by decide)
 |look=>
  cases hf:bm0 s j q with
  |none=>exact simple (p':=.en0) (by unfold u5;simp only[hf];rfl) (by unfold u5;simp only[hf]) rfl .nt1 rfl (fun _=>rfl) (fun e z=>by cases z) rfl (by decide)
  |some e=>exact simple (p':=.more e) (by unfold u5;simp only[hf];rfl) (by unfold u5;simp only[hf]) rfl (.ns1 e (cj0 hf).1) rfl (fun _=>rfl) (fun e' z=>by cases z;exact .inr ⟨(cj0 hf).2,rfl⟩) rfl (by show 13+1 <=14;decide)
 |more e=>exact simple (p':=.run e) rfl rfl rfl (.more e) rfl (fun _=>rfl) (fun e' z=>.inl z) rfl (by show 12+1 <=13;decide)
 |en0=>exact simple (p':=.lck) rfl rfl rfl .en0 rfl (fun _=>rfl) (fun e z=>by cases z) rfl (by decide)
 |lck=>exact simple (p':=.cc0) rfl rfl rfl .lck rfl (fun _=>rfl) (fun e z=>by cases z) rfl (by decide)
 |cc0=>
  cases hf:bm0 s j q with
  |none=>exact simple (p':=.make) (by unfold u5;simp only[hf];rfl) (by unfold u5;simp only[hf]) rfl .nv1 rfl (fun _=>rfl) (fun e z=>by cases z) rfl (by decide)
  |some e=>exact simple (p':=.r6 e) (by unfold u5;simp only[hf];rfl) (by unfold u5;simp only[hf]) rfl (.nu1 e (cj0 hf).1) rfl (fun _=>rfl) (fun e' z=>by cases z;exact .inr ⟨(cj0 hf).2,rfl⟩) rfl (by show 10+1 <=11;decide)
 |r6 e=>exact simple (p':=.unl e) rfl rfl rfl (.r6 e) rfl (fun _=>rfl) (fun e' z=>.inl z) rfl (by show 9+1 <=10;decide)
 |make=>exact simple (p':=.unl s.en.length) rfl rfl rfl .make rfl (fun _=>rfl) (fun e' z=>by cases z;exact .inr ⟨by show(gE (ak0 n i _ s) s.en.length).key=q;rw[mp0],rfl⟩) rfl (by show 9+1 <=10;decide)
 |ah0 e=>exact simple (p':=.aa0 e) rfl rfl rfl (.ah0 e) rfl (fun z=>by cases z) (fun e' z=>.inl z) rfl (by show 4+1 <=5;decide)
 |aa0 e=>
  by_cases hin:e∈(s.st j).l
  ·exact simple (p':=.J1 e) (by unfold u5;simp only[if_pos hin];rfl) (by unfold u5;simp only[if_pos hin]) rfl (.nw1 e hin) rfl (fun z=>by cases z) (fun e' z=>.inl z) rfl (by show 3+1 <=4;decide)
  ·exact simple (p':=.m7 e) (by unfold u5;simp only[if_neg hin];rfl) (by unfold u5;simp only[if_neg hin]) rfl (.nx1 e hin) rfl (fun z=>by cases z) (fun e' z=>.inl z) rfl (by show 1+1 <=4;decide)
 |J1 e=>
  by_cases hz:(gE s e).J1=0
  ·exact simple (p':=.out e) (by unfold u5;simp only[if_pos hz];rfl) (by unfold u5;simp only[if_pos hz]) rfl (.fo1 e hz) rfl (fun z=>by cases z) (fun e' z=>.inl z) rfl (by show 2+1 <=3;decide)
  ·exact simple (p':=.m7 e) (by unfold u5;simp only[if_neg hz];rfl) (by unfold u5;simp only[if_neg hz]) rfl (.fp1 e hz) rfl (fun z=>by cases z) (fun e' z=>.inl z) rfl (by show 1+1 <=3;decide)
 |out e=>exact simple (p':=.m7 e) rfl rfl rfl (.out e) rfl (fun z=>by cases z) (fun e' z=>.inl z) rfl (by show 1+1 <=2;decide)
 |m7 e=>exact round rfl rfl rfl rfl fun x hx=>.m7 e x hx
 |less e=>
  by_cases hz:(gE (H8 s e (-1)) e).J1=0
  ·exact simple (p':=.ah0 e) (by unfold u5;simp only[if_pos hz];rfl) (by unfold u5;simp only[if_pos hz]) rfl (.ad1 e hz) rfl (fun z=>by cases z) (fun e' z=>.inl z) rfl (by show 5+1 <=6;decide)
  ·exact round (s1:=H8 s e (-1)) (hs1:=has) rfl (by unfold u5;simp only[if_neg hz]) rfl rfl fun x hx=>.Sp0 e x hz hx
 |run e=>
  have hto:to=0:=(hk2 rfl).2;have hk:k=6*t+1:=hkk;have z:=ac1 (n:=n) (has:=C3 has to (some e)) (s:=S6 s j {s.st j with A5:=(s.st j).A5-1}) (nts:=[]) (e:=e) hk1 (by rw[hto];exact Z0);rw[<- hk]at z;have h1:u5 n (B4 ks) i ⟨k,has,to,j,q,.run e,nu,bs,bk⟩ s=_:=z;rw[h1];refine⟨.run e,fun b' z=>?_,fun b' e' z hm=>?_,(fun x z=>by cases z),rfl⟩
  ·cases z;exact⟨t,⟨⟨key,hk1,(fun z=>by cases z),fun e' z=>by cases z;exact hk3 e rfl⟩,rfl,fun e' z=>by cases z;show C3 has to (some e) 0=_;rw[hto,Z0]⟩,by show 8+_+1 <=12+_;omega,.inl ⟨rfl,by show 1 <=3;decide⟩⟩
  ·cases z;rcases hm with hm|hm <;> cases hm
 |unl e=>
  have hto:to=0:=(hk2 rfl).2;have hk:k=6*t+1:=hkk;have z:=ac1 (n:=n) (has:=C3 has to (some e)) (s:=S6 s j {s.st j with held:=false}) (nts:=[]) (e:=e) hk1 (by rw[hto];exact Z0);rw[<- hk]at z;have h1:u5 n (B4 ks) i ⟨k,has,to,j,q,.unl e,nu,bs,bk⟩ s=_:=z;rw[h1];refine⟨.unl e,fun b' z=>?_,fun b' e' z hm=>?_,(fun x z=>by cases z),rfl⟩
  ·cases z;exact⟨t,⟨⟨key,hk1,(fun z=>by cases z),fun e' z=>by cases z;exact hk3 e rfl⟩,rfl,fun e' z=>by cases z;show C3 has to (some e) 0=_;rw[hto,Z0]⟩,by show 8+_+1 <=9+_;omega,.inl ⟨rfl,by show 1 <=3;decide⟩⟩
  ·cases z;rcases hm with hm|hm <;> cases hm
 |c5 e=>
  have hh:=gq0 e rfl;have hk:k=6*t+3:=hkk;have hke:(gE (D8 s e {gE s e with held:=true}) e).key=key:=(hg.same e (hE e rfl)).1.trans (hk3 e rfl);have z:=nq1 (n:=n) (has:=has) (s:=D8 s e {gE s e with held:=true}) (nts:=[]) (e:=e) hk1 hh;rw[<- hk]at z;have h1:u5 n (B4 ks) i ⟨k,has,to,j,q,.c5 e,nu,bs,bk⟩ s=_:=z;rw[h1];refine⟨.c5 e,fun b' z=>?_,fun b' e' z hm=>?_,(fun x z=>by cases z),rfl⟩
  ·cases z;exact⟨t,⟨⟨key,hk1,(fun z=>by cases z),fun e' z=>by cases z;exact hke⟩,rfl,fun e' z=>by cases z;exact hh⟩,by show 7+_+1 <=8+_;omega,.inl ⟨rfl,by show 3 <=5;decide⟩⟩
  ·cases z;rcases hm with hm|hm <;> cases hm
 |W2 e=>
  have hh:=gq0 e rfl;have hk:k=6*t+5:=hkk;have hke:(gE (D8 s e {gE s e with held:=false}) e).key=key:=(hg.same e (hE e rfl)).1.trans (hk3 e rfl);have z:=nr1 (n:=n) (has:=has) (s:=D8 s e {gE s e with held:=false}) (nts:=[]) (e:=e) hk1 hh;rw[<- hk]at z;have h1:u5 n (B4 ks) i ⟨k,has,to,j,q,.W2 e,nu,bs,bk⟩ s=_:=z;rw[h1];refine⟨.W2 e,fun b' z=>?_,fun b' e' z hm=>?_,(fun x z=>by cases z),rfl⟩
  ·cases z;exact⟨t,⟨⟨key,hk1,(fun z=>by cases z),fun e' z=>by cases z;exact hke⟩,rfl,fun e' z=>by cases z⟩,by show 6+_+1 <=7+_;omega,.inl ⟨rfl,by show 5 <=6;decide⟩⟩
  ·cases z;rcases hm with hm|hm <;> cases hm
end
def isP (E:Ph->Option Nat) (e:Nat) (f:Lb ⊕ Nat):Bool:=decide ((phO f).bind E=some e)
section
variable {n i:Nat}{s:E3}{b:Lb}
theorem Sq0 (n i:Nat) (b:Lb) (s:E3):(sT n i b s).en.length=match b.ph with
  | .make=>s.en.length+1
  |_=>s.en.length:=by
 obtain⟨k,has,to,j,q,ph,nu,bs,bk⟩:=b;cases ph with
 |make=>show(s.en ++ [_]).length=_;rw[List.length_append];rfl
 |more e=>exact List.length_set ..
 |r6 e=>exact List.length_set ..
 |less e=>exact List.length_set ..
 |c5 e=>exact List.length_set ..
 |W2 e=>exact List.length_set ..
 |_=>rfl
theorem fq1 (hE:∀e,phE b.ph=some e->e<s.en.length) {e:Nat} (he:e<(sT n i b s).en.length):(gE (sT n i b s) e).J1=match b.ph with
  | .more e0| .r6 e0=>if e=e0 then IntKind.i64.wrap ((gE s e0).J1+1) else(gE s e).J1
  | .less e0=>if e=e0 then IntKind.i64.wrap ((gE s e0).J1 + -1) else(gE s e).J1
  | .make=>if e=s.en.length then 1 else(gE s e).J1
  |_=>(gE s e).J1:=by
 rw[Sq0]at he;obtain⟨k,has,to,j,q,ph,nu,bs,bk⟩:=b;have key:∀e0 x,e0<s.en.length->(gE (D8 s e0 x) e).J1=if e=e0 then x.J1 else(gE s e).J1:=fun e0 x h=>by
  rw[ep0 h];split <;> rfl
 cases ph with
 |more e0=>exact key e0 _ (hE e0 rfl)
 |r6 e0=>exact key e0 _ (hE e0 rfl)
 |less e0=>exact key e0 _ (hE e0 rfl)
 |c5 e0=>refine(key e0 _ (hE e0 rfl)).trans ?_;show(if e=e0 then(gE s e0).J1 else _)=(gE s e).J1;split;rename_i h;rw[h];rfl
 |W2 e0=>refine(key e0 _ (hE e0 rfl)).trans ?_;show(if e=e0 then(gE s e0).J1 else _)=(gE s e).J1;split;rename_i h;rw[h];rfl
 |make=>
  have he:e<s.en.length+1:=he;show(gE (ak0 n i _ s) e).J1=if e=s.en.length then 1 else(gE s e).J1
  by_cases h:e=s.en.length
  ·rw[if_pos h,h,mp0]
  ·rw[if_neg h,zp0 (by omega)]
 |_=>rfl
theorem ny1 (hE:∀e,phE b.ph=some e->e<s.en.length) {e:Nat} (he:e<(sT n i b s).en.length):(gE (sT n i b s) e).held=match b.ph with
  | .c5 e0=>if e=e0 then true else(gE s e).held
  | .W2 e0=>if e=e0 then false else(gE s e).held
  | .make=>if e=s.en.length then false else(gE s e).held
  |_=>(gE s e).held:=by
 rw[Sq0]at he;obtain⟨k,has,to,j,q,ph,nu,bs,bk⟩:=b;have key:∀e0 x,e0<s.en.length->(gE (D8 s e0 x) e).held=if e=e0 then x.held else(gE s e).held:=fun e0 x h=>by
  rw[ep0 h];split <;> rfl
 have same:∀e0 d,e0<s.en.length->(gE (H8 s e0 d) e).held=(gE s e).held:=fun e0 d h=>by
  refine(key e0 _ h).trans ?_;show(if e=e0 then(gE s e0).held else _)=(gE s e).held;split;rename_i h;rw[h];rfl
 cases ph with
 |more e0=>exact same e0 _ (hE e0 rfl)
 |r6 e0=>exact same e0 _ (hE e0 rfl)
 |less e0=>exact same e0 _ (hE e0 rfl)
 |c5 e0=>exact key e0 _ (hE e0 rfl)
 |W2 e0=>exact key e0 _ (hE e0 rfl)
 |make=>
  have he:e<s.en.length+1:=he;show(gE (ak0 n i _ s) e).held=if e=s.en.length then false else(gE s e).held
  by_cases h:e=s.en.length
  ·rw[if_pos h,h,mp0]
  ·rw[if_neg h,zp0 (by omega)]
 |_=>rfl
theorem lT (n i:Nat) (b:Lb) (s:E3) (j:Nat):((sT n i b s).st j).l=if j=b.j then(match b.ph with
  | .make=>(s.st b.j).l ++ [s.en.length]
  | .out e0=>(s.st b.j).l.filter fun x=>decide (x≠e0)
  |_=>(s.st b.j).l) else(s.st j).l:=by
 by_cases h:j=b.j
 ·subst h;rw[if_pos rfl];obtain⟨k,has,to,j,q,ph,nu,bs,bk⟩:=b;cases ph <;> first
   |rfl
   |(simp[sT,S6,ak0,zo0,Z0];done)
 ·rw[if_neg h,Cm0 h]
end
structure FOk (n m:Nat) (ks:Nat->List ByteArray) (s:E3) (ft:List (Lb ⊕ Nat)):Prop where
 tok:TOk n m (fun i=>B4 (ks i)) s ft
 fl:∀i b,ft[i]? =some (.inl b)->∃t,FL (ks i) s b t
 us:∀e,e<s.en.length->(gE s e).J1=(ft.countP (isP bo0 e):Nat)
 inn:∀e,e<s.en.length->0<(gE s e).J1->e∈(s.st (L9 n (gE s e).key)).l
 mo:∀(i:Nat) (b:Lb) (e:Nat),ft[i]? =some (.inl b)->moE b.ph=some e->e∈(s.st b.j).l
 ou:∀(i:Nat) (b:Lb) (e:Nat),ft[i]? =some (.inl b)->ouE b.ph=some e->(gE s e).J1=0
 hd:∀e,e<s.en.length->ft.countP (isP unE e)=if(gE s e).held=true then 1 else 0
 k2:∀j e,e∈(s.st j).l->L9 n (gE s e).key=j
 dr:∀e,e<s.en.length->(gE s e).J1=0->e∈(s.st (L9 n (gE s e).key)).l->0<ft.countP (isP drE e)
section
variable {n m i:Nat}{ks:Nat->List ByteArray}{s:E3}{ft:List (Lb ⊕ Nat)}{b:Lb}
theorem FOk.start:FOk n m ks ji0 [] :=
 ⟨TOk.start,(fun i b h=>by cases h),fun e h=>absurd h (Nat.not_lt_zero _),fun e h=>absurd h (Nat.not_lt_zero _),(fun i b e h=>by cases h),(fun i b e h=>by cases h),fun e h=>absurd h (Nat.not_lt_zero _),(fun j e h=>by cases h),fun e h=>absurd h (Nat.not_lt_zero _)⟩
theorem Ik0 {E:Ph->Option Nat} {e:Nat} (hb:ft[i]? =some (.inl b)) (h:E b.ph=some e):0<ft.countP (isP E e) :=
 List.countP_pos_iff.2 ⟨_,List.mem_of_getElem? hb,by unfold isP;simp[phO,h]⟩
theorem FOk.beg (h:FOk n m ks s ft) (hn:0<n):FOk n m ks s (ft ++ [(R6 n (B4 (ks ft.length)) 0 (fun _=>none) s []).D2]):=by
 have hf:(R6 n (B4 (ks ft.length)) 0 (fun _=>none) s []).D2= .inr 1\/∃b,(R6 n (B4 (ks ft.length)) 0 (fun _=>none) s []).D2= .inl b/\b.ph= .S5/\FL (ks ft.length) s b 0:=by
  cases hk:(ks ft.length)[0]? with
  |none=>exact .inl (by have:=Dn0 (n:=n) (t:=0) (has:=fun _=>none) (s:=s) (nts:=[]) hk;exact congrArg (·.D2) this)
  |some key=>
   have:=Dm0 (n:=n) (t:=0) (has:=fun _=>none) (s:=s) (nts:=[]) hk;exact .inr ⟨_,congrArg (·.D2) this,rfl,⟨⟨key,hk,fun _=>⟨rfl,rfl⟩,fun e z=>by cases z⟩,rfl,fun e z=>by cases z⟩⟩
 have hT:=h.tok.beg hn;have hT:TOk n m (fun i=>B4 (ks i)) s (ft ++ [(R6 n (B4 (ks ft.length)) 0 (fun _=>none) s []).D2]):=hT;revert hT;generalize (R6 n (B4 (ks ft.length)) 0 (fun _=>none) s []).D2=f at hf;intro hT;have hno:∀(E:Ph->Option Nat) e,E .S5=none->(ft ++ [f]).countP (isP E e)=ft.countP (isP E e):=fun E e hE=>by
  rw[List.countP_append];have:[f].countP (isP E e)=0:=by
   rcases hf with rfl|⟨b,rfl,hp,_⟩
   ·rfl
   ·simp[isP,phO,hp,hE]
  omega
 have hold:∀i b,(ft ++ [f])[i]? =some (.inl b)->ft[i]? =some (.inl b)\/(i=ft.length/\b.ph= .S5/\FL (ks ft.length) s b 0):=fun i b hb=>by
  rcases Z9 hb with z|⟨hi,z⟩
  ·exact .inl z
  ·rcases hf with rfl|⟨b',rfl,hp,hF⟩
   ·cases z
   ·cases z;exact .inr ⟨hi,hp,hF⟩
 refine⟨hT,fun i b hb=>?_,fun e he=>by rw[hno _ _ rfl];exact h.us e he,h.inn,fun i b e hb z=>?_,fun i b e hb z=>?_,fun e he=>by rw[hno _ _ rfl];exact h.hd e he,h.k2,fun e he h1 h2=>by rw[hno _ _ rfl];exact h.dr e he h1 h2⟩
 ·rcases hold i b hb with z|⟨rfl,_,hF⟩
  ·exact h.fl i b z
  ·exact⟨0,hF⟩
 ·rcases hold i b hb with y|⟨_,hp,_⟩
  ·exact h.mo i b e y z
  ·rw[hp]at z;cases z
 ·rcases hold i b hb with y|⟨_,hp,_⟩
  ·exact h.ou i b e y z
  ·rw[hp]at z;cases z
theorem Xn0 {p:Ph} {e:Nat} (h:bo0 p=some e):phE p=some e:=by cases p <;> first|exact h|cases h
theorem fr1 {p:Ph} {e:Nat} (h:unE p=some e):phE p=some e:=by cases p <;> first|exact h|cases h
theorem fs1 {p:Ph} {e:Nat} (h:ouE p=some e):phE p=some e:=by cases p <;> first|exact h|cases h
theorem FOk.Sr0 (h:FOk n m ks s ft) {E:Ph->Option Nat} (hE:∀{p e},E p=some e->phE p=some e) {e:Nat} (he:s.en.length <=e):ft.countP (isP E e)=0:=by
 refine List.countP_eq_zero.2 fun f hf hp=>?_;obtain⟨i,hi⟩:=List.mem_iff_getElem?.1 hf;unfold isP at hp;cases f with
 |inr x=>cases of_decide_eq_true hp
 |inl b=>
  have hp:E b.ph=some e:=of_decide_eq_true hp;have:=(h.tok.R3 i b hi).e e (hE hp);omega
theorem ae1 {c:Nat} (h:c <=16):IntKind.i64.wrap ((c:Int)+1)=((c+1:Nat):Int):=by rw[IntKind.wrap_i64];omega
theorem af1 {c:Nat} (h:c <=16) (h0:0<c):IntKind.i64.wrap ((c:Int) + -1)=((c-1:Nat):Int):=by rw[IntKind.wrap_i64];omega
set_option maxHeartbeats 4000000 in
theorem FOk.K5 (h:FOk n m ks s ft) (hn:0<n) (him:i<m) (hl:ft.length <=16) (hb:ft[i]? =some (.inl b)) (hr:N6 b s=true):FOk n m ks (u5 n (B4 (ks i)) i b s).s (ft.set i (u5 n (B4 (ks i)) i b s).D2):=by
 have hT:=h.tok.K5 hn him hb hr;have hT:TOk n m (fun i=>B4 (ks i)) (u5 n (B4 (ks i)) i b s).s (ft.set i (u5 n (B4 (ks i)) i b s).D2):=hT;obtain⟨t,hF⟩:=h.fl i b hb;have hL:LOk n (B4 (ks i)) i s b:=h.tok.R3 i b hb;have hX:=mv0 hL hF;have hg:=qu0 hL;have hE:=hL.e;have hlen:=(List.getElem?_eq_some_iff.1 hb).1;have hle:=Sq0 n i b s;rw[xx0]at hT⊢;revert hT hX;generalize hfo:u5 n (B4 (ks i)) i b s=o;intro hT hX;have hc:∀(E:Ph->Option Nat) e,(ft.set i o.D2).countP (isP E e)+(if E b.ph=some e then 1 else 0)=ft.countP (isP E e)+(if(phO o.D2).bind E=some e then 1 else 0):=fun E e=>by
  have h1:=oo0 (isP E e) (b:=o.D2) hb;have e1:isP E e (.inl b)=decide (E b.ph=some e):=rfl;have e2:isP E e o.D2=decide ((phO o.D2).bind E=some e):=rfl;rw[e1,e2]at h1;simpa using h1
 have p7:∀E e,ft.countP (isP E e) <=16:=fun E e=>Nat.le_trans List.countP_le_length hl;have hpt:=hX.pht;have hU:=fun e he=>fq1 (n:=n) (i:=i) (b:=b) (s:=s) hE (e:=e) he;have hH:=fun e he=>ny1 (n:=n) (i:=i) (b:=b) (s:=s) hE (e:=e) he;have hLt:=lT n i b s;have Dp0:∀e,e<s.en.length->(gE (sT n i b s) e).key=(gE s e).key:=fun e he=>(hg.same e he).1;have E1:b.ph= .make->(gE (sT n i b s) s.en.length).key=b.q/\b.j=L9 n b.q:=fun hp=>by
  refine⟨?_,hL.st (by rw[hp];rfl)⟩;have:sT n i b s=ak0 n i b s:=by unfold sT;rw[hp]
  rw[this,mp0]
 have rq0:∀i' b',(ft.set i o.D2)[i']? =some (.inl b')->(i'≠i/\ft[i']? =some (.inl b'))\/(i'=i/\o.D2= .inl b'):=fun i' b' o7=>by
  by_cases e:i'=i
  ·subst e;rw[List.getElem?_set_self hlen]at o7;exact .inr ⟨rfl,Option.some.inj o7⟩
  ·rw[List.getElem?_set_ne (Ne.symm e)]at o7;exact .inl ⟨e,o7⟩
 have jn0:∀e,bo0 b.ph=some e->0<ft.countP (isP bo0 e):=fun e he=>Ik0 hb he;have Bq0:∀e,e<s.en.length->e<(sT n i b s).en.length:=fun e he=>Nat.lt_of_lt_of_le he hg.len;have Aa0:∀e,e<(sT n i b s).en.length->e<s.en.length\/(b.ph= .make/\e=s.en.length):=fun e he=>by
  rw[hle]at he;revert he;cases hp:b.ph <;> intro he <;> first
   |exact .inl he
   |exact(Nat.lt_or_eq_of_le (Nat.le_of_lt_succ he)).imp id fun z=>⟨rfl,z⟩
 have hus:∀e,e<(sT n i b s).en.length->(gE (sT n i b s) e).J1=((ft.set i o.D2).countP (isP bo0 e):Nat):=fun e he=>by
  have h1:=hU e he;have h2:=hc bo0 e;have h3:=p7 bo0 e;have h4:=jn0 e;have h5:e<s.en.length->(gE s e).J1=(ft.countP (isP bo0 e):Nat):=h.us e;have h6:s.en.length <=e->ft.countP (isP bo0 e)=0:=fun z=>h.Sr0 Xn0 z;have h8:=Aa0 e he;rw[h1];clear h1;generalize (ft.set i o.D2).countP (isP bo0 e)=c' at h2⊢;generalize ft.countP (isP bo0 e)=c at *;generalize phO o.D2=x at hpt h2;have h9:∀e0:Nat,e0=e->e<s.en.length->(gE s e0).J1=c:=fun e0 z1 z2=>by rw[z1];exact h5 z2
  cases hp:b.ph <;> rw[hp]at hpt h2 h4 h8 <;> cases hpt
  all_goals try dsimp only
  all_goals simp only[bo0,Option.bind_some,Option.some.injEq,reduceCtorEq,if_false,Nat.add_zero]at h2 h4
  case make=>
   rcases h8 with z|⟨_,z⟩
   ·show(if e=s.en.length then(1:Int) else(gE s e).J1)=_;rw[if_neg (show ¬e=s.en.length by omega),h5 z];rw[if_neg (show ¬s.en.length=e by omega)]at h2;omega
   ·show(if e=s.en.length then(1:Int) else(gE s e).J1)=_;rw[if_pos z];rw[if_pos z.symm]at h2;have:=h6 (by omega);omega
  all_goals have I1:e<s.en.length:=h8.elim id fun z=>by cases z.1
  case more e0=>
   by_cases z:e=e0
   ·rw[if_pos z,h9 e0 z.symm I1,ae1 h3];rw[if_pos z.symm]at h2;omega
   ·rw[if_neg z,h5 I1];rw[if_neg (Ne.symm z)]at h2;omega
  case r6 e0=>
   by_cases z:e=e0
   ·rw[if_pos z,h9 e0 z.symm I1,ae1 h3];rw[if_pos z.symm]at h2;omega
   ·rw[if_neg z,h5 I1];rw[if_neg (Ne.symm z)]at h2;omega
  case less.ad1 e0 hz=>
   by_cases z:e=e0
   ·have:=h4 z.symm;rw[if_pos z,h9 e0 z.symm I1,af1 h3 this];rw[if_pos z.symm]at h2;omega
   ·rw[if_neg z,h5 I1];rw[if_neg (Ne.symm z)]at h2;omega
  case less.Sp0 e0 hz hx=>
   have hxx:¬(x.bind bo0=some e):=by rcases hx with rfl|rfl <;> simp[bo0]
   rw[if_neg hxx]at h2;by_cases z:e=e0
   ·have:=h4 z.symm;rw[if_pos z,h9 e0 z.symm I1,af1 h3 this];rw[if_pos z.symm]at h2;omega
   ·rw[if_neg z,h5 I1];rw[if_neg (Ne.symm z)]at h2;omega
  case m7.m7 e0 hx=>
   have hxx:¬(x.bind bo0=some e):=by rcases hx with rfl|rfl <;> simp[bo0]
   rw[if_neg hxx]at h2;show(gE s e).J1=_;rw[h5 I1];omega
  all_goals
   show(gE s e).J1=_;rw[h5 I1]
   first
    |omega
    |(split at h2 <;> omega)
 have hq:∀e,Cl0 b.ph=some e->b.j=L9 n (gE s e).key:=fun e z=>by have:=hL.q e z;rw[this.2,this.1]
 have nz1:∀(i':Nat) (b':Lb),i'≠i->ft[i']? =some (.inl b')->eo0 b.ph=true->b'.j=b.j->mo0 b'.ph=false/\eo0 b'.ph=false:=fun i' b' X3 o7 hw hj=>by
  have h1:=h.tok.gp0 hb hw;have h2:=h.tok.ex _ h1;constructor
  ·cases hr':mo0 b'.ph with
   |false=>rfl
   |true=>have:=h.tok.Fw0 o7 hr';rw[hj,h2]at this;exact absurd this (by decide)
  ·cases L1:eo0 b'.ph with
   |false=>rfl
   |true=>exact absurd (h.tok.Fx0 o7 hb L1 hw hj) X3
 have hin:∀j e,e∈(s.st j).l->b.ph≠.out e->e∈((sT n i b s).st j).l:=fun j e he X3=>by
  rw[hLt];by_cases z:j=b.j
  ·rw[if_pos z];rw[z]at he;cases hp:b.ph <;> first
    |exact he
    |exact List.mem_append_left _ he
    |(refine List.mem_filter.2 ⟨he,?_⟩;rw[hp]at X3;exact decide_eq_true fun w=>X3 (by rw[w]))
  ·rw[if_neg z];exact he
 have gj0:∀j e,e∈((sT n i b s).st j).l->(e∈(s.st j).l/\b.ph≠.out e\/e∈(s.st j).l/\j≠b.j)\/(b.ph= .make/\e=s.en.length/\j=b.j):=fun j e he=>by
  rw[hLt]at he;by_cases z:j=b.j
  ·rw[if_pos z]at he;subst z;cases hp:b.ph with
   |make=>
    rw[hp]at he;rcases List.mem_append.1 he with y|y
    ·exact .inl (.inl ⟨y,by intro w;cases w⟩)
    ·exact .inr ⟨rfl,List.mem_singleton.1 y,rfl⟩
   |out e0=>
    rw[hp]at he;obtain⟨y1,y2⟩:=List.mem_filter.1 he;exact .inl (.inl ⟨y1,by intro w;injection w with w;exact of_decide_eq_true y2 w.symm⟩)
   |_=>
    rw[hp]at he;exact .inl (.inl ⟨he,by intro w;cases w⟩)
  ·rw[if_neg z]at he;exact .inl (.inr ⟨he,z⟩)
 have hk2:∀j e,e∈((sT n i b s).st j).l->L9 n (gE (sT n i b s) e).key=j:=fun j e he=>by
  rcases gj0 j e he with(⟨y,_⟩|⟨y,_⟩)|⟨hp,rfl,hj⟩
  ·rw[Dp0 e (h.tok.so.l _ _ y)];exact h.k2 j e y
  ·rw[Dp0 e (h.tok.so.l _ _ y)];exact h.k2 j e y
  ·rw[(E1 hp).1,hj,(E1 hp).2]
 have ra0:∀e,e<s.en.length->bo0 b.ph≠some e->moE b.ph≠some e->(gE (sT n i b s) e).J1=(gE s e).J1:=fun e he h1 h2=>by
  rw[hU e (Bq0 e he)];revert h1 h2;cases hp:b.ph <;> intro h1 h2 <;> first
   |rfl
   |exact if_neg fun z=>h2 (by rw[z];rfl)
   |exact if_neg fun z=>h1 (by rw[z];rfl)
   |exact if_neg (by omega)
 refine⟨hT,fun i' b' o7=>?_,hus,fun e he hu=>?_,fun i' b' e o7 hm=>?_,fun i' b' e o7 hm=>?_,fun e he=>?_,hk2,fun e he hu hl2=>?_⟩
 ·rcases rq0 i' b' o7 with⟨_,z⟩|⟨rfl,z⟩
  ·obtain⟨t',⟨key,k1,k2',k3⟩,k4,k5⟩:=h.fl i' b' z;have hE':=(h.tok.R3 i' b' z).e;exact⟨t',⟨⟨key,k1,k2',fun e y=>(Dp0 e (hE' e y)).trans (k3 e y)⟩,k4,k5⟩⟩
  ·obtain⟨t',k1,_⟩:=hX.fl b' z;exact⟨t',k1⟩
 ·rcases Aa0 e he with I1|⟨hp,rfl⟩
  ·rw[Dp0 e I1];have hno:b.ph≠.out e:=fun hp=>by
    have h1:=h.ou i b e hb (by rw[hp];rfl);rw[ra0 e I1 (by rw[hp];simp[bo0]) (by rw[hp];simp[moE]),h1]at hu;exact absurd hu (by decide)
   refine hin _ e ?_ hno;by_cases hm:moE b.ph=some e
   ·have h1:=h.mo i b e hb hm;rw[h.k2 _ _ h1];exact h1
   ·refine h.inn e I1 ?_;by_cases hue:bo0 b.ph=some e
    ·rw[h.us e I1];have:=jn0 e hue;omega
    ·rw[ra0 e I1 hue hm]at hu;exact hu
  ·rw[(E1 hp).1,<- (E1 hp).2,hLt,if_pos rfl,hp];exact List.mem_append_right _ (List.mem_singleton.2 rfl)
 ·rcases rq0 i' b' o7 with⟨X3,z⟩|⟨rfl,z⟩
  ·have h1:=h.mo i' b' e z hm;refine hin _ e h1 fun hp=>?_;have h2:=hq e (by rw[hp];rfl);rw[h.k2 _ _ h1]at h2;have h3:=nz1 i' b' X3 z (by rw[hp];rfl) h2.symm;revert hm h3;cases b'.ph <;> intro hm h3 <;> first
    |(cases hm;done)
    |(have y:true=false:=h3.1;cases y)
    |(have y:true=false:=h3.2;cases y)
  ·have hj:=hX.jj b' e z (.inl hm);have mw0:=hpt;rw[z]at mw0;have mw0:PT s b.j s.en.length b.ph (some b'.ph):=mw0;have key:e∈(s.st b.j).l/\b.ph≠.out e:=by
    revert hm;generalize b'.ph=p' at mw0;intro hm;cases hpb:b.ph <;> rw[hpb]at mw0 <;> cases mw0 <;> first
     |(cases hm;done)
     |(cases hm;exact⟨by assumption,by simp⟩)
     |(rename_i hx;rcases hx with hx|hx <;> cases hx <;> cases hm;done)
   rw[hj];exact hin _ e key.1 key.2
 ·rcases rq0 i' b' o7 with⟨X3,z⟩|⟨rfl,z⟩
  ·have h1:=h.ou i' b' e z hm;have I1:=(h.tok.R3 i' b' z).e e (fs1 hm);have L1:eo0 b'.ph=true:=by revert hm;cases b'.ph <;> intro hm <;> first|rfl|cases hm
   have u9:b'.j=L9 n (gE s e).key:=by
    have:=(h.tok.R3 i' b' z).q e (by revert hm;cases b'.ph <;> intro hm <;> first|exact hm|cases hm);rw[this.2,this.1]
   rw[ra0 e I1 (fun hue=>?_) (fun hme=>?_)]
   ·exact h1
   ·have:=jn0 e hue;rw[h.us e I1]at h1;omega
   ·have h2:=h.mo i b e hb hme;have h3:b'.j=b.j:=u9.trans (h.k2 _ _ h2);have h4:=h.tok.gp0 z L1;rw[h3]at h4;by_cases hr':mo0 b.ph=true
    ·have h5:=h.tok.Fw0 hb hr';have h6:=h.tok.ex _ h4;omega
    ·have hw:eo0 b.ph=true:=by revert hme hr';cases b.ph <;> intro hme hr' <;> first|rfl|(exact absurd rfl hr')|cases hme
     exact X3 (h.tok.Fx0 z hb L1 hw h3)
  ·have mw0:=hpt;rw[z]at mw0;have mw0:PT s b.j s.en.length b.ph (some b'.ph):=mw0;have key:(gE s e).J1=0/\b.ph= .J1 e:=by
    revert hm;generalize b'.ph=p' at mw0;intro hm;cases hpb:b.ph <;> rw[hpb]at mw0 <;> cases mw0 <;> first
     |(cases hm;done)
     |(cases hm;exact⟨by assumption,rfl⟩)
     |(rename_i hx;rcases hx with hx|hx <;> cases hx <;> cases hm;done)
   rw[ra0 e (hE e (by rw[key.2];rfl)) (by rw[key.2];simp[bo0]) (by rw[key.2];simp[moE])];exact key.1
 ·have h1:=hH e he;have h2:=hc unE e;have h5:e<s.en.length->ft.countP (isP unE e)=if(gE s e).held=true then 1 else 0:=h.hd e
  have h6:s.en.length <=e->ft.countP (isP unE e)=0:=fun z=>h.Sr0 fr1 z;have h8:=Aa0 e he;have h4:unE b.ph=some e->0<ft.countP (isP unE e):=fun z=>Ik0 hb z;have h7:=hr;unfold N6 at h7;generalize (gE (sT n i b s) e).held=g at h1⊢;generalize (ft.set i o.D2).countP (isP unE e)=c' at h2⊢;generalize ft.countP (isP unE e)=c at *;generalize phO o.D2=x at hpt h2;cases hp:b.ph <;> rw[hp]at hpt h2 h4 h8 h7 h1 <;> cases hpt
  all_goals try dsimp only at h7 h1
  all_goals simp only[unE,Option.bind_some,Option.some.injEq,reduceCtorEq,if_false,Nat.add_zero]at h2 h4
  case make=>
   rcases h8 with z|⟨_,z⟩
   ·rw[if_neg (show ¬e=s.en.length by omega)]at h1;rw[h1,<- h5 z];omega
   ·rw[if_pos z]at h1;rw[h1];have:=h6 (by omega);simp;omega
  all_goals have I1:e<s.en.length:=h8.elim id fun z=>by cases z.1
  all_goals have h9:=h5 I1
  case c5 e0=>
   have h7:(gE s e0).held=false:=by simpa using h7
   by_cases z:e=e0
   ·subst z;rw[if_pos rfl]at h1 h2;rw[h7]at h9;rw[h1];simp at h9⊢;omega
   ·rw[if_neg z]at h1;rw[if_neg (Ne.symm z)]at h2;rw[h1,<- h9];omega
  case W2 e0=>
   by_cases z:e=e0
   ·subst z;have h10:=h4 rfl;rw[if_pos rfl]at h1 h2;rw[h1];simp;split at h9 <;> omega
   ·rw[if_neg z]at h1;rw[if_neg (Ne.symm z)]at h2;rw[h1,<- h9];omega
  case less.Sp0 e0 hz hx=>
   have hxx:¬(x.bind unE=some e):=by rcases hx with rfl|rfl <;> simp[unE]
   rw[if_neg hxx]at h2;rw[h1,<- h9];omega
  case m7.m7 e0 hx=>
   have hxx:¬(x.bind unE=some e):=by rcases hx with rfl|rfl <;> simp[unE]
   rw[if_neg hxx]at h2;rw[h1,<- h9];omega
  all_goals
   rw[h1,<- h9];omega
 ·rcases Aa0 e he with I1|⟨hp,rfl⟩
  ·rw[Dp0 e I1]at hl2;have jg0:e∈(s.st (L9 n (gE s e).key)).l/\b.ph≠.out e:=by
    rcases gj0 _ e hl2 with(⟨y1,y2⟩|⟨y1,y2⟩)|⟨_,y,_⟩
    ·exact⟨y1,y2⟩
    ·exact⟨y1,fun hp=>y2 (hq e (by rw[hp];rfl)).symm⟩
    ·omega
   have h2:=hc drE e;have h3:=h.us e I1;have h4:=hus e he;have h9:=hc bo0 e;have h10:=jn0 e;by_cases hu0:(gE s e).J1=0
   ·have h5:=h.dr e I1 hu0 jg0.1;by_cases hd:drE b.ph=some e
    ·rw[if_pos hd]at h2;have hbj:=hq e (by revert hd;cases b.ph <;> intro hd <;> first|exact hd|cases hd);have hx:(phO o.D2).bind drE=some e:=by
      revert hd jg0;generalize phO o.D2=x at hpt;cases hpb:b.ph <;> rw[hpb]at hpt <;> cases hpt <;> intro jg0 hd <;> first
       |(cases hd;done)
       |(cases hd;rfl)
       |(cases hd;exact absurd rfl jg0.2)
       |(cases hd;rename_i hz;exact absurd hu0 hz)
       |(cases hd;rename_i hz;rw[hbj]at hz;exact absurd jg0.1 hz)
     rw[if_pos hx]at h2;omega
    ·rw[if_neg hd]at h2;split at h2 <;> omega
   ·have hu':bo0 b.ph=some e:=by
     by_cases hue:bo0 b.ph=some e
     ·exact hue
     ·exfalso;by_cases hme:moE b.ph=some e
      ·have hx:(phO o.D2).bind bo0=some e:=by
        revert hme;generalize phO o.D2=x at hpt;cases hpb:b.ph <;> rw[hpb]at hpt <;> cases hpt <;> intro hme <;> first|(cases hme;done)|(cases hme;rfl)
       rw[if_pos hx]at h9;rw[hu]at h4;split at h9 <;> omega
      ·rw[ra0 e I1 hue hme]at hu;exact hu0 hu
    have hx:(phO o.D2).bind drE=some e:=by
     have hz:¬((phO o.D2).bind bo0=some e):=fun z=>by
      rw[if_pos hu',if_pos z]at h9;have:=h10 hu';rw[hu]at h4;omega
     have Kw0:=hU e he;rw[hu]at Kw0;revert hz hu' Kw0;generalize phO o.D2=x at hpt;cases hpb:b.ph <;> rw[hpb]at hpt <;> cases hpt <;> intro hu' hz Kw0 <;> first
      |(cases hu';done)
      |(cases hu';exact absurd rfl hz)
      |(cases hu';rfl)
      |(cases hu';dsimp only at Kw0;rw[if_pos rfl,<- nw0 (d:=-1) I1]at Kw0;exact absurd Kw0.symm (by assumption))
    rw[if_pos hx]at h2;have hnd:¬(drE b.ph=some e):=by revert hu';cases b.ph <;> intro hu' <;> simp[drE,bo0]at hu'⊢
    rw[if_neg hnd]at h2;omega
  ·rw[hU _ he,hp]at hu;dsimp only at hu;rw[if_pos rfl]at hu;cases hu
end
section
variable {p:n5}{ks:Nat->List ByteArray}
theorem Ss0 (p:n5) (q:PR (W0 p)):((W0 p).bgn q).ft=q.ft ++ [(R6 p.n (p.bo q.ft.length) 0 (fun _=>none) q.s []).D2]/\((W0 p).bgn q).s=q.s/\((W0 p).bgn q).evs=q.evs:=⟨rfl,w8 ..,rfl⟩
theorem Il0 (p:n5) (q:PR (W0 p)) {i:Nat} {b:Lb} (h:q.ft[i]? =some (.inl b)):((W0 p).K5 q i).ft=q.ft.set i (u5 p.n (p.bo i) i b q.s).D2/\((W0 p).K5 q i).s=(u5 p.n (p.bo i) i b q.s).s/\((W0 p).K5 q i).evs=q.evs ++ [(i,as0 p.obj b)]/\((W0 p).K5 q i).nts=q.nts++tell i (q.evs.length+1) (u5 p.n (p.bo i) i b q.s).nts:=by
 unfold Sys.K5;rw[h];exact⟨rfl,rfl,rfl,rfl⟩
theorem St0 (hp:I5 p) (hb:p.bo=fun i=>B4 (ks i)):∀q,(W0 p).Reach q->FOk p.n p.m ks q.s q.ft/\∀(i x:Nat),q.ft[i]? =some (.inr x)->x=1:=by
 have hlen:∀q,(W0 p).Reach q->q.ft.length <=16:=fun q hq=>Nat.le_trans (Gw0 q hq) hp.m;have key:∀q,(W0 p).Reach q->(q.ft.length <=16->FOk p.n p.m ks q.s q.ft/\∀(i x:Nat),q.ft[i]? =some (.inr x)->x=1):=by
  refine Sys.ind (Y:=W0 p) (fun q=>q.ft.length <=16->FOk p.n p.m ks q.s q.ft/\∀(i x:Nat),q.ft[i]? =some (.inr x)->x=1) (fun _=>⟨FOk.start,fun i x h=>by cases h⟩) (fun q hq _ hl=>?_) (fun q i b hq hm hf hr hl=>?_)
  ·obtain⟨e1,e2,_⟩:=Ss0 p q;rw[e1]at hl⊢;rw[e2];have J7:q.ft.length <=16:=by rw[List.length_append]at hl;omega
   have h1:=(hq J7).1.beg hp.n.1;have e3:p.bo q.ft.length=B4 (ks q.ft.length):=congrFun hb _;rw[e3];refine⟨h1,fun i x hx=>?_⟩;rcases Z9 hx with z|⟨_,z⟩
   ·exact(hq J7).2 i x z
   ·cases hk:(ks q.ft.length)[0]? with
    |none=>
     have:=Dn0 (n:=p.n) (t:=0) (has:=fun _=>none) (s:=q.s) (nts:=[]) hk;have e:(R6 p.n (B4 (ks q.ft.length)) 0 (fun _=>none) q.s []).D2= .inr 1:=congrArg (·.D2) this;rw[e]at z;cases z;rfl
    |some key=>
     have:=Dm0 (n:=p.n) (t:=0) (has:=fun _=>none) (s:=q.s) (nts:=[]) hk;have e:=congrArg (·.D2) this;have e:(R6 p.n (B4 (ks q.ft.length)) 0 (fun _=>none) q.s []).D2=_:=e;rw[e]at z;cases z
  ·obtain⟨e1,e2,_⟩:=Il0 p q hf;rw[e1,e2];rw[e1,List.length_set]at hl;have hm':q.ft.length=p.m:=hm;have hi:i<p.m:=by rw[<- hm'];exact(List.getElem?_eq_some_iff.1 hf).1
   have e3:p.bo i=B4 (ks i):=congrFun hb _;rw[e3];refine⟨(hq hl).1.K5 hp.n.1 hi hl hf hr,fun i' x hx=>?_⟩;by_cases e:i'=i
   ·subst e;rw[List.getElem?_set_self (List.getElem?_eq_some_iff.1 hf).1]at hx;obtain⟨t,hF⟩:=(hq hl).1.fl _ b hf;exact((mv0 ((hq hl).1.tok.R3 _ b hf) hF).fin x (Option.some.inj hx)).1
   ·rw[List.getElem?_set_ne (Ne.symm e)]at hx;exact(hq hl).2 i' x hx
 exact fun q hq=>key q hq (hlen q hq)
theorem Im0 (hp:I5 p) (hb:p.bo=fun i=>B4 (ks i)) (q:PR (W0 p)) (hq:(W0 p).Reach q):FOk p.n p.m ks q.s q.ft:=(St0 hp hb q hq).1
def K9 (ks:List ByteArray):Lb ⊕ Nat->Nat
 | .inr _=>0
 | .inl b=>wt b.ph+15*(ks.length-(b.k-1)/6-1)
def Phi (ks:Nat->List ByteArray):Nat->List (Lb ⊕ Nat)->Nat
 |_,[]=>0
 |i,f::ft=>K9 (ks i) f+Phi ks (i+1) ft
theorem In0 (ks:Nat->List ByteArray) (f:Lb ⊕ Nat):∀(ft:List (Lb ⊕ Nat)) (j:Nat),Phi ks j (ft ++ [f])=Phi ks j ft+K9 (ks (j+ft.length)) f
 | [],j=>by simp[Phi]
 |g::ft,j=>by
  show K9 (ks j) g+Phi ks (j+1) (ft ++ [f])=K9 (ks j) g+Phi ks (j+1) ft+K9 (ks (j+(ft.length+1))) f;rw[In0 ks f ft (j+1),show j+1+ft.length=j+(ft.length+1)by omega];omega
theorem Io0 (ks:Nat->List ByteArray) (f':Lb ⊕ Nat):∀(ft:List (Lb ⊕ Nat)) (j i:Nat) (f:Lb ⊕ Nat),ft[i]? =some f->Phi ks j (ft.set i f')+K9 (ks (j+i)) f=Phi ks j ft+K9 (ks (j+i)) f'
 | [],j,i,f,h=>by cases h
 |g::ft,j,0,f,h=>by
  have h:some g=some f:=h;cases h;show K9 (ks j) f'+Phi ks (j+1) ft+K9 (ks j) g=K9 (ks j) g+Phi ks (j+1) ft+K9 (ks j) f';omega
 |g::ft,j,i+1,f,h=>by
  have ih:=Io0 ks f' ft (j+1) i f h;show K9 (ks j) g+Phi ks (j+1) (ft.set i f')+K9 (ks (j+(i+1))) f=K9 (ks j) g+Phi ks (j+1) ft+K9 (ks (j+(i+1))) f';rw[show j+1+i=j+(i+1)by omega]at ih;omega
theorem Ip0 (ks:Nat->List ByteArray):∀(ft:List (Lb ⊕ Nat)) (j i:Nat) (b:Lb),ft[i]? =some (.inl b)->0<Phi ks j ft
 | [],j,i,b,h=>by cases h
 |g::ft,j,0,b,h=>by
  have h:some g=some (.inl b):=h;cases h;have:=Gj0 b.ph;show 0<wt b.ph+_+_;omega
 |g::ft,j,i+1,b,h=>by
  have:=Ip0 ks ft (j+1) i b h;show 0<K9 (ks j) g+_;omega
theorem FL.oa1 {ks:List ByteArray} {s:E3} {b:Lb} {t:Nat} (h:FL ks s b t):(b.k-1)/6=t:=by
 have:=h.k;cases hp:b.ph <;> rw[hp]at this <;> simp only[ki0]at this <;> omega
theorem Kx0 {n i:Nat} {ks:List ByteArray} {s:E3} {b:Lb} {t:Nat} (hL:LOk n (B4 ks) i s b) (hF:FL ks s b t):K9 ks (u5 n (B4 ks) i b s).D2+1 <=K9 ks (.inl b):=by
 have hX:=mv0 hL hF;have e1:K9 ks (.inl b)=wt b.ph+15*(ks.length-t-1):=by show wt b.ph+15*(ks.length-(b.k-1)/6-1)=_;rw[hF.oa1]
 rw[e1];cases hf:(u5 n (B4 ks) i b s).D2 with
 |inr x=>have:=Gj0 b.ph;show 0+1 <=_;omega
 |inl b'=>
  obtain⟨t',h1,h2,_⟩:=hX.fl b' hf;show wt b'.ph+15*(ks.length-(b'.k-1)/6-1)+1 <=_;rw[h1.oa1];exact h2
theorem Su0 {n:Nat} {ks:List ByteArray} {s:E3}:K9 ks (R6 n (B4 ks) 0 (fun _=>none) s []).D2=15*ks.length:=by
 cases hk:ks[0]? with
 |none=>
  have:=Dn0 (n:=n) (t:=0) (has:=fun _=>none) (s:=s) (nts:=[]) hk;have e:(R6 n (B4 ks) 0 (fun _=>none) s []).D2= .inr 1:=congrArg (·.D2) this;have:=List.getElem?_eq_none_iff.1 hk;rw[e];show 0=_;omega
 |some key=>
  have:=Dm0 (n:=n) (t:=0) (has:=fun _=>none) (s:=s) (nts:=[]) hk;have e:(R6 n (B4 ks) 0 (fun _=>none) s []).D2= .inl ⟨1,fun _=>none,0,L9 n key,key,.S5,0,ke0,[]⟩:=congrArg (·.D2) this;have:=(List.getElem?_eq_some_iff.1 hk).1;rw[e];show 15+15*(ks.length-(1-1)/6-1)=15*ks.length;omega
theorem Dq0 (hb:p.bo=fun i=>B4 (ks i)):∀k,Phi ks 0 ((W0 p).D4 k).ft=15*n6 (fun i=>(ks i).length) k/\((W0 p).D4 k).ft.length=k/\((W0 p).D4 k).evs=[]/\((W0 p).D4 k).nts=[]
 |0=>⟨rfl,rfl,rfl,rfl⟩
 |k+1=>by
  obtain⟨h1,h2,h3,h4⟩:=Dq0 hb k;obtain⟨e1,_,e3⟩:=Ss0 p ((W0 p).D4 k);show Phi ks 0 ((W0 p).bgn ((W0 p).D4 k)).ft=_/\((W0 p).bgn ((W0 p).D4 k)).ft.length=_/\((W0 p).bgn ((W0 p).D4 k)).evs=[]/\((W0 p).bgn ((W0 p).D4 k)).nts=[];have e4:p.bo k=B4 (ks k):=congrFun hb _;rw[e1,e3,h2,e4];refine⟨?_,by rw[List.length_append,h2];rfl,h3,?_⟩
  ·rw[In0,h1,h2,Nat.zero_add,Su0,V5];omega
  ·show((W0 p).D4 k).nts++tell _ _ (R6 p.n (p.bo ((W0 p).D4 k).ft.length) 0 (fun _=>none) ((W0 p).D4 k).s []).nts=[];rw[h4,h2,e4];have:(R6 p.n (B4 (ks k)) 0 (fun _=>none) ((W0 p).D4 k).s []).nts=[]:=by
    cases hk:(ks k)[0]? with
    |none=>exact congrArg (·.nts) (Dn0 (n:=p.n) (t:=0) (has:=fun _=>none) (nts:=[]) hk)
    |some key=>exact congrArg (·.nts) (Dm0 (n:=p.n) (t:=0) (has:=fun _=>none) (nts:=[]) hk)
   rw[this];rfl
theorem FOk.live {n m:Nat} {s:E3} {ft:List (Lb ⊕ Nat)} (h:FOk n m ks s ft) {i:Nat} {b:Lb} (hb:ft[i]? =some (.inl b)):∃(i:Nat) (b:Lb),ft[i]? =some (.inl b)/\N6 b s=true:=by
 by_cases hr:N6 b s=true
 ·exact⟨i,b,hb,hr⟩
 have hr:N6 b s=false:=by simpa using hr
 have ft1:∀e,e<s.en.length->(gE s e).held=true->∃(i:Nat) (b:Lb),ft[i]? =some (.inl b)/\N6 b s=true:=fun e he hh=>by
  have h1:=h.hd e he;rw[hh,if_pos rfl]at h1;have h2:0<ft.countP (isP unE e):=by omega
  obtain⟨f,hf,hpf⟩:=List.countP_pos_iff.1 h2;obtain⟨i',hi'⟩:=List.mem_iff_getElem?.1 hf;cases f with
  |inr x=>unfold isP at hpf;cases of_decide_eq_true hpf
  |inl b'=>
   refine⟨i',b',hi',?_⟩;have hpf:unE b'.ph=some e:=of_decide_eq_true hpf;unfold N6;revert hpf;cases b'.ph <;> intro hpf <;> first|rfl|cases hpf
 have hrd:0<(s.st b.j).A5->∃(i:Nat) (b:Lb),ft[i]? =some (.inl b)/\N6 b s=true:=fun h0=>by
  rw[h.tok.rd]at h0;obtain⟨f,hf,hpf⟩:=List.countP_pos_iff.1 h0;obtain⟨i',hi'⟩:=List.mem_iff_getElem?.1 hf;cases f with
  |inr x=>cases hpf
  |inl b'=>
   refine⟨i',b',hi',?_⟩;have hpf:(decide (b'.j=b.j)&&mo0 b'.ph)=true:=hpf;rw[Bool.and_eq_true]at hpf;have hpf:=hpf.2;unfold N6;revert hpf;cases b'.ph <;> intro hpf <;> first|rfl|cases hpf
 have hwr:(s.st b.j).held=true->∃(i:Nat) (b:Lb),ft[i]? =some (.inl b)/\N6 b s=true:=fun h0=>by
  have h1:=h.tok.wr b.j;rw[h0,if_pos rfl]at h1;have h2:0<ft.countP (kf0 b.j):=by omega
  obtain⟨f,hf,hpf⟩:=List.countP_pos_iff.1 h2;obtain⟨i',hi'⟩:=List.mem_iff_getElem?.1 hf;cases f with
  |inr x=>cases hpf
  |inl b'=>
   refine⟨i',b',hi',?_⟩;have hpf:(decide (b'.j=b.j)&&eo0 b'.ph)=true:=hpf;rw[Bool.and_eq_true]at hpf;have hpf:=hpf.2;unfold N6;revert hpf;cases b'.ph <;> intro hpf <;> first|rfl|cases hpf
 unfold N6 at hr;have hE:=(h.tok.R3 i b hb).e;revert hr hE;cases hp:b.ph <;> intro hr hE <;> first
  |cases hr
  |(refine hwr ?_;simpa using hr)
  |(refine ft1 _ (hE _ rfl) ?_;simpa using hr)
  |exact(Decidable.em ((s.st b.j).held=true)).elim hwr fun hh=>hrd (by have hh:(s.st b.j).held=false:=(by simpa using hh);rw[hh]at hr;simp at hr;omega)
end
section
variable {p:n5}{ks:Nat->List ByteArray}
theorem Gl0 (p:n5) (q:PR (W0 p)) (e:Int):((W0 p).step q e=q/\(W0 p).rds q=[])\/∃(i:Nat) (b:Lb),(W0 p).step q e=(W0 p).K5 q i/\i<p.m/\q.ft[i]? =some (.inl b)/\N6 b q.s=true:=by
 unfold Sys.step;cases h:((W0 p).rds q)[Y9 e ((W0 p).rds q).length]? with
 |none=>
  refine .inl ⟨rfl,?_⟩;rcases Nat.eq_zero_or_pos ((W0 p).rds q).length with z|z
  ·exact List.length_eq_zero_iff.1 z
  ·exfalso;have h1:=List.getElem?_eq_none_iff.1 h;have h2:Y9 e ((W0 p).rds q).length<((W0 p).rds q).length:=by
    unfold Y9;have a:=Int.emod_nonneg e (b:=(((W0 p).rds q).length:Int)) (by omega);have b:=Int.emod_lt_of_pos e (b:=(((W0 p).rds q).length:Int)) (by omega);omega
   omega
 |some i=>
  obtain⟨h1,h2⟩:=Sys.zf0 h;unfold Sys.gv0 at h2;cases hx:q.ft[i]? with
  |none=>rw[hx]at h2;cases h2
  |some f=>
   cases f with
   |inr x=>rw[hx]at h2;cases h2
   |inl b=>rw[hx]at h2;exact .inr ⟨i,b,rfl,h1,hx,h2⟩
theorem Xo0 (hp:I5 p) (hb:p.bo=fun i=>B4 (ks i)) {q:PR (W0 p)} (hq:(W0 p).Reach q) (hm:q.ft.length=p.m) (h:(W0 p).rds q=[]) (i:Nat) (b:Lb):q.ft[i]? ≠some (.inl b):=fun hf=>by
 obtain⟨i',b',h1,h2⟩:=(Im0 hp hb q hq).live hf;have hi:i'<p.m:=by rw[<- hm];exact(List.getElem?_eq_some_iff.1 h1).1
 have:i'∈(W0 p).rds q:=by
  unfold Sys.rds;refine List.mem_filter.2 ⟨List.mem_range.2 hi,?_⟩;unfold Sys.gv0;rw[h1];exact h2
 rw[h]at this;cases this
theorem Sv0 (hp:I5 p) (hb:p.bo=fun i=>B4 (ks i)) (sc:Nat->Int):∀n,Phi ks 0 ((W0 p).pn sc n).ft+((W0 p).pn sc n).evs.length <=15*n6 (fun i=>(ks i).length) p.m/\(((W0 p).pn sc n).evs.length=n\/∀(i:Nat) (b:Lb),((W0 p).pn sc n).ft[i]? ≠some (.inl b))
 |0=>by
  obtain⟨h1,_,h3,_⟩:=Dq0 hb p.m;show Phi ks 0 ((W0 p).D4 p.m).ft+((W0 p).D4 p.m).evs.length <=_/\(((W0 p).D4 p.m).evs.length=0\/_);rw[h1,h3];exact⟨Nat.le_refl _,.inl rfl⟩
 |n+1=>by
  obtain⟨ih1,ih2⟩:=Sv0 hp hb sc n;have hR:(W0 p).Reach ((W0 p).pn sc n):=.inr ⟨sc,n,rfl⟩;have hlen:=Sys.ao0 (Y:=W0 p) sc n;show Phi ks 0 ((W0 p).step ((W0 p).pn sc n) (sc n)).ft+_ <=_/\(((W0 p).step ((W0 p).pn sc n) (sc n)).evs.length=n+1\/∀(i:Nat) (b:Lb),((W0 p).step ((W0 p).pn sc n) (sc n)).ft[i]? ≠some (.inl b));rcases Gl0 p ((W0 p).pn sc n) (sc n)with⟨h1,h2⟩|⟨i,b,h1,h2,h3,h4⟩
  ·have e:(W0 p).pn sc (n+1)=(W0 p).pn sc n:=h1;rw[e,h1];exact⟨ih1,.inr (Xo0 hp hb hR hlen h2)⟩
  ·have e:(W0 p).pn sc (n+1)=(W0 p).K5 ((W0 p).pn sc n) i:=h1;obtain⟨e1,_,e3,_⟩:=Il0 p ((W0 p).pn sc n) h3;have e4:p.bo i=B4 (ks i):=congrFun hb _;rw[e,h1,e1,e3,e4];have hK:=Im0 hp hb _ hR;obtain⟨t,hF⟩:=hK.fl i b h3;have hr:=Kx0 (hK.tok.R3 i b h3) hF;have hs:=Io0 ks (u5 p.n (B4 (ks i)) i b ((W0 p).pn sc n).s).D2 ((W0 p).pn sc n).ft 0 i (.inl b) h3;rw[Nat.zero_add]at hs;refine⟨by rw[List.length_append,List.length_singleton];omega,.inl ?_⟩;rw[List.length_append,List.length_singleton];rcases ih2 with z|z
   ·rw[z]
   ·exact absurd h3 (z i b)
theorem Xp0 (hp:I5 p) (hb:p.bo=fun i=>B4 (ks i)) {sc:Nat->Int} {sn:Nat} (hsn:15*n6 (fun i=>(ks i).length) p.m <=sn) :
  (∀i,i<p.m->((W0 p).pn sc sn).ft[i]? =some (.inr 1))/\((W0 p).pn sc sn).ft.any (·.isLeft)=false/\n6 (fun j=>((pT p sc sn).st j).l.length) p.n=0/\((W0 p).pn sc sn).evs.length <=15*n6 (fun i=>(ks i).length) p.m:=by
 obtain⟨h1,h2⟩:=Sv0 hp hb sc sn;have hR:(W0 p).Reach ((W0 p).pn sc sn):=.inr ⟨sc,sn,rfl⟩;have hlen:=Sys.ao0 (Y:=W0 p) sc sn;obtain⟨hK,hE⟩:=St0 hp hb _ hR;have hno:∀(i:Nat) (b:Lb),((W0 p).pn sc sn).ft[i]? ≠some (.inl b):=by
  rcases h2 with z|z
  ·intro i b hf;have:=Ip0 ks _ 0 i b hf;omega
  ·exact z
 have ib0:∀E e,((W0 p).pn sc sn).ft.countP (isP E e)=0:=fun E e=>by
  refine List.countP_eq_zero.2 fun f hf hp=>?_;obtain⟨i,hi⟩:=List.mem_iff_getElem?.1 hf;cases f with
  |inr x=>unfold isP at hp;cases of_decide_eq_true hp
  |inl b=>exact hno i b hi
 refine⟨fun i hi=>?_,?_,?_,by omega⟩
 ·have hl:i<((W0 p).pn sc sn).ft.length:=by rw[hlen];exact hi
  cases hx:((W0 p).pn sc sn).ft[i]? with
  |none=>have:=List.getElem?_eq_none_iff.1 hx;omega
  |some f=>
   cases f with
   |inl b=>exact absurd hx (hno i b)
   |inr x=>rw[hE i x hx]
 ·refine List.any_eq_false.2 fun f hf=>?_;obtain⟨i,hi⟩:=List.mem_iff_getElem?.1 hf;cases f with
  |inr x=>simp
  |inl b=>exact absurd hi (hno i b)
 ·have key:∀j,((pT p sc sn).st j).l=[]:=fun j=>by
   cases hl:((pT p sc sn).st j).l with
   |nil=>rfl
   |cons e l=>
    exfalso;have he:e∈((pT p sc sn).st j).l:=by rw[hl];exact List.mem_cons_self ..
    have I1:=hK.tok.so.l j e he;have hk:=hK.k2 j e he;have hu:=hK.us e I1;rw[ib0]at hu;have:=hK.dr e I1 hu (by rw[hk];exact he);rw[ib0]at this;exact absurd this (Nat.lt_irrefl _)
  have:=ln0 (f:=fun j=>((pT p sc sn).st j).l.length) (n:=p.n) (B:=0) fun j _=>by show((pT p sc sn).st j).l.length <=0;rw[key j];exact Nat.le_refl _
  omega
end
def kB:ByteArray:=ByteArray.mk #[107]
def eB:ByteArray:=ByteArray.mk #[]
def sm1 (s:E3):Option (Lb ⊕ Nat)->ByteArray
 |some (.inl b)=>match unE b.ph with
  |some e=>kB++(gE s e).key
  |none=>eB
 |_=>eB
def so1:Ph->Nat
 | .c5 _=>1
 | .W2 _| .less _| .ah0 _| .aa0 _| .J1 _| .out _| .m7 _=>2
 |_=>0
def sp1 (ks:List ByteArray):Option (Lb ⊕ Nat)->Nat
 |some (.inl b)=>2*((b.k-1)/6)+so1 b.ph
 |some (.inr _)=>2*ks.length
 |none=>0
section
end
section
variable {p:n5}{ks:Nat->List ByteArray}
def fu1 (q:PR (W0 p)) (c:Nat):ByteArray:=sm1 q.s q.ft[c]?
def ob1 (ks:Nat->List ByteArray) (q:PR (W0 p)) (c:Nat):Nat:=sp1 (ks c) q.ft[c]?
def Pre (ks:Nat->List ByteArray) (S:Nat->PR (W0 p)) (Q:PR (W0 p)) (i n:Nat) (H:Nat->ByteArray) (C:Nat->Nat):Prop :=
 (n=(S i).nts.length/\H=fu1 (S i)/\C=ob1 ks (S i)) \/
 (∃(c:Nat) (txt:ByteArray),c<p.m/\n+1=(S i).nts.length/\Q.nts[n]? =some (i,c,⟨1,txt⟩)/\C3 C c (C c+1)=ob1 ks (S i) /\
  ((∃key,(C c+1)%2=0/\0<C c+1/\(ks c)[(C c+1)/2-1]? =some key/\(∀k,H k≠kB++key)/\C3 H c (kB++key)=fu1 (S i))\/((C c+1)%2=1/\H=fu1 (S i))))
end
structure uq0 (w:World) (ka:Option Addr) (m:Nat) (ks:Nat->List ByteArray) (kA:Nat->Option Addr) (kC:Nat->Nat):Prop where
 sl:SL ka m
 row:∀i,i<m->w.cell? ⟨ab ka,ao ka+i*1,none⟩=some (.slice (kA i) (ks i).length (kC i))
 sl2:∀i,i<m->SL (kA i) (ks i).length
 str:∀i,i<m->∀t k,(ks i)[t]? =some k->w.cell? ⟨ab (kA i),ao (kA i)+t*1,none⟩=some (.string k)
 len:m <=1048576/\∀i,i<m->(ks i).length <=1048576
theorem uq0.j0 {w w':World} {ka:Option Addr} {m:Nat} {ks:Nat->List ByteArray} {kA:Nat->Option Addr} {kC:Nat->Nat} (h:uq0 w ka m ks kA kC) (hb:Below w.heap.size w w'):uq0 w' ka m ks kA kC :=
 ⟨h.sl,fun i hi=>ci0 (h.row i hi) hb,h.sl2,fun i hi t k hk=>ci0 (h.str i hi t k hk) hb,h.len⟩
def fv1 (o:SOp):List Value:=[.int .i64 o.kind,.int .i64 o.qt0,.string o.key]
def Gm0 (ks:List ByteArray):List Value:=(B4 ks).flatMap fv1
theorem Sw0 (ks:List ByteArray) (k:ByteArray):Gm0 (ks ++ [k])=Gm0 ks ++ [.int .i64 1,.int .i64 0,.string k,.int .i64 5,.int .i64 0,.string ByteArray.empty,.int .i64 2,.int .i64 0,.string ByteArray.empty,.int .i64 5,.int .i64 0,.string ByteArray.empty,.int .i64 3,.int .i64 0,.string ByteArray.empty,.int .i64 4,.int .i64 0,.string ByteArray.empty]:=by
 unfold Gm0 B4;rw[List.flatMap_append,List.flatMap_append];rfl
theorem Ky0 (l:List SOp):∀(k:Nat) (o:SOp),l[k]? =some o->∀(j:Nat) (v:Value),(ni1 o)[j]? =some v->(l.flatMap fv1)[k*3+j]? =some v:=by
 induction l with
 |nil=>intro k o h;cases h
 |cons a l ih=>
  intro k o h j v hv;have hj:j<3:=(Array.getElem?_eq_some_iff.1 hv).1;cases k with
  |zero=>
   have h:some a=some o:=h;cases h;rw[Nat.zero_mul,Nat.zero_add,List.flatMap_cons,List.getElem?_append_left (by show j<3;exact hj)];obtain rfl|rfl|rfl:j=0\/j=1\/j=2:=by omega
   all_goals exact hv
  |succ k=>
   rw[List.flatMap_cons,List.getElem?_append_right (by show 3 <=_;omega)];have e:(k+1)*3+j-(fv1 a).length=k*3+j:=by show(k+1)*3+j-3=_;omega
   rw[e];exact ih k o h j v hv
structure j9 (w:World) (B i:Nat) (ks:Nat->List ByteArray) (oa:Nat->Option Addr) (oc:Nat->Nat):Prop where
 row:∀j,j<i->Own w B 85 3 (oa j) (6*(ks j).length) (oc j) (Gm0 (ks j))
section
variable {w w':World}{B i:Nat}{ks:Nat->List ByteArray}{oa:Nat->Option Addr}{oc:Nat->Nat}
theorem j9.j0 (h:j9 w B i ks oa oc) (hb:Below w.heap.size w w'):j9 w' B i ks oa oc:=⟨fun j hj=>(h.row j hj).j0 hb⟩
theorem j9.mod {N:Nat} {TS:List TypeId} (h:j9 w B i ks oa oc) (hm:I4 w w' N TS) (hT:TS.contains 85=false):j9 w' B i ks oa oc:=⟨fun j hj=>(h.row j hj).mod hm hT⟩
theorem j9.down {B':Nat} (h:j9 w B' i ks oa oc) (hB:B <=B'):j9 w B i ks oa oc:=⟨fun j hj=>(h.row j hj).down hB⟩
theorem j9.none:j9 w B 0 ks oa oc:=⟨fun _j hj=>absurd hj (Nat.not_lt_zero _)⟩
theorem j9.add {a:Option Addr} {c N:Nat} (h:j9 w B i ks oa oc) (hN:B <=N) (hO:Own w N 85 3 a (6*(ks i).length) c (Gm0 (ks i))):j9 w B (i+1) ks (C3 oa i a) (C3 oc i c):=⟨fun j hj=>by
 by_cases z:j=i
 ·subst z;rw[Z0,Z0];exact hO.down hN
 ·rw[B1 z,B1 z];exact h.row j (by omega)⟩
def ur0 (ks:Nat->List ByteArray) (oa:Nat->Option Addr) (oc:Nat->Nat) (j:Nat):Value:=.slice (oa j) (6*(ks j).length) (oc j)
theorem Sx0 {a:Option Addr} {c:Nat}:(List.range (i+1)).map (ur0 ks (C3 oa i a) (C3 oc i c))=(List.range i).map (ur0 ks oa oc) ++ [.slice a (6*(ks i).length) c]:=by
 rw[List.range_succ,List.map_append];congr 1
 ·apply List.map_congr_left;intro j hj;have:j≠i:=by have:j<i:=(by simpa using hj);omega
  unfold ur0;rw[B1 this,B1 this]
 ·simp[ur0,Z0]
theorem j9.oc1 {m c:Nat} {a:Option Addr} (h:j9 w B m ks oa oc) (hO:Own w B 86 1 a m c ((List.range m).map (ur0 ks oa oc))) (hl:∀j,j<m->(ks j).length <=1048576):ce0 w a m (fun j=>if j<m then B4 (ks j) else []) oa oc:=by
 refine⟨hO.sl,fun j hj=>?_,fun j hj=>?_,fun j hj=>?_⟩
 ·simp only[if_pos hj];rw[hO.off,Nat.zero_add,Nat.mul_one,is0];exact hO.cell (by simp[hj,ur0])
 ·simp only[if_pos hj];refine⟨by rw[is0];exact(h.row j hj).sl,fun k o ho x v hv=>?_⟩;rw[(h.row j hj).off,Nat.zero_add];exact(h.row j hj).cell (Ky0 _ k o ho x v hv)
 ·simp only[if_pos hj];rw[is0];have:=hl j hj;omega
theorem Sy0 (ks:Nat->List ByteArray) (m:Nat):∀k,k <=m->n6 (fun i=>(if i<m then B4 (ks i) else []).length) k=6*n6 (fun i=>(ks i).length) k
 |0,_=>rfl
 |k+1,h=>by
  rw[V5,V5,Sy0 ks m k (by omega),if_pos (by omega),is0];omega
theorem Kz0 {k:ByteArray} {l:List ByteArray} {t:Nat} (h:l[t]? =some k):l.take (t+1)=l.take t ++ [k]:=by
 obtain⟨h1,h2⟩:=List.getElem?_eq_some_iff.1 h;rw[List.take_succ_eq_append_getElem h1,h2]
end
theorem Xq0 {ks:Nat->List ByteArray} {m:Nat} (h:∀i k,k∈ks i->k.size <=1000000000000):∀i o,o∈(if i<m then B4 (ks i) else [])->o.key.size <=1000000000000:=by
 intro i o ho;split at ho
 ·unfold B4 at ho;obtain⟨k,hk,ho⟩:=List.mem_flatMap.1 ho;have h0:ByteArray.empty.size <=1000000000000:=by decide
  have h1:=h i k hk;unfold fop at ho;simp only[List.mem_cons,List.not_mem_nil,or_false]at ho;rcases ho with rfl|rfl|rfl|rfl|rfl|rfl <;> first|exact h1|exact h0
 ·cases ho
theorem od1 {ks:Nat->List ByteArray} {m:Nat} (hz:∀i,m <=i->ks i=[]):(fun i=>if i<m then B4 (ks i) else [])=fun i=>B4 (ks i):=funext fun i=>by
 by_cases h:i<m
 ·rw[if_pos h]
 ·rw[if_neg h,hz i (by omega)];rfl
theorem Dr0 (k:Int):prog.built 85 [(0,.int .i64 k)]=some #[.int .i64 k,.int .i64 0,.string ByteArray.empty]:=by kernel_rfl
theorem oe1 (k:Int) (q:ByteArray):prog.built 85 [(0,.int .i64 k),(2,.string q)]=some #[.int .i64 k,.int .i64 0,.string q]:=by kernel_rfl
theorem Below.to {w0 w w':World} {N:Nat} (h:Below w0.heap.size w0 w) (hN:w0.heap.size <=N) (hb:Below N w w'):Below w0.heap.size w0 w':=h.trans (hb.mono hN)
theorem of1 {w:World} {ad:Addr} {n j:Nat} {v:Value} (h8:SL (some ad) n) (hj:j<n) (h9:w.cell? ⟨ab (some ad),ao (some ad)+j*1,none⟩=some v):w.cell? (ad.add j)=some v:=by
 rw[Nat.mul_one]at h9;have e:ad=⟨ab (some ad),ao (some ad),none⟩:=Option.some.inj (h8 (by omega));have e2:ad.add j=⟨ab (some ad),ao (some ad)+j,none⟩:=(congrArg (fun x:Addr=>x.add j) e).trans (by rw[Addr.add_lit]);rw[e2];exact h9
def scL (sc:Nat->Int) (sn:Nat) (j:Nat):Int:=if j<sn then sc j else((j-sn:Nat):Int)
theorem fw1 {sc:Nat->Int} {sn:Nat}:((List.range (sn+0)).map fun j=>Value.int .i64 (scL sc sn j))=(List.range sn).map fun j=>.int .i64 (sc j):=by
 apply List.map_congr_left;intro j hj;have:j<sn:=by simpa using hj
 unfold scL;rw[if_pos this]
theorem Sz0 {sc:Nat->Int} {sn i:Nat}:((List.range (sn+(i+1))).map fun j=>Value.int .i64 (scL sc sn j))=((List.range (sn+i)).map fun j=>Value.int .i64 (scL sc sn j)) ++ [.int .i64 (i:Nat)]:=by
 rw[show sn+(i+1)=sn+i+1 by omega,List.range_succ,List.map_append];congr 1;show [Value.int .i64 (scL sc sn (sn+i))]=_;unfold scL;rw[if_neg (by omega),show sn+i-sn=i by omega]
theorem fx1 {w:World} {B n c sn:Nat} {a:Option Addr} {sc:Nat->Int} (h:Own w B 3 1 a n c ((List.range n).map fun j=>.int .i64 (scL sc sn j))):od0 w a n c (scL sc sn):=by
 have ny0:(a=none->n=0/\c=0)/\n <=c:=by
  rcases h.2 with⟨e,hn⟩|⟨g,cap,cur,e,_,_,hle,_⟩
  ·injection e with e1 e2 e3
   subst e1 e2 e3;exact⟨fun _=>⟨rfl,rfl⟩,Nat.le_refl _⟩
  ·injection e with e1 _ e3
   subst e3;exact⟨(fun z=>by rw[z]at e1;cases e1),hle⟩
 refine⟨h.sl,ny0.1,ny0.2,fun j hj=>?_⟩
 ·rw[h.off,Nat.zero_add,Nat.mul_one];exact h.cell (by simp[hj])
section
variable [Ctx prog]
end
section
theorem Xr0 (x0:Int) (x1:Int) (x2:Option Addr) (x3:Nat) (x4:Nat) (x5:Option Addr) (x6:Nat) (x7:Nat):prog.built 39 [(0,.int .i64 x0),(1,.int .i64 x1),(2,.slice x2 x3 x4),(3,.slice x5 x6 x7)]=some #[.int .i64 x0,.int .i64 x1,.slice x2 x3 x4,.slice x5 x6 x7]:=by kernel_rfl
end
section
variable [Ctx prog]
set_option maxHeartbeats 1000000 in
theorem fy1 {m kc:Nat} {ks:Nat->List ByteArray} {ka:Option Addr} {kA:Nat->Option Addr} {kC:Nat->Nat} (w0:World) (rc0:uq0 w0 ka m ks kA kC):C prog 47 #[.slice ka m kc] w0 fun v w=>∃a c oa oc,v= .slice a m c/\j9 w w0.heap.size m ks oa oc/\Own w w0.heap.size 86 1 a m c ((List.range m).map (ur0 ks oa oc))/\Below w0.heap.size w0 w:=by
 refine C.enter (n:=43) func47 rfl rfl ?_;have hb:Below w0.heap.size w0 w0:=Below.refl _ _;have hlm:=rc0.len;refine U0 ?_;refine U92 ?_;refine U93 ?_;refine U38 ?_;refine W.loop (fun k e w=>∃(i:Nat),∃(a:Option Addr),∃(c:Nat),∃(oa:Nat->Option Addr),∃(oc:Nat->Nat),k=m-i/\e 0= .slice ka m kc/\e 3= .slice a i c/\e 4= .int .i64 (i:Nat)/\i <=m/\Below w0.heap.size w0 w/\Own w w0.heap.size 86 1 a i c ((List.range i).map (ur0 ks oa oc))/\j9 w w0.heap.size i ks oa oc/\uq0 w ka m ks kA kC) _ ⟨0,none,0,(fun _=>none),(fun _=>0),rfl,rfl,rfl,rfl,Nat.zero_le _,hb,Own.nil _ _ _ _,j9.none,rc0⟩ ?_;rintro k e w ⟨i,a,c,oa,oc,hk,s0,s3,s4,hi,hb,hO,hR,hKs⟩;rw[P0 s0,P0 s3,P0 s4];clear s0 s3 s4;refine U13 ?_;refine L.va (aj0 rfl) ?_;refine U525 ?_;refine W.Y5 rfl (fun h10=>?_) (fun h10=>?_)
 ·have I1:i<m:=by omega
  have hll:=hlm.2 i I1;refine U24 ?_;refine U93 ?_;refine U38 ?_;obtain⟨w1,hw1⟩:∃w1,w1=w:=⟨_,rfl⟩
  subst hw1;have hO1:=hO;have hR1:=hR;have h01:w0.heap.size <=w1.heap.size:=hb.size;refine W.loop (fun k e w=>∃(u:Nat),∃(la:Option Addr),∃(lc:Nat),k=(ks i).length-u/\e 0= .slice ka m kc/\e 3= .slice a i c/\e 4= .int .i64 (i:Nat)/\e 5= .slice la (6*u) lc/\e 6= .int .i64 (u:Nat)/\u <=(ks i).length/\Below w0.heap.size w0 w/\Below w1.heap.size w1 w/\Own w w1.heap.size 85 3 la (6*u) lc (Gm0 ((ks i).take u))/\uq0 w ka m ks kA kC) _ ⟨0,none,0,rfl,rfl,rfl,rfl,rfl,rfl,Nat.zero_le _,hb,Below.refl _ _,Own.nil _ _ _ _,hKs⟩ ?_;rintro k e w ⟨u,la,lc,hk,s0,s3,s4,s5,s6,hu,hb,hbn,hl,hKs⟩;rw[P0 s0,P0 s3,P0 s4,P0 s5,P0 s6];clear s0 s3 s4 s5 s6;refine U13 ?_;refine U34 ?_;refine U399 ?_;refine L.va (K6 rfl underlying61 rfl) ?_;refine U32 ?_;refine W.Y5 rfl (fun h19=>?_) (fun h19=>?_)
  ·have hut:u<(ks i).length:=by omega
   obtain⟨key,Dp0⟩:∃key,(ks i)[u]? =some key:=⟨_,List.getElem?_eq_getElem hut⟩
   refine U64 ?_;refine U196 ?_;refine U34 ?_;refine U399 ?_;refine L.va (o4 rfl) ?_;refine L.va (n8 (i:=u) rfl rfl underlying61 sz9 (hKs.sl2 i I1) hut) ?_;refine L.va (A0 (v:=.string key) rfl underlying9 rfl ((hKs).str i I1 u key Dp0)) ?_;refine L.va (G2 (vs:=[(0,.int .i64 1),(2,.string key)]) rfl (oe1 _ _)) ?_;refine L.va (G2 (vs:=[(0,.int .i64 5)]) rfl (Dr0 _)) ?_;refine L.va (G2 (vs:=[(0,.int .i64 2)]) rfl (Dr0 _)) ?_;refine L.va (G2 (vs:=[(0,.int .i64 5)]) rfl (Dr0 _)) ?_;refine L.va (G2 (vs:=[(0,.int .i64 3)]) rfl (Dr0 _)) ?_;refine L.va (G2 (vs:=[(0,.int .i64 4)]) rfl (Dr0 _)) ?_;refine L.Ps0 (vs:=[(0,.agg #[.int .i64 1,.int .i64 0,.string key]),(1,.agg #[.int .i64 5,.int .i64 0,.string ByteArray.empty]),(2,.agg #[.int .i64 2,.int .i64 0,.string ByteArray.empty]),(3,.agg #[.int .i64 5,.int .i64 0,.string ByteArray.empty]),(4,.agg #[.int .i64 3,.int .i64 0,.string ByteArray.empty]),(5,.agg #[.int .i64 4,.int .i64 0,.string ByteArray.empty])]) (cs:=#[.int .i64 1,.int .i64 0,.string key,.int .i64 5,.int .i64 0,.string ByteArray.empty,.int .i64 2,.int .i64 0,.string ByteArray.empty,.int .i64 5,.int .i64 0,.string ByteArray.empty,.int .i64 3,.int .i64 0,.string ByteArray.empty,.int .i64 4,.int .i64 0,.string ByteArray.empty]) rfl underlying86 Ul0 in1 (by decide) (by kernel_rfl) (fun w b36 F36=>?_);have tk1:=F36.lq hb.size;have hb:=G0 hb F36.below;have hbn:=G0 hbn F36.below;have hl:=hl.j0 F36.below;have hw0:=F36.blk;refine L.M7 (B:=w1.heap.size) (m:=6) rfl rfl underlying86 pl1 rfl (by decide) hl (fun h=>by cases h) (news:=[.int .i64 1,.int .i64 0,.string key,.int .i64 5,.int .i64 0,.string ByteArray.empty,.int .i64 2,.int .i64 0,.string ByteArray.empty,.int .i64 5,.int .i64 0,.string ByteArray.empty,.int .i64 3,.int .i64 0,.string ByteArray.empty,.int .i64 4,.int .i64 0,.string ByteArray.empty]) rfl (fun ad had j u hj=>by
    cases had;rw[Addr.add_lit]
    match j,hj with
    |0,hj=>cases hj;exact hw0.q0 0 rfl
    |1,hj=>cases hj;exact hw0.q0 1 rfl
    |2,hj=>cases hj;exact hw0.q0 2 rfl
    |3,hj=>cases hj;exact hw0.q0 3 rfl
    |4,hj=>cases hj;exact hw0.q0 4 rfl
    |5,hj=>cases hj;exact hw0.q0 5 rfl
    |6,hj=>cases hj;exact hw0.q0 6 rfl
    |7,hj=>cases hj;exact hw0.q0 7 rfl
    |8,hj=>cases hj;exact hw0.q0 8 rfl
    |9,hj=>cases hj;exact hw0.q0 9 rfl
    |10,hj=>cases hj;exact hw0.q0 10 rfl
    |11,hj=>cases hj;exact hw0.q0 11 rfl
    |12,hj=>cases hj;exact hw0.q0 12 rfl
    |13,hj=>cases hj;exact hw0.q0 13 rfl
    |14,hj=>cases hj;exact hw0.q0 14 rfl
    |15,hj=>cases hj;exact hw0.q0 15 rfl
    |16,hj=>cases hj;exact hw0.q0 16 rfl
    |17,hj=>cases hj;exact hw0.q0 17 rfl) (fun u hu=>by simp only[List.mem_cons,List.not_mem_nil,or_false]at hu;rcases hu with rfl|rfl|rfl|rfl|rfl|rfl|rfl|rfl|rfl|rfl|rfl|rfl|rfl|rfl|rfl|rfl|rfl|rfl <;> rfl) (by omega) (by omega) hbn.size (fun la2 lc2 w2 hO2 hg2 Y0 _=>?_)
   have hbn:=hbn.trans Y0;have hb:=Below.to hb h01 Y0;have hKs:=rc0.j0 hb;have hl2:Own w2 w1.heap.size 85 3 la2 (6*(u+1)) lc2 (Gm0 ((ks i).take (u+1))):=by rw[Kz0 Dp0,Sw0];exact hO2
   clear hg2 Y0 hl hO2
   rename World=>w
   refine U84 ?_;refine U42 ?_;exact⟨_,by omega,⟨u+1,la2,lc2,rfl,rfl,rfl,rfl,rfl,rfl,(by omega),hb,hbn,hl2,hKs⟩⟩
  ·refine W.exit ?_;refine U251 ?_;have hue:u=(ks i).length:=by omega
   rw[hue,List.take_length]at hl;rw[hue];have hO:=hO1.j0 hbn;have hR:=hR1.j0 hbn;clear hbn;refine U196 ?_;refine L.va (aj0 rfl) ?_;refine L.bq0 (cs:=#[.slice la (6*(ks i).length) lc]) rfl rfl underlying36 bs1 rfl ⟨_,io1⟩ (by decide) (fun w b40 F40=>?_);have Ch0:=F40.lq hb.size;have hb:=G0 hb F40.below;have hO:=hO.j0 F40.below;have hR:=hR.j0 F40.below;have hl:=hl.j0 F40.below;have kc0:=F40.blk;refine L.M7 (B:=w0.heap.size) (m:=1) rfl rfl underlying36 pm1 rfl (by decide) hO (fun h=>by cases h) (news:=[.slice la (6*(ks i).length) lc]) rfl (fun ad had j u hj=>by
    cases had;rw[Addr.add_lit]
    match j,hj with
    |0,hj=>cases hj;exact kc0.q0 0 rfl) (fun u hu=>by simp only[List.mem_cons,List.not_mem_nil,or_false]at hu;subst hu;rfl) (by omega) (by omega) hb.size (fun a2 c2 w2 hO2 hg2 Y0 _=>?_)
   have hmo:I4 w w2 w0.heap.size [86]:=I4.app hO hg2 Y0 rfl hO2;have hb:=hb.trans Y0;have hR:=hR.mod hmo rfl;have hl:=hl.mod hmo rfl;have hKs:=rc0.j0 hb;clear hmo hg2 Y0 hO
   rename World=>w
   refine U84 ?_;refine U42 ?_;exact⟨_,by omega,⟨i+1,a2,c2,(C3 oa i la),(C3 oc i lc),rfl,rfl,rfl,rfl,(by omega),hb,(by rw[Sx0];exact hO2),(hR.add h01 hl),hKs⟩⟩
 ·obtain rfl:m=i:=by omega
  refine W.exit ?_;refine U205 ?_;refine U100 ?_;exact⟨a,c,oa,oc,rfl,hR,hO,hb⟩
theorem Xs0 {m kc:Nat} {ks:Nat->List ByteArray} {ka:Option Addr} {kA:Nat->Option Addr} {kC:Nat->Nat} {n:Int} {sn scp:Nat} {sa:Option Addr} (w0:World) (rc0:uq0 w0 ka m ks kA kC):C prog 23 #[.agg #[.int .i64 n,.slice ka m kc,.slice sa sn scp]] w0 fun v w=>∃a c oa oc,v= .agg #[.int .i64 1,.int .i64 n,.slice a m c,.slice sa sn scp]/\j9 w w0.heap.size m ks oa oc/\Own w w0.heap.size 86 1 a m c ((List.range m).map (ur0 ks oa oc))/\Below w0.heap.size w0 w:=by
 refine C.enter (n:=11) func23 rfl rfl ?_;refine U1 ?_;intro hb;refine L.box (cs:=#[.int .i64 n,.slice ka m kc,.slice sa sn scp]) rfl rfl (fun w b1 F1=>?_);refine U131 ?_;intro lt1 hb;have E6:=F1.blk;refine L.alloc (cs:=#[.int .i64 0,.int .i64 0,.slice none 0 0,.slice none 0 0]) ij1 rfl (fun w b2 F2=>?_);refine U16 ?_;intro lt2 hb;have E6:=E6.j0 F2.below;have Z1:=F2.blk;refine U227 ?_;refine W.fl 7 [4] [0,1,2,3,5,6,4] (fun w'=>K0 w' b1 #[.int .i64 n,.slice ka m kc,.slice sa sn scp] 59) (by kernel_rfl) (by kernel_rfl) (by kernel_rfl) (by kernel_rfl) (by kernel_rfl) (E6.j0 (Below.refl w.heap.size w).drew) ?_;refine U18 ?_;intro Q3 hb;have E6:=E6.j0 Q3;have Z1:=Z1.j0 Q3;clear Q3;generalize w.drew=w at *;refine F.va rfl rfl (fun w' L1=>(B0 rfl underlying59 rfl sz3 (by decide))) ?_;refine F.va rfl rfl (fun w' L1=>(A0 rfl underlying3 rfl (L1.q0 0 (v:=.int .i64 n) rfl))) ?_;refine F.va rfl rfl (fun w' L1=>(B0 rfl underlying59 rfl ik1 (by decide))) ?_;refine F.va rfl rfl (fun w' L1=>(A0 rfl underlying57 rfl (L1.q0 1 (v:=.slice ka m kc) rfl))) ?_;refine F.va rfl rfl (fun w' L1=>(B0 rfl underlying59 rfl nz0 (by decide))) ?_;refine F.va rfl rfl (fun w' L1=>(A0 rfl underlying37 rfl (L1.q0 2 (v:=.slice sa sn scp) rfl))) ?_;refine F.doo rfl rfl ?_;refine L.call (E2 rfl func47 rfl qa1 rfl) (fy1 _ (rc0.j0 hb)) ?_;rintro _ w ⟨a,c,oa,oc,rfl,hR,hO,I2⟩;have hR:=hR.down hb.size;have hO:=hO.down hb.size;refine U72 ?_;intro hb E6;have Z1:=Z1.j0 I2;refine L.nil ⟨rfl,E6,?_⟩;refine U8 ?_;refine L.va (G2 (parts:=[(0,.const (.int .i64 1)),(1,.tmp 4),(2,.tmp 7),(3,.tmp 9)]) rfl (Xr0 1 n a m c sa sn scp)) ?_;refine L.pu 0 [.int .i64 1,.int .i64 n,.slice a m c,.slice sa sn scp] #[.int .i64 1,.int .i64 n,.slice a m c,.slice sa sn scp] Ni0 Z1 (fun w E1 hg O2=>?_);have P5:=I4.de0 Z1 hg;have hb:=p5 hb hb.size hg lt2;have hR:=hR.mod P5 rfl;have hO:=hO.mod P5 rfl;have Z1:=E1;refine U56 ?_;refine ends.cell (cs:=#[.int .i64 1,.int .i64 n,.slice a m c,.slice sa sn scp]) (.inr rfl) rfl rfl underlying39 rfl Ni0 Z1 ?_;exact⟨a,c,oa,oc,rfl,hR,hO,hb⟩
theorem Ta0 {sn scp N:Nat} {sc:Nat->Int} {sa:Option Addr} (hsn:sn <=2000) (hN:N <=100000) (w0:World) (hSc:od0 w0 sa sn scp sc):C prog 24 #[.slice sa sn scp,.int .i64 (N:Int)] w0 fun v w=>∃a c,v= .slice a (sn+N) c/\Own w w0.heap.size 3 1 a (sn+N) c ((List.range (sn+N)).map fun j=>.int .i64 (scL sc sn j))/\Below w0.heap.size w0 w:=by
 refine C.enter (n:=20) func24 rfl rfl ?_;refine U1 ?_;intro hb;refine U92 ?_;refine L.En0 underlying37 sz3 (fun w b7 F7=>?_);have lt7:=F7.lq hb.size;have hb:=G0 hb F7.below;have hB7:=F7.blk;have hO:Own w w0.heap.size 3 1 (some ⟨b7,0,none⟩) 0 0 []:=Own.vo0 (s:=1) (n:=0) hB7 rfl lt7 (Nat.le_refl _) (by decide);clear hB7;refine L.va (aj0 rfl) ?_;have Xt0:=hSc.j0 hb;refine L.M7 (B:=w0.heap.size) (m:=sn) rfl rfl underlying37 in3 rfl (by decide) hO Xt0.nil (news:=(List.range sn).map fun j=>.int .i64 (sc j)) (by simp) (fun ad had j u hj=>?_) (fun u hu=>by obtain⟨x,_,rfl⟩:=List.mem_map.1 hu;rfl) (by omega) (by omega) hb.size (fun a2 c2 w2 hO2 hg2 Y0 _=>?_)
 ·have hjl:j<sn:=by have:=(List.getElem?_eq_some_iff.1 hj).1;simpa using this
  have hv:u= .int .i64 (sc j):=by rw[List.getElem?_map,List.getElem?_range hjl]at hj;exact(Option.some.inj hj).symm
  rw[hv];have h9:=Xt0.cell j hjl;rw[had]at h9;have h8:=Xt0.sl;rw[had]at h8;exact of1 h8 hjl h9
 have hb:=hb.trans Y0;clear hg2 Y0 hO Xt0
 rename World=>w
 rw[List.nil_append]at hO2;have hO:=hO2;rw[Nat.zero_add]at hO;rw[Nat.zero_add];clear hO2;refine U93 ?_;refine U38 ?_;refine W.loop (fun k e w=>∃(i:Nat),∃(a:Option Addr),∃(c:Nat),k=N-i/\e 0= .slice sa sn scp/\e 1= .int .i64 (N:Int)/\e 5= .slice a (sn+i) c/\e 6= .int .i64 (i:Nat)/\i <=N/\Below w0.heap.size w0 w/\Own w w0.heap.size 3 1 a (sn+i) c ((List.range (sn+i)).map fun j=>.int .i64 (scL sc sn j))) _ ⟨0,a2,c2,rfl,rfl,rfl,rfl,rfl,Nat.zero_le _,hb,(by rw[fw1];exact hO)⟩ ?_;rintro k e w ⟨i,a,c,hk,s0,s1,s5,s6,hi,hb,hO⟩;refine U506 ?_;refine U13 ?_;refine L.va (o4 rfl) ?_;refine U32 ?_;refine W.Y5 rfl (fun h12=>?_) (fun h12=>?_)
 ·have I1:i<N:=by omega
  refine U64 ?_;refine W.region rfl ?_;refine U34 ?_;refine L.bq0 (cs:=#[.int .i64 (i:Nat)]) rfl rfl underlying37 sz3 rfl ⟨_,zr3⟩ (by decide) (fun w b17 F17=>?_);have tl1:=F17.lq hb.size;have hb:=G0 hb F17.below;have hO:=hO.j0 F17.below;have sq1:=F17.blk;refine L.M7 (B:=w0.heap.size) (m:=1) rfl rfl underlying37 in3 rfl (by decide) hO (fun h=>by cases h) (news:=[.int .i64 (i:Nat)]) rfl (fun ad had j u hj=>by
   cases had;rw[Addr.add_lit]
   match j,hj with
   |0,hj=>cases hj;exact sq1.q0 0 rfl) (fun u hu=>by simp only[List.mem_cons,List.not_mem_nil,or_false]at hu;subst hu;rfl) (by omega) (by omega) hb.size (fun a3 c3 w2 hO2 hg2 Y0 _=>?_)
  have hb:=hb.trans Y0;clear hg2 Y0 hO
  rename World=>w
  refine U84 ?_;refine U42 ?_;exact⟨_,by omega,⟨i+1,a3,c3,rfl,rfl,rfl,rfl,rfl,(by omega),hb,(by rw[Sz0];exact hO2)⟩⟩
 ·obtain rfl:N=i:=by omega
  refine W.exit ?_;refine U205 ?_;refine U100 ?_;exact⟨a,c,rfl,hO,hb⟩
theorem og1 {R:Rn} (w0:World) (hEb:K0 w0 R.eb (R.ends.map (Value.int .i64)).toArray 3) (hm:R.m <=16) (hE:∀i,i<R.m->R.ends[i]? =some 1):C prog 25 #[.agg #[.slice R.ea R.evs.length R.ec,.slice R.na R.nts.length R.nc,.slice (some ⟨R.eb,0,none⟩) R.m R.m,.slice (some ⟨R.wb,0,none⟩) R.m R.m,.bool R.stuck,.int .i64 (R.used:Int)]] w0 fun v w=>v= .bool true/\Below w0.heap.size w0 w:=by
 refine C.enter (n:=17) func25 rfl rfl ?_;refine U1 ?_;intro hb;refine L.box (cs:=#[.slice R.ea R.evs.length R.ec,.slice R.na R.nts.length R.nc,.slice (some ⟨R.eb,0,none⟩) R.m R.m,.slice (some ⟨R.wb,0,none⟩) R.m R.m,.bool R.stuck,.int .i64 (R.used:Int)]) rfl rfl (fun w b1 F1=>?_);refine U131 ?_;intro lt1 hb;have E6:=F1.blk;refine U6 ?_;refine U7 ?_;refine U38 ?_;refine W.loop (fun k e w=>∃(i:Nat),k=R.m-i/\e 1= .pointer (some ⟨b1,0,none⟩)/\e 3= .int .i64 (i:Nat)/\i <=R.m/\Below w0.heap.size w0 w/\K0 w b1 #[.slice R.ea R.evs.length R.ec,.slice R.na R.nts.length R.nc,.slice (some ⟨R.eb,0,none⟩) R.m R.m,.slice (some ⟨R.wb,0,none⟩) R.m R.m,.bool R.stuck,.int .i64 (R.used:Int)] 45) _ ⟨0,rfl,rfl,rfl,Nat.zero_le _,hb,E6⟩ ?_;rintro k e w ⟨i,hk,s1,s3,hi,hb,E6⟩;rw[P0 s1,P0 s3];clear s1 s3;refine U13 ?_;refine U400 ?_;refine L.va (K6 rfl underlying37 rfl) ?_;refine U32 ?_;refine W.Y5 rfl (fun h8=>?_) (fun h8=>?_)
 ·have I1:i<R.m:=by omega
  refine U24 ?_;refine U400 ?_;refine L.va (o4 rfl) ?_;refine L.va (n8 (i:=i) rfl rfl underlying37 sz3 (fun _=>rfl) I1) ?_;refine L.va (A0 (v:=.int .i64 1) rfl underlying3 rfl (by show World.cell? _ ⟨R.eb,0+i*1,none⟩=_;rw[Nat.zero_add,Nat.mul_one];exact(hEb.j0 hb).q0 i (by rw[List.getElem?_toArray,List.getElem?_map,hE i I1];rfl))) ?_;refine L.va (C7 (r:=false) (by decide) (pf0 (m:=1) (k:=1) rfl rfl)) ?_;refine U246 ?_;refine W.skip ?_;refine U42 ?_;exact⟨_,by omega,⟨i+1,rfl,rfl,rfl,(by omega),hb,E6⟩⟩
 ·refine W.exit ?_;refine U15 ?_;exact U101
end
set_option maxHeartbeats 2000000 in
theorem sr1 {lb:Nat} {pl:Nat->E7} {n:Int} {m kc sn scp:Nat} {ks:Nat->List ByteArray} {ka sa:Option Addr} {kA:Nat->Option Addr} {kC:Nat->Nat} {sc:Nat->Int} (w0:World) (rc0:uq0 w0 ka m ks kA kC) (hzk:∀i,m <=i->ks i=[]) (hkz:∀i k,k∈ks i->k.size <=1000000000000) (hSc:od0 w0 sa sn scp sc) (hsn:sn <=1000000000):@C prog (l9 lb pl) 7 #[.agg #[.int .i64 n,.slice ka m kc,.slice sa sn scp]] w0 fun v w=>v= .bool true/\Below w0.heap.size w0 w:=by
 letI:Ctx prog:=l9 lb pl;refine C.enter (n:=67) func7 rfl rfl ?_;have hb:Below w0.heap.size w0 w0:=Below.refl _ _;have hlm:=rc0.len;refine U0 ?_;refine L.box (cs:=#[.int .i64 n,.slice ka m kc,.slice sa sn scp]) rfl rfl (fun w b1 F1=>?_);refine U131 ?_;intro lt1 hb;have E6:=F1.blk;refine U6 ?_;refine U0 ?_;refine L.va (B2 (cs:=[.int .i64 n,.slice ka m kc,.slice sa sn scp]) rfl underlying59 rfl pb1 rfl (E6.L6 rfl)) ?_;refine L.call (E2 rfl func23 rfl ps1 rfl) (Xs0 _ (rc0.j0 hb)) ?_;rintro _ w ⟨fa,fc,oa,oc,rfl,hR,hO,I2⟩;have hR:=hR.down hb.size;have hO:=hO.down hb.size;refine U72 ?_;intro hb E6;have Iq0:=E6;have oh1:=hR;have oi1:=hO;have qz0:=hb;refine L.alloc (cs:=#[.int .i64 0,.int .i64 0,.slice none 0 0,.slice none 0 0]) ij1 rfl (fun w b3 F3=>?_);have lt3:=F3.lq hb.size;have v7:=F3.blk;refine L.pa [.int .i64 1,.int .i64 n,.slice fa m fc,.slice sa sn scp] Ni0 v7 (fun w E1 hg O2=>?_);have hbA:=p5 F3.below F3.below.size hg (by have:=F3.here;omega);have E6:=Iq0.j0 hbA;have hR:=oh1.j0 hbA;have hO:=oi1.j0 hbA;have hb:=G0 qz0 hbA;have v7:=E1;clear E1 hg O2 hbA F3 Iq0 oh1 oi1 qz0;refine U3 ?_;refine U7 ?_;refine L.va (B2 (cs:=[.int .i64 1,.int .i64 n,.slice fa m fc,.slice sa sn scp]) rfl underlying39 rfl Ni0 rfl (v7.L6 rfl)) ?_;refine L.call (E2 rfl func18 rfl pr1 rfl) (fg1 _ (by omega) (by omega) (hR.oc1 hO hlm.2)) ?_;rintro _ w ⟨bf,rfl,aw1,I2⟩;refine U72 ?_;intro hb E6;have hR:=hR.j0 I2;have hO:=hO.j0 I2;have v7:=v7.j0 I2;refine L.va (nf0 rfl) ?_;refine U3 ?_;refine W.cond rfl (fun h13=>?_) (fun h13=>?_)
 ·refine W.seq ?_;refine W.region rfl ?_;refine L.call (ks0  func11 rfl iv1 rfl) (So0 _) ?_;rintro _ w ⟨rfl,I2⟩;have hb:=G0 hb I2;exact U101
 ·have hbf:bf=true:=by simpa using h13
  obtain⟨hF,ss1⟩:=aw1 hbf;have hsm:=hF.sum;rw[Sy0 ks m m (Nat.le_refl _)]at hsm;obtain⟨nn,hnn⟩:∃nn:Nat,n=(nn:Int):=⟨n.toNat,by have:=hF.n1;omega⟩
  have sj1:=hF.m1;refine U76 ?_;refine U29 ?_;refine U7 ?_;refine U38 ?_;refine W.loop (fun k e w=>∃(i:Nat),k=m-i/\e 1= .pointer (some ⟨b1,0,none⟩)/\e 3= .pointer (some ⟨b3,0,none⟩)/\e 4= .int .i64 ((15*n6 (fun j=>(ks j).length) i:Nat):Int)/\e 5= .int .i64 (i:Nat)/\i <=m/\K0 w b1 #[.int .i64 n,.slice ka m kc,.slice sa sn scp] 59/\K0 w b3 #[.int .i64 1,.int .i64 n,.slice fa m fc,.slice sa sn scp] 39/\j9 w w0.heap.size m ks oa oc/\Own w w0.heap.size 86 1 fa m fc ((List.range m).map (ur0 ks oa oc))/\Below w0.heap.size w0 w) _ ⟨0,rfl,rfl,rfl,rfl,rfl,Nat.zero_le _,E6,v7,hR,hO,hb⟩ ?_;rintro k e w ⟨i,hk,s1,s3,s4,s5,hi,E6,v7,hR,hO,hb⟩;rw[P0 s1,P0 s3,P0 s4,P0 s5];clear s1 s3 s4 s5;refine U13 ?_;refine U407 ?_;refine U525 ?_;refine W.Y5 rfl (fun h19=>?_) (fun h19=>?_)
  ·have I1:i<m:=by omega
   have hsi:=ln0 (f:=fun j=>(ks j).length) (n:=i) (B:=1048576) fun j hj=>hlm.2 j (by omega);have hmul:IntKind.i64.wrap (15*((ks i).length:Int))=((15*(ks i).length:Nat):Int):=by have:=hlm.2 i I1;rw[IntKind.wrap_i64];omega
   have rp0:((15*n6 (fun j=>(ks j).length) i:Nat):Int)+((15*(ks i).length:Nat):Int)=((15*n6 (fun j=>(ks j).length) (i+1):Nat):Int):=by rw[V5];omega
   have hl9:=hlm.2 i I1;have hi9:i*1048576 <=16*1048576:=Nat.mul_le_mul_right _ (by omega);refine U64 ?_;refine U198 ?_;refine U407 ?_;refine L.va (o4 rfl) ?_;refine L.va (n8 (i:=i) rfl rfl underlying57 il1 rc0.sl I1) ?_;refine L.va (A0 (v:=.slice (kA i) (ks i).length (kC i)) rfl underlying61 rfl ((rc0.j0 hb).row i I1)) ?_;refine L.va (K6 rfl underlying61 rfl) ?_;refine L.va (hmul▸pe0 (m:=15) (k:=((ks i).length:Int)) rfl rfl) ?_;refine L.va (rp0▸cp0 (m:=((15*n6 (fun j=>(ks j).length) i:Nat):Int)) (k:=((15*(ks i).length:Nat):Int)) rfl rfl (by omega)) ?_;refine U306 ?_;refine U42 ?_;exact⟨_,by omega,⟨i+1,rfl,rfl,rfl,rfl,rfl,(by omega),E6,v7,hR,hO,hb⟩⟩
  ·obtain rfl:m=i:=by omega
   refine W.exit ?_;refine U15 ?_;refine L.va (B0 rfl underlying59 rfl nz0 (by decide)) ?_;refine L.va (A0 rfl underlying37 rfl (E6.q0 2 (v:=.slice sa sn scp) rfl)) ?_;refine L.va (o4 rfl) ?_;refine L.call (L2 rfl rfl func24 rfl pt1 rfl) (Ta0 (N:=15*n6 (fun j=>(ks j).length) m) ss1 (by omega) _ (hSc.j0 hb)) ?_;rintro _ w ⟨la,lc,rfl,hOL,I2⟩;have hOL:=hOL.down hb.size;refine U72 ?_;intro hb E6;have v7:=v7.j0 I2;have hR:=hR.j0 I2;have hO:=hO.j0 I2;refine L.va (B0 rfl underlying39 rfl nz0 (by decide)) ?_;refine L.pu 3 [.slice la (sn+15*n6 (fun j=>(ks j).length) m) lc] #[.int .i64 1,.int .i64 n,.slice fa m fc,.slice la (sn+15*n6 (fun j=>(ks j).length) m) lc] nz0 v7 (fun w E1 hg O2=>?_);have P5:=I4.de0 v7 hg;have hb:=p5 hb hb.size hg lt3;have E6:=E6.mod P5 rfl;have hR:=hR.mod P5 rfl;have hO:=hO.mod P5 rfl;have hOL:=hOL.mod P5 rfl;have v7:=E1;refine U21 ?_;refine U0 ?_;refine L.va (B2 (cs:=[.int .i64 1,.int .i64 n,.slice fa m fc,.slice la (sn+15*n6 (fun j=>(ks j).length) m) lc]) rfl underlying39 rfl Ni0 rfl (v7.L6 rfl)) ?_;have Tb0:=Sm0 (lb:=lb) (pl:=pl) (obj:=1) (n:=nn) (bc:=fc) (sc:=scL sc sn) w (hR.oc1 hO hlm.2) (fun i hi=>if_neg (by omega)) (Xq0 hkz) (fx1 hOL) ⟨by have:=hF.n1;omega,hF.m1,hF.sum,by omega⟩;rw[<- hnn]at Tb0;obtain⟨Bq,hBq⟩:∃Bq,Bq=w.heap.size:=⟨_,rfl⟩
   refine L.call (E2 rfl func19 rfl ix1 rfl) Tb0 ?_;rintro _ w1 ⟨p,R,mF,r1,rfl,⟨pm,pbo,pn,fl1,pB⟩,hY,I2⟩;rw[<- hBq]at hY;refine U72 ?_;intro hb E6;clear I2 Tb0 hBq
   rename World=>w
   have hbo:=pbo.trans (od1 hzk);have nq0:=Xp0 (ks:=ks) hY.ok hbo (sc:=scL sc sn) (sn:=sn+15*n6 (fun j=>(ks j).length) m) (by rw[pm];omega);have R2:R.stuck=false:=by rw[hY.run.stuck,nq0.2.1];rfl
   have hRm:R.m=m:=hY.run.hm.trans pm;have D7:∀i,i<R.m->R.ends[i]? =some 1:=fun i hi=>by rw[hRm]at hi;rw[hY.run.ends i (by show i<p.m;omega),nq0.1 i (by omega)];rfl
   have hle:((R.evs.length:Nat):Int) <=((15*n6 (fun j=>(ks j).length) m:Nat):Int):=by have h9:=nq0.2.2.2;rw[<- hY.run.evs,pm]at h9;omega
   refine U181 ?_;refine L.va (D9 rfl rfl) ?_;have Iq0:=E6;have Dl0:=hY;have qz0:=hb;refine L.alloc (cs:=#[.slice none 0 0,.slice none 0 0,.slice none 0 0,.slice none 0 0,.bool false,.int .i64 0]) Nj0 rfl (fun w b6 F6=>?_);have lt6:=F6.lq hb.size;have hB6:=F6.blk;refine L.pa [.slice R.ea R.evs.length R.ec,.slice R.na R.nts.length R.nc,.slice (some ⟨R.eb,0,none⟩) R.m R.m,.slice (some ⟨R.wb,0,none⟩) R.m R.m,.bool R.stuck,.int .i64 (R.used:Int)] jz0 hB6 (fun w E1 hg O2=>?_);have hbA:=p5 F6.below F6.below.size hg (by have:=F6.here;omega);have hY:=Dl0.j0 hbA;have hb:=G0 qz0 hbA;have hB6:=E1;clear E1 hg O2 hbA F6 Iq0 Dl0 qz0;refine U68 ?_;refine U0 ?_;refine L.va (co0 rfl) ?_;refine U59 ?_;refine L.va (B2 (cs:=[.slice R.ea R.evs.length R.ec,.slice R.na R.nts.length R.nc,.slice (some ⟨R.eb,0,none⟩) R.m R.m,.slice (some ⟨R.wb,0,none⟩) R.m R.m,.bool R.stuck,.int .i64 (R.used:Int)]) rfl underlying45 rfl jz0 rfl (hB6.L6 rfl)) ?_;refine L.on rfl ?_;refine L.call (E2 rfl func25 rfl pu1 rfl) (og1 w hY.run.mem.ends (by omega) D7) ?_;rintro _ w ⟨rfl,I2⟩;have hb:=G0 hb I2;have hY:=hY.j0 I2;have hB6:=hB6.j0 I2;clear I2;refine U48 ?_;refine L.va (B0 rfl underlying45 rfl sz4 (by decide)) ?_;refine L.on rfl ?_;refine L.va (A0 (v:=.bool false) rfl underlying4 rfl (by have h9:=hB6.q0 4 (v:=.bool R.stuck) rfl;rw[R2]at h9;exact h9)) ?_;refine L.on rfl ?_;refine L.va (nf0 rfl) ?_;refine U48 ?_;refine U488 ?_;rintro _ w ⟨rfl,I2⟩;have hb:=G0 hb I2;have hB6:=hB6.j0 I2;clear I2;rw[nq0.2.2.1];refine U273 ?_;refine U48 ?_;refine U469 ?_;refine L.va (A0 rfl underlying41 rfl (hB6.q0 0 (v:=.slice R.ea R.evs.length R.ec) rfl)) ?_;refine L.on rfl ?_;refine L.va (K6 rfl underlying41 rfl) ?_;refine L.on rfl ?_;refine U82 ?_;refine L.va (C7 (r:=true) (decide_eq_true hle) (Gy0 (m:=((R.evs.length:Nat):Int)) (k:=((15*n6 (fun j=>(ks j).length) m:Nat):Int)) rfl rfl)) ?_;refine U48 ?_;refine L.call (ks0  func11 rfl iv1 rfl) (So0 _) ?_;rintro _ w ⟨rfl,I2⟩;have hb:=G0 hb I2;refine L.va (A7 rfl) ?_;exact U101
end Go.Vy.Sc
end
section
namespace Go.Vy
open Go Go.Conc
theorem Le0 {H:Type} {enc:TypeId×Value->H} {a:Assume} {C:Checked} {os:Os} {f:FuncId} {fn:Func} {s:OpenSpec} {k:(H:Type)->List (DataW H)->Bool} (hk:s.cond=some k) {F:Stop.Interp} {conds:List PathCond} {apart fresh handsOn again:Bool}
  (own:ownKnob C.prog.godebug=none) (started:os.Started) (hfn:C.prog.funcs[f]? =some fn)
  (wit:∃(w:World) (tape:Tape) (i:Input),w.os=os/\(w.forCall tape i).Shaped C.prog/\i.vars=[]/\Input.okWide C.prog (w.forCall tape i) .any w.heap.size f i/\s.pre6 enc C.prog fn conds apart (w.forCall tape i).memory i.args/\a.holds C.prog (lone (Frame.enter C.prog f i.args .normal) [] (w.forCall tape i)))
  (runs:∀(W:World) (base:Nat) (args:Array Value) (ds gs:List (DataW H)) (before:List MemPlace),(∀(j:Nat) t v,fn.params[j]? =some t->args[j]? =some v->Value.okWide C.prog W .any base t v)->DataW.Whole enc C.prog fn.params.toList s.vars apart W args.toList ds gs before->k H (ds++gs)=true ->
   ∃M last o w' t',runNT C.prog (M+1) (solo (G (Frame.enter C.prog f args .normal) []) W) #[]=(.ended o w',t')/\runN C.prog M (solo (G (Frame.enter C.prog f args .normal) []) W)= .next last/\step C.prog last= .ended o w'/\Conc.Good C.prog (fun v W'=>(s.at F).post enc C.prog fn apart fresh handsOn again W args v W') last o w' t') :
  ReturnsInLeavingWide a C os f .any (s.pre6 enc C.prog fn conds apart) ((s.at F).post enc C.prog fn apart fresh handsOn again):=by
 refine returnsInLeavingWide_of_good own started wit fun w tape i _ _ _ hok st1 _=>?_;obtain⟨_,_,_,fn',oj1,_,_,_,_,su1⟩:=hok;rw[hfn]at oj1;obtain rfl:=Option.some.inj oj1;obtain⟨ds,gs,before,hw,_,hkk⟩:=(OpenSpec.pre_some hk conds apart _ _).1 st1.1;obtain⟨M,last,o,w',t',h1,h2,h3,h4⟩:=runs (w.forCall tape i) w.heap.size i.args ds gs before su1 (DataW.Whole.of_heap (w':=w.forCall tape i) (by rfl) hw) hkk;exact⟨M,last,o,w',t',h1,h2,h3,h4.mono fun v hp=>ChangeSpec.post_blind hp⟩
theorem Gn0 {p:Pinned} {s:OpenSpec} {c:OpenClaim} (f:FuncId) (fn:Func) (hn:c.program=p.name) (hs:c.sum=p.sum) (hsp:c.spec=s.name) (hstart:c.start= .entering) (gj0:c.outside=[]) (hin:c.inits=[]) (hun:c.under=none)
  (hi4:c.initsInPlace=[]/\c.initsUnfollowed=false/\c.initsRecurse=false/\c.initsNamed=[]/\c.initsPassed=[]) (hnb:c.noBlocks=false) (hlv:c.leaving=true) (hfo:c.followed=none) (sv1:c.narrowed=s.cond.isSome) (fz1:c.still=false)
  (hfn:p.checked.prog.funcNamed c.func=some f) (hf:p.checked.prog.funcs[f]? =some fn) (closed:joinedFacts p.checked.prog f fn s.bare c=true) (ok1:fn.isInstance p.checked.prog c.origin c.targs) (ol1:fn.isWrapper p.checked.prog c.wrapper c.mainSum)
  (h:∀os:Os,os.Started->∀(H:Type) (enc:TypeId×Value->H),(∀a b,enc a=enc b->a=b)->∀F:Stop.Interp,ReturnsInLeavingWide c.assume p.checked os f .any (c.pre enc p.checked.prog fn s) ((s.at F).post enc p.checked.prog fn c.apart c.fresh c.handsOn c.again)):c.holds p s:=by
 simp only[joinedFacts,Bool.and_eq_true,beq_iff_eq,Array.all_eq_true_iff_forall_mem,List.all_eq_true,decide_eq_true_eq]at closed;obtain⟨⟨⟨⟨⟨⟨⟨⟨⟨⟨⟨⟨⟨⟨⟨⟨⟨⟨⟨⟨⟨⟨⟨⟨⟨⟨⟨⟨⟨⟨⟨q1,q2⟩,q3⟩,q4⟩,q5⟩,q6⟩,q7⟩,q8⟩,q9⟩,q10⟩,q11⟩,q12⟩,q13⟩,q14⟩,q15⟩,q16⟩,q17⟩,sw1⟩,q18⟩,q19⟩,q20⟩,q21⟩,q22⟩,q23⟩,sx1⟩,q24⟩,sy1⟩,ta1⟩,q25⟩,q26⟩,q27⟩,q28⟩:=closed;have hq:∀os:Os,Stop.quiet p.checked.prog os:=fun os k hk=>by rw[q9]at hk;cases hk
 have hex:∃os:Os,c.world os/\Stop.quiet p.checked.prog os:=⟨_,by unfold OpenClaim.world;rw[gj0,hstart];exact WideRow.started_initial,hq _⟩
 refine⟨q1,hn,hs,hsp,q2,q3,?_,?_,f,fn,hfn,hf,⟨q4,q19⟩,(fun hb=>by rw[hnb]at hb;cases hb),?_,ok1,ol1,q6.trans q7.symm,⟨q8.trans q9.symm,?_,sx1⟩,q10,q11,q12,q13,q14,⟨q15,q27,q28⟩,⟨q16,q20⟩,⟨q17,q21,q25,q26⟩,⟨q22,sy1,ta1,sw1⟩,?_,fun n hn'=>varReadable_some (q18 n hn'),hex,[],?_,fun os st _ H enc inj=>?_⟩
 ·unfold OpenClaim.startFits;rw[hstart];exact q24
 ·unfold OpenClaim.startTold;rw[hstart];exact⟨hin,hun,hi4⟩
 ·unfold OpenClaim.namedList;rw[hfo];exact q5
 ·unfold Program.envWorded;rw[q9];rfl
 ·rw[gj0,sv1];cases hsh:c.shortTexts with
  |none=>simp
  |some _=>rw[hsh]at q23;cases q23
 ·unfold OpenClaim.lists;rw[hfo]
 ·have st':os.Started:=by unfold OpenClaim.world at st;rw[gj0,hstart]at st;exact st
  rw[OpenClaim.post_not_still fz1];unfold OpenClaim.form;rw[hstart,q6];intro F;have e1:c.okInput=Input.okWide:=by unfold OpenClaim.okInput;rw[hnb]
  have e2:c.atReturn p.checked.prog=leavingAtReturn p.checked.prog:=by unfold OpenClaim.atReturn;rw[hlv]
  have e3:c.always p.checked.prog []=nothingAlways:=by unfold OpenClaim.always;rw[hfo]
  have e4:s.post enc p.checked.prog fn F c.outside c.apart c.fresh c.handsOn c.again=(s.at F).post enc p.checked.prog fn c.apart c.fresh c.handsOn c.again:=by rw[gj0];rfl
  rw[e1,e2,e3];show ReturnsInOpen _ _ _ _ _ _ _ _ (s.post enc p.checked.prog fn F c.outside c.apart c.fresh c.handsOn c.again) _ _;rw[e4];exact h os st' H enc inj F q24
end Go.Vy
end
section
namespace Go.Vy.Sc
open Go Go.Conc Go.Yc Go.RowKit Go.Proofs Go.Proofs.YtinppmaojmdmhaaGreat Tryz
open Go.Vc Go.Wg Go.ChangeShapes Go.WideShapes Go.ChangeAt Go.Deep
theorem Tc0 {H:Type} (d:DataW H):1 <=Rows.uptoBulk d:=by
 cases d with
 |lit l=>cases l <;> simp[Rows.uptoBulk]
 |_=>simp[Rows.uptoBulk]
theorem mx0 {H:Type} {d:DataW H}:∀{l:List (DataW H)},d∈l->Rows.uptoBulk d <=Rows.uptoBulkAll l
 |x::r,h=>by
  simp only[Rows.uptoBulkAll];rcases List.mem_cons.1 h with rfl|h
  ·omega
  ·have:=mx0 h;omega
theorem Ds0 {H:Type}:∀(l:List (DataW H)),l.length <=Rows.uptoBulkAll l
 | []=>Nat.zero_le _
 |x::r=>by
  have:=Tc0 x;have:=Ds0 r;simp only[Rows.uptoBulkAll,List.length_cons];omega
theorem ga1 {H:Type} {l:List (DataW H)} (h:Rows.uptoSmall H l=true):Rows.uptoBulkAll l <=1048576:=of_decide_eq_true h
section
variable {H:Type}{enc:TypeId×Value->H}{W:World}{base:Nat}{spare:Nat->Bool}{held:Bool}{P:Program}
theorem Dt0 {t:TypeId} {fs:Array Field} {fuel:Nat} {cs:List Value} {x:DataW H×List MemPlace} (ht:P.underlying t=some (.struct fs)) (h:DataW.trod enc P W base spare held fuel t cs=some x) :
  ∃m,cs.length=P.cellsOf t/\∀(j:Nat) f,fs[j]? =some f->∃y,Rows.uptoBulk y.1 <=Rows.uptoBulk x.1/\DataW.trod enc P W base spare held m f.type ((cs.drop f.offset).take (P.cellsOf f.type))=some y:=by
 obtain⟨xs,m,_,hx,hl,hxl,hf⟩:=DataW.trod_struct ht h;refine⟨m,hl,fun j f hj=>?_⟩;have hjl:j<xs.length:=by rw[hxl];exact(Array.getElem?_eq_some_iff.1 hj).1
 refine⟨xs[j],?_,by rw[hf j f hj];exact List.getElem?_eq_getElem hjl⟩;rw[hx];have h1:Rows.uptoBulk xs[j].1 <=Rows.uptoBulkAll (xs.map (·.1)):=mx0 (List.mem_map.2 ⟨xs[j],List.getElem_mem hjl,rfl⟩);simp only[Rows.uptoBulk];omega
theorem rd0 {t e:TypeId} {s:Nat} {a:Option Addr} {len cap fuel:Nat} {x:DataW H×List MemPlace} (ht:P.underlying t=some (.slice e)) (hs:P.cellsOf e=s) (h0:0<s) (h:DataW.trod enc P W base spare held fuel t [.slice a len cap]=some x) :
  SL a len/\(a=none->len=0/\cap=0)/\(len <=cap/\len <=Rows.uptoBulk x.1)/\∃n,∀i,i<len->∃cs y,Rows.uptoBulk y.1 <=Rows.uptoBulk x.1/\cs.length=s/\(∀(j:Nat) v,cs[j]? =some v->W.cell? ⟨ab a,ao a+i*s+j,none⟩=some v)/\DataW.trod enc P W base spare held n e cs=some y:=by
 rcases open_slice ht h with⟨hcs,_⟩|⟨ad,l,c,m,n,D,Pl,hcs,hb,hl,hm,hmm,hx,hi⟩
 ·simp at hcs;obtain⟨rfl,rfl,rfl⟩:=hcs;exact⟨SL.zero _,fun _=>⟨rfl,rfl⟩,⟨Nat.le_refl _,Nat.zero_le _⟩,0,fun i hi=>absurd hi (Nat.not_lt_zero _)⟩
 ·simp at hcs;obtain⟨rfl,rfl,rfl⟩:=hcs;have hlm:len <=m:=by rw[hmm];split <;> omega
  have hbk:Rows.uptoBulkAll ((List.range len).map D) <=Rows.uptoBulk x.1:=by
   rw[hx];simp only[Rows.uptoBulk];omega
  have hE:∀i,i<len->∃cs y,Rows.uptoBulk y.1 <=Rows.uptoBulk x.1/\cs.length=s/\(∀(j:Nat) v,cs[j]? =some v->W.cell? ((ad.add (i*s)).add j)=some v)/\DataW.trod enc P W base spare held n e cs=some y:=fun i Y7=>by
   obtain⟨cs,h1,h2⟩:=hi i (by omega);rw[hs]at h1;obtain⟨_,h4,h3⟩:=World.cells?_some h1;refine⟨cs,_,Nat.le_trans (mx0 (List.mem_map.2 ⟨i,by simpa using Y7,rfl⟩)) hbk,h4,fun j v hj=>?_,h2⟩;have:j<s:=by rw[<- h4];exact(List.getElem?_eq_some_iff.1 hj).1
   rw[h3 j this];exact hj
  have hsp:0<len->ad=⟨ad.block,ad.off,none⟩:=fun hl0=>by
   obtain⟨cs,y,_,h1,h2,_⟩:=hE 0 hl0;obtain⟨v,hv⟩:∃v,cs[0]? =some v:=⟨_,List.getElem?_eq_getElem (by omega)⟩
   have:=h2 0 v hv;rw[Nat.zero_mul]at this;have e1:(ad.add 0).add 0=ad:=by simp[Addr.add]
   rw[e1]at this;obtain⟨b,o,sp⟩:=ad;cases sp with
   |none=>rfl
   |some sp=>unfold World.cell? at this;simp at this;split at this <;> simp at this
  refine⟨fun hl0=>by rw[hsp hl0];rfl,(fun h=>by cases h),⟨hl,?_⟩,n,fun i Y7=>?_⟩
  ·have:=Ds0 ((List.range len).map D);rw[List.length_map,List.length_range]at this;omega
  ·obtain⟨cs,y,h5,h1,h2,h3⟩:=hE i Y7;refine⟨cs,y,h5,h1,fun j v hj=>?_,h3⟩;have:=h2 j v hj;rw[hsp (by omega),Addr.add_lit,Addr.add_lit]at this;exact this
end
section
variable {H:Type}{enc:TypeId×Value->H}{W:World}{base:Nat}{spare:Nat->Bool}{held:Bool}
theorem Td0:prog.cellsOf 9=1:=by kernel_rfl
theorem La0:prog.cellsOf 61=1:=by kernel_rfl
theorem Te0:prog.cellsOf 59=3:=by kernel_rfl
theorem Tf0:prog.cellsOf 57=1:=by kernel_rfl
theorem Lb0:prog.cellsOf 37=1:=by kernel_rfl
theorem Xu0 {n len cap:Nat} {a:Option Addr} {x:DataW H×List MemPlace} (h:DataW.trod enc prog W base spare held n 61 [.slice a len cap]=some x) (hx:Rows.uptoBulk x.1 <=1048576):∃l:List ByteArray,l.length=len/\SL a len/\len <=1048576/\(∀(k:Nat) o,l[k]? =some o->W.cell? ⟨ab a,ao a+k*1,none⟩=some (.string o))/\∀o∈l,o.size <=1000000000000:=by
 obtain⟨h1,_,⟨_,h2⟩,m,h3⟩:=rd0 underlying61 Td0 (by decide) h;obtain⟨f,hf⟩:=qj0 (α:=ByteArray) (n:=len) (p:=fun i o=>W.cell? ⟨ab a,ao a+i*1,none⟩=some (.string o)/\o.size <=1000000000000) fun i hi=>by
  obtain⟨cs,y,g0,_,g2,g3⟩:=h3 i hi;obtain⟨s,rfl,hy,_⟩:=DataW.trod_string underlying9 g3;refine⟨s,g2 0 _ rfl,?_⟩;rw[hy]at g0;simp only[Rows.uptoBulk]at g0;have e:s.data.toList.length=s.size:=by rw[Array.length_toList];rfl
  omega
 refine⟨(List.range len).map f,by simp,h1,by omega,fun k o hk=>?_,fun o ho=>?_⟩
 ·have hkl:k<len:=by
   have:=(List.getElem?_eq_some_iff.1 hk).1;simpa using this
  simp[hkl]at hk;rw[<- hk];exact(hf k hkl).1
 ·obtain⟨k,hk,rfl⟩:=List.mem_map.1 ho;exact(hf k (List.mem_range.1 hk)).2
theorem Lc0 {a:Option Addr} {len cap:Nat} {d:DataW H} {p:List MemPlace} {fuel:Nat} (hf:DataW.trod enc prog W base spare held fuel 37 [.slice a len cap]=some (d,p)) (hd:Rows.uptoBulk d <=1048576):∃sc,od0 (gz0 W) a len cap sc/\len <=1048576:=by
 obtain⟨h1,h2,h4,n,h3⟩:=rd0 underlying37 Bu0 Nat.one_pos hf;have h4c:=h4.1;have h4:len <=Rows.uptoBulk d:=h4.2;obtain⟨sc,hsc⟩:=qj0 (α:=Int) (n:=len) (p:=fun i z=>W.cell? ⟨ab a,ao a+i*1,none⟩=some (.int .i64 z)) fun i hi=>by
  obtain⟨cs,y,_,_,g2,g3⟩:=h3 i hi;obtain⟨z,rfl,_⟩:=DataW.trod_int underlying3 g3;exact⟨z,g2 0 _ rfl⟩
 exact⟨sc,⟨h1,h2,h4c,fun j hj=>mk0 (hsc j hj)⟩,by omega⟩
theorem Xv0 {a:Option Addr} {len cap fuel:Nat} {x:DataW H×List MemPlace} (h:DataW.trod enc prog W base spare held fuel 57 [.slice a len cap]=some x) (hd:Rows.uptoBulk x.1 <=1048576):∃ks kA kC,uq0 (gz0 W) a len ks kA kC/\(∀i,len <=i->ks i=[])/\∀i k,k∈ks i->k.size <=1000000000000:=by
 obtain⟨h1,h2,h4,n,h3⟩:=rd0 underlying57 La0 Nat.one_pos h;have h4:len <=Rows.uptoBulk x.1:=h4.2;obtain⟨F,hF⟩:=qj0 (α:=List ByteArray×Option Addr×Nat) (n:=len) (p:=fun i z=>W.cell? ⟨ab a,ao a+i*1,none⟩=some (.slice z.2.1 z.1.length z.2.2)/\SL z.2.1 z.1.length/\z.1.length <=1048576/\(∀(k:Nat) o,z.1[k]? =some o->W.cell? ⟨ab z.2.1,ao z.2.1+k*1,none⟩=some (.string o))/\∀o∈z.1,o.size <=1000000000000) fun i hi=>by
  obtain⟨cs,y,g0,g1,g2,g3⟩:=h3 i hi;have hcs:∃a' Tg0 Ld0,cs=[.slice a' Tg0 Ld0]:=by
   rcases DataW.trod_slice underlying61 g3 with⟨h0,_⟩|⟨a',Tg0,Ld0,_,_,_,_,h0,_⟩
   ·exact⟨_,_,_,h0⟩
   ·exact⟨_,_,_,h0⟩
  obtain⟨a',Tg0,Ld0,rfl⟩:=hcs;obtain⟨l,rfl,q1,q2,q3,q4⟩:=Xu0 g3 (by omega);exact⟨(l,a',Ld0),g2 0 _ rfl,q1,q2,q3,q4⟩
 refine⟨fun i=>if i<len then(F i).1 else [],fun i=>(F i).2.1,fun i=>(F i).2.2,⟨h1,fun i hi=>?_,fun i hi=>?_,fun i hi t k hk=>?_,by omega,fun i hi=>?_⟩,fun i hi=>if_neg (by omega),fun i k hk=>?_⟩
 ·show(gz0 W).cell? _=some (.slice _ (if i<len then(F i).1 else []).length _);rw[if_pos hi];exact mk0 (hF i hi).1
 ·show SL _ (if i<len then(F i).1 else []).length;rw[if_pos hi];exact(hF i hi).2.1
 ·have hk:(if i<len then(F i).1 else [])[t]? =some k:=hk;rw[if_pos hi]at hk;exact mk0 ((hF i hi).2.2.2.1 t k hk)
 ·show(if i<len then(F i).1 else []).length <=_;rw[if_pos hi];exact(hF i hi).2.2.1
 ·have hk:k∈(if i<len then(F i).1 else []):=hk;split at hk
  ·rename_i hi;exact(hF i hi).2.2.2.2 k hk
  ·cases hk
set_option maxRecDepth 100000 in
theorem om1 {r:Reach} {b0:Nat} {v:Value} {d:DataW H} {p:List MemPlace} (hv:Value.okWide prog W r b0 59 v) (h:DataW.Trod enc prog W base spare held 59 v d p) (hd:Rows.uptoBulk d <=1048576) :
  ∃n ka m kc sa sn scp ks kA kC sc,v= .agg #[.int .i64 n,.slice ka m kc,.slice sa sn scp]/\uq0 (gz0 W) ka m ks kA kC/\(∀i,m <=i->ks i=[])/\(∀i k,k∈ks i->k.size <=1000000000000)/\od0 (gz0 W) sa sn scp sc/\sn <=1048576:=by
 obtain⟨cs,rfl,O2⟩:=okWide_struct underlying59 hv;obtain⟨fuel,hf⟩:=h;have hf:DataW.trod enc prog W base spare held fuel 59 cs.toList=some (d,p):=hf;obtain⟨m0,hl,hff⟩:=Dt0 underlying59 hf;rw[Te0]at hl;obtain⟨v0,v1,v2,hcs⟩:=rr1 hl;rw[hcs]at hff;obtain⟨y0,_,h0⟩:∃y,Rows.uptoBulk y.1 <=Rows.uptoBulk d/\DataW.trod enc prog W base spare held m0 3 (([v0,v1,v2].drop 0).take (prog.cellsOf 3))=some y:=hff 0 _ rfl;obtain⟨y1,b1,h1⟩:∃y,Rows.uptoBulk y.1 <=Rows.uptoBulk d/\DataW.trod enc prog W base spare held m0 57 (([v0,v1,v2].drop 1).take (prog.cellsOf 57))=some y:=hff 1 _ rfl;obtain⟨y2,b2,h2⟩:∃y,Rows.uptoBulk y.1 <=Rows.uptoBulk d/\DataW.trod enc prog W base spare held m0 37 (([v0,v1,v2].drop 2).take (prog.cellsOf 37))=some y:=hff 2 _ rfl;rw[Bu0]at h0;rw[Tf0]at h1;rw[Lb0]at h2;obtain⟨z0,g0,_⟩:=DataW.trod_int underlying3 h0;have s1:∃a len cap,([v1]:List Value)=[.slice a len cap]:=by
  rcases DataW.trod_slice underlying57 h1 with⟨h0,_⟩|⟨a',Tg0,Ld0,_,_,_,_,h0,_⟩
  ·exact⟨_,_,_,h0⟩
  ·exact⟨_,_,_,h0⟩
 have s2:∃a len cap,([v2]:List Value)=[.slice a len cap]:=by
  rcases DataW.trod_slice underlying37 h2 with⟨h0,_⟩|⟨a',Tg0,Ld0,_,_,_,_,h0,_⟩
  ·exact⟨_,_,_,h0⟩
  ·exact⟨_,_,_,h0⟩
 obtain⟨ka,m,kc,e1⟩:=s1;obtain⟨sa,sn,scp,e2⟩:=s2;simp at g0;obtain rfl:=List.cons.inj e1 |>.1;obtain rfl:=List.cons.inj e2 |>.1;obtain⟨ks,kA,kC,q1,q2,q3⟩:=Xv0 (show DataW.trod enc prog W base spare held m0 57 [.slice ka m kc]=some y1 from h1) (by omega);obtain⟨sc,q4,q5⟩:=Lc0 (d:=y2.1) (p:=y2.2) (show DataW.trod enc prog W base spare held m0 37 [.slice sa sn scp]=some y2 from h2) (by omega);exact⟨z0,ka,m,kc,sa,sn,scp,ks,kA,kC,sc,by rw[<- Array.toArray_toList (xs:=cs),hcs,g0],q1,q2,q3,q4,q5⟩
end
end Go.Vy.Sc
end
