/- What the claim leans on, part 1. The trace beside a token that passes: who holds it knows every touch of memory but reads of still places by others on their way, and the touches of shunned places (those are atomic). Nothing here speaks of a program. -/
import Derived.Conc.TokenTrace
import GoSem.Claim
import Derived.Below
import Derived.Conc.Token
import Derived.Conc.Listed
import Derived.Orders
import Derived.Deep.LoopGhost
import Derived.Conc.CompanyDraw
import GoSem.Dispatch
import Derived.WalkKit
set_option linter.unusedVariables false
section
namespace Go.Yc
open Go Go.Conc
structure Past (Sh:Loc->Prop) (Us:Nat->Prop) (St:Nat->Loc->Prop) (Mem Lo:Nat->Prop) (K:Nat->Prop) (t:Trace):Prop where
 clean:∀ said,¬ Race said t
 known:∀ i a,touchAt t i = some a->a.loc.isMemory = true->¬ Sh a.loc->K i\/(a.write = false/\∃ g,t.g? i = some g/\Lo g/\St g a.loc)
 wrote:∀ i a,touchAt t i = some a->a.write = true->∀ g,Mem g->St g a.loc->Knows t g i
 hears:∀ g,Mem g->Deaf t g = 0
 shun:∀ i a g,touchAt t i = some a->Sh a.loc->t.g? i = some g->(∀ g',Us g'->Knows t g' i)\/(a.kind ≠ .plain/\(g ≠ 0->a.kind = .atomic/\¬ t.heard i))
def PastH (Sh:Loc->Prop) (Us:Nat->Prop) (St:Nat->Loc->Prop) (Mem Lo:Nat->Prop) (h:Nat) (t:Trace):Prop:=Past Sh Us St Mem Lo (Knows t h) t
section
variable {Sh:Loc->Prop} {Us Us':Nat->Prop} {St St':Nat->Loc->Prop} {Mem Mem' Lo Lo':Nat->Prop} {h:Nat} {K K':Nat->Prop} {t u:Trace}
theorem Past.fewer (H:Past Sh Us St Mem Lo K t) (hM:∀ g,Mem' g->Mem g):Past Sh Us St Mem' Lo K t :=
 ⟨H.clean,H.known,fun i a ha hw g hg hS=>H.wrote i a ha hw g (hM g hg) hS,fun g hg=>H.hears g (hM g hg),H.shun⟩
theorem Past.loosen (H:Past Sh Us St Mem Lo K t) (hL:∀ g,Lo g->Lo' g):Past Sh Us St Mem Lo' K t :=
 ⟨H.clean,fun i a ha hm hs=>(H.known i a ha hm hs).imp id fun ⟨x,g,hg,hl,hS⟩=>⟨x,g,hg,hL g hl,hS⟩,H.wrote,H.hears,H.shun⟩
theorem Past.old_known (H:Past Sh Us St Mem Lo K t) (hK:∀ i,K i->K' i) {i:Nat} {a:Touch} {x:MemOp} (hx':t[i]? = some x) (hxa:x.act.touch? = some a) (hm:a.loc.isMemory = true) (hs:¬ Sh a.loc) :
  K' i\/(a.write = false/\∃ g,(t ++ u).g? i = some g/\Lo g/\St g a.loc) :=
 (H.known i a (by rw [touchAt_of hx']; exact hxa) hm hs).imp (hK i) fun ⟨p,g,hg,hl,hS⟩=>⟨p,g,by rw [g?_old (lt_size_of_getElem? hx')]; exact hg,hl,hS⟩
theorem Past.old_hears {g:Nat} (H:Past Sh Us St Mem Lo K t) (hu:∀ op ∈ u,op.g = g) (hd:Mem g->Deaf (t ++ u) g = Deaf t g):∀ g',Mem g'->Deaf (t ++ u) g' = 0:=fun g' hg'=>by
 by_cases e:g' = g
 ·subst e; exact (hd hg').trans (H.hears g' hg')
 ·exact (Deaf_other t (fun x=>e x.symm) u hu).trans (H.hears g' hg')
theorem Past.old_shun (H:Past Sh Us St Mem Lo K t) {i g:Nat} {a:Touch} {x:MemOp} (hx':t[i]? = some x) (hxa:x.act.touch? = some a) (hs:Sh a.loc) (hg:(t ++ u).g? i = some g) :
  (∀ g',Us g'->Knows (t ++ u) g' i)\/(a.kind ≠ .plain/\(g ≠ 0->a.kind = .atomic/\¬ (t ++ u).heard i)):=by
 have hlt:=lt_size_of_getElem? hx'
 rw [g?_old hlt] at hg
 rcases H.shun i a g (by rw [touchAt_of hx']; exact hxa) hs hg with this | this
 ·exact .inl fun g' hg'=>(this g' hg').app u
 ·exact .inr ⟨this.1,fun hne=>⟨(this.2 hne).1,fun hh=>(this.2 hne).2 ((heard_old hlt).1 hh)⟩⟩
theorem Past.leave (H:Past Sh Us St Mem Lo K t) (hU:∀ g,Us' g->Us g):Past Sh Us' St Mem Lo K t :=
 ⟨H.clean,H.known,H.wrote,H.hears,fun i a g ha hs hg=>(H.shun i a g ha hs hg).imp (fun z g' hg'=>z g' (hU g' hg')) id⟩
theorem PastH.shunMore {Sh':Loc->Prop} (H:PastH Sh Us St Mem Lo h t) (hS:∀ l,Sh l->Sh' l) (hLo:∀ g l,Lo g->St g l->¬ Sh' l) (hm:∀ l,Sh' l->l.isMemory = true) (hU:∀ g,Us g->g = h):PastH Sh' Us St Mem Lo h t :=
 ⟨H.clean,fun i a ha hm hs=>H.known i a ha hm fun z=>hs (hS _ z),H.wrote,H.hears,fun i a g ha hs hg=>by
  by_cases e:Sh a.loc
  ·exact H.shun i a g ha e hg
  ·rcases H.known i a ha (hm _ hs) e with hk | ⟨_,g',_,hl,hS'⟩
   ·exact .inl fun g'' hg''=>by rw [hU g'' hg'']; exact hk
   ·exact absurd hs (hLo g' _ hl hS')⟩
theorem Past.appMute {g:Nat} (H:Past Sh Us St Mem Lo K t) (hK:∀ i,K i->K' i) (hn:∀ op ∈ u,op.act.touch? = none) (hh:∀ g',Mem g'->Deaf (t ++ u) g' = 0):Past Sh Us St Mem Lo K' (t ++ u):=by
 refine ⟨fun said=>noRace_appendMute (H.clean said) hn,fun i a ha hm hs=>?_,fun i a ha hw g' hg' hS=>?_,hh,fun i a g' ha hs hg'=>?_⟩
 ·obtain ⟨x,hx,hxa⟩:=touch_of ha
  rcases getElem?_append_cases hx with ⟨_,hx'⟩ | ⟨_,hxu⟩
  ·exact H.old_known hK hx' hxa hm hs
  ·rw [hn x hxu] at hxa; cases hxa
 ·obtain ⟨x,hx,hxa⟩:=touch_of ha
  rcases getElem?_append_cases hx with ⟨_,hx'⟩ | ⟨_,hxu⟩
  ·exact (H.wrote i a (by rw [touchAt_of hx']; exact hxa) hw g' hg' hS).app u
  ·rw [hn x hxu] at hxa; cases hxa
 ·obtain ⟨x,hx,hxa⟩:=touch_of ha
  rcases getElem?_append_cases hx with ⟨_,hx'⟩ | ⟨_,hxu⟩
  ·exact H.old_shun hx' hxa hs hg'
  ·rw [hn x hxu] at hxa; cases hxa
theorem Past.appRead {g:Nat} (H:Past Sh Us St Mem Lo K t) (hK:∀ i,K i->K' i) (hg:Mem g) (hL:Lo g) (hu:∀ op ∈ u,op.g = g) (hr:∀ op ∈ u,∀ b,op.act.touch? = some b->b.write = false/\St g b.loc/\¬ Sh b.loc) (hd:Deaf (t ++ u) g = Deaf t g) :
  Past Sh Us St Mem Lo K' (t ++ u):=by
 refine ⟨fun said=>noRace_append (H.clean said) hu fun i a ha op hop b hb hc=>?_,fun i a ha hm hs=>?_,fun i a ha hw g' hg' hS=>?_,H.old_hears hu (fun _=>hd),fun i a g' ha hs hg'=>?_⟩
 ·obtain ⟨hb0,hbS,_⟩:=hr op hop b hb
  rcases hc.2.2.1 with x | x
  ·exact H.wrote i a ha x g hg (hc.1 ▸ hbS)
  ·rw [hb0] at x; cases x
 ·obtain ⟨x,hx,hxa⟩:=touch_of ha
  rcases getElem?_append_cases hx with ⟨_,hx'⟩ | ⟨_,hxu⟩
  ·exact H.old_known hK hx' hxa hm hs
  ·exact .inr ⟨(hr x hxu a hxa).1,g,by rw [g?_of hx,hu x hxu],hL,(hr x hxu a hxa).2.1⟩
 ·obtain ⟨x,hx,hxa⟩:=touch_of ha
  rcases getElem?_append_cases hx with ⟨_,hx'⟩ | ⟨_,hxu⟩
  ·exact (H.wrote i a (by rw [touchAt_of hx']; exact hxa) hw g' hg' hS).app u
  ·rw [(hr x hxu a hxa).1] at hw; cases hw
 ·obtain ⟨x,hx,hxa⟩:=touch_of ha
  rcases getElem?_append_cases hx with ⟨_,hx'⟩ | ⟨_,hxu⟩
  ·exact H.old_shun hx' hxa hs hg'
  ·exact absurd hs (hr x hxu a hxa).2.2
def HOk (Sh:Loc->Prop) (St:Nat->Loc->Prop) (h:Nat) (op:MemOp):Prop:=∀ b,op.act.touch? = some b->¬ Sh b.loc/\(b.write = true->∀ g,g ≠ h->¬ St g b.loc)
theorem PastH.appH (H:PastH Sh Us St Mem Lo h t) (hLo:¬ Lo h) (hu:∀ op ∈ u,op.g = h) (hs:∀ op ∈ u,HOk Sh St h op) (hd:Deaf (t ++ u) h = Deaf t h):PastH Sh Us St Mem Lo h (t ++ u):=by
 refine ⟨fun said=>noRace_append (H.clean said) hu fun i a ha op hop b hb hc=>?_,fun i a ha hm hns=>?_,fun i a ha hw g hg hS=>?_,H.old_hears hu (fun _=>hd),fun i a g' ha hsh hg'=>?_⟩
 ·obtain ⟨h1,h2⟩:=hs op hop b hb
  rcases H.known i a ha hc.2.1 (hc.1 ▸ h1) with hk | ⟨hw,g,_,hl,hS⟩
  ·exact hk
  ·rcases hc.2.2.1 with x | x
   ·rw [hw] at x; cases x
   ·exact absurd (hc.1 ▸ hS) (h2 x g fun e=>hLo (e ▸ hl))
 ·obtain ⟨x,hx,hxa⟩:=touch_of ha
  rcases getElem?_append_cases hx with ⟨_,hx'⟩ | ⟨_,hxu⟩
  ·exact H.old_known (fun i=>Knows.app u) hx' hxa hm hns
  ·have:=knows_own hx
   rw [hu x hxu] at this
   exact .inl this
 ·obtain ⟨x,hx,hxa⟩:=touch_of ha
  rcases getElem?_append_cases hx with ⟨_,hx'⟩ | ⟨_,hxu⟩
  ·exact (H.wrote i a (by rw [touchAt_of hx']; exact hxa) hw g hg hS).app u
  ·by_cases e:g = h
   ·have:=knows_own hx
    rw [hu x hxu] at this
    rw [e]; exact this
   ·exact absurd hS ((hs x hxu a hxa).2 hw g e)
 ·obtain ⟨x,hx,hxa⟩:=touch_of ha
  rcases getElem?_append_cases hx with ⟨_,hx'⟩ | ⟨_,hxu⟩
  ·exact H.old_shun hx' hxa hsh hg'
  ·exact absurd hsh (hs x hxu a hxa).1
def GOk (Sh:Loc->Prop) (g:Nat) (op:MemOp):Prop:=∀ b,op.act.touch? = some b->Sh b.loc/\b.kind ≠ .plain/\(g ≠ 0->b.kind = .atomic)
theorem Past.appSh {g:Nat} (H:Past Sh Us St Mem Lo K t) (hUs:Us g) (hStSh:∀ g l,St g l->¬ Sh l) (hK:∀ i,K i->K' i) (hu:∀ op ∈ u,op.g = g) (hs:∀ op ∈ u,GOk Sh g op) (hdf:g ≠ 0->∀ i,t.size <= i->i < t.size + u.size->(t ++ u).deaf g i ≠ 0)
  (hh:∀ g',Mem g'->Deaf (t ++ u) g' = 0):Past Sh Us St Mem Lo K' (t ++ u):=by
 refine ⟨fun said=>noRace_append (H.clean said) hu fun i a ha op hop b hb hc=>?_,fun i a ha hm hns=>?_,fun i a ha hw g' hg' hS=>?_,hh,fun i a g' ha hsh hg'=>?_⟩
 ·obtain ⟨h1,h2,h3⟩:=hs op hop b hb
  obtain ⟨x,hx,hxa⟩:=touch_of ha
  rcases H.shun i a x.g ha (hc.1 ▸ h1) (g?_of hx) with hsx | hsx
  ·exact hsx g hUs
  rcases hc.2.2.2 with y | y | ⟨_,y1,y2⟩
  ·exact absurd y hsx.1
  ·exact absurd y h2
  ·have e1:g = 0:=Classical.byContradiction fun e=>by have:=h3 e; rw [y2] at this; cases this
   have e2:x.g = 0:=Classical.byContradiction fun e=>by have:=(hsx.2 e).1; rw [y1] at this; cases this
   have:=knows_own hx
   rw [e2] at this
   rw [e1]; exact this
 ·obtain ⟨x,hx,hxa⟩:=touch_of ha
  rcases getElem?_append_cases hx with ⟨_,hx'⟩ | ⟨_,hxu⟩
  ·exact H.old_known hK hx' hxa hm hns
  ·exact absurd (hs x hxu a hxa).1 hns
 ·obtain ⟨x,hx,hxa⟩:=touch_of ha
  rcases getElem?_append_cases hx with ⟨_,hx'⟩ | ⟨_,hxu⟩
  ·exact (H.wrote i a (by rw [touchAt_of hx']; exact hxa) hw g' hg' hS).app u
  ·exact absurd (hs x hxu a hxa).1 (hStSh _ _ hS)
 ·obtain ⟨x,hx,hxa⟩:=touch_of ha
  rcases getElem?_append_cases hx with ⟨_,hx'⟩ | ⟨hi,hxu⟩
  ·exact H.old_shun hx' hxa hsh hg'
  ·obtain ⟨h1,h2,h3⟩:=hs x hxu a hxa
   have hgx:g' = g:=by rw [g?_of hx] at hg'; rw [<- hu x hxu]; exact (Option.some.inj hg').symm
   subst hgx
   refine .inr ⟨h2,fun hne=>⟨h3 hne,?_⟩⟩
   rintro ⟨g2,hg2,hd2⟩
   rw [hg'] at hg2
   obtain rfl:=Option.some.inj hg2
   exact hdf hne i hi (by have:=lt_size_of_getElem? hx; simpa using this) hd2
theorem PastH.still (H:PastH Sh Us St Mem Lo h t) (hLo:¬ Lo h) (hSt:∀ g,g ≠ h->∀ l,St' g l ↔ St g l) (hS:∀ l,St' h l->l.isMemory = true/\¬ Sh l) (hM:∀ g,Mem' g->Mem g\/g = h) (hd:Mem' h->Deaf t h = 0):PastH Sh Us St' Mem' Lo h t :=
 ⟨H.clean,fun i a ha hm hs=>(H.known i a ha hm hs).imp id fun ⟨x,g,hg,hl,hS'⟩=>⟨x,g,hg,hl,(hSt g (fun e=>hLo (e ▸ hl)) _).2 hS'⟩,
  fun i a ha hw g hg hl=>by
   by_cases e:g = h
   ·subst e
    obtain ⟨h1,h2⟩:=hS _ hl
    rcases H.known i a ha h1 h2 with hk | ⟨hw',_⟩
    ·exact hk
    ·rw [hw] at hw'; cases hw'
   ·exact H.wrote i a ha hw g ((hM g hg).resolve_right e) ((hSt g e _).1 hl),
  fun g hg=>by
   by_cases e:g = h
   ·subst e; exact hd hg
   ·exact H.hears g ((hM g hg).resolve_right e),H.shun⟩
end
section
variable {Sh:Loc->Prop} {Us:Nat->Prop} {St:Nat->Loc->Prop} {Mem Lo:Nat->Prop} {h j:Nat} {t:Trace}
theorem PastH.give (H:PastH Sh Us St Mem Lo h t) (hh:Mem h) (hj:Mem j) (fh:FuncId) (ph:String) (fj:FuncId) (pj:String) (c k cap:Nat) :
  PastH Sh Us St Mem (fun g=>Lo g/\g ≠ j) j (t ++ met h j fh ph fj pj c k cap):=by
 have hn:=met_mute h j fh ph fj pj c k cap
 have hq:=fun g=>met_quiet h j fh ph fj pj c k cap g
 have e0:(t ++ met h j fh ph fj pj c k cap)[t.size]? = some { g:=h,fn:=fh,pos:=ph,act:=.send c k }:=by simp [met]
 have e3:(t ++ met h j fh ph fj pj c k cap)[t.size + 3]? = some { g:=j,fn:=fj,pos:=pj,act:=.recvDone c k }:=by simp [met]
 have edge:HappensBefore (t ++ met h j fh ph fj pj c k cap) t.size (t.size + 3) :=
  Relation.TransGen.single (.inr ⟨.handOver (act?_of e0) (act?_of e3),⟨h,g?_of e0,by rw [deaf_old (Nat.le_refl _)]; exact H.hears h hh⟩,⟨j,g?_of e3,by rw [deaf_quiet (hq j) 3 (by simp [met])]; exact H.hears j hj⟩⟩)
 refine ⟨fun said=>noRace_appendMute (H.clean said) hn,fun i a ha hm hs=>?_,fun i a ha hw g hg hS=>?_,fun g hg=>(Deaf_quiet (hq g)).trans (H.hears g hg),fun i a g' ha hsh hg'=>?_⟩
 ·obtain ⟨x,hx,hxa⟩:=touch_of ha
  rcases getElem?_append_cases hx with ⟨hi,hx'⟩ | ⟨_,hxu⟩
  ·rcases H.known i a (by rw [touchAt_of hx']; exact hxa) hm hs with hk | ⟨p,g,hg,hl,hS⟩
   ·exact .inl ⟨t.size + 3,_,e3,rfl,.inr ((hk.hb_new (Nat.le_refl _) e0 rfl).trans edge)⟩
   ·by_cases e:g = j
    ·subst e
     have:=knows_own hx
     rw [show x.g = g from by have:=g?_of hx'; rw [hg] at this; exact (Option.some.inj this).symm] at this
     exact .inl this
    ·exact .inr ⟨p,g,by rw [g?_old hi]; exact hg,⟨hl,e⟩,hS⟩
  ·rw [hn x hxu] at hxa; cases hxa
 ·obtain ⟨x,hx,hxa⟩:=touch_of ha
  rcases getElem?_append_cases hx with ⟨_,hx'⟩ | ⟨_,hxu⟩
  ·exact (H.wrote i a (by rw [touchAt_of hx']; exact hxa) hw g hg hS).app _
  ·rw [hn x hxu] at hxa; cases hxa
 ·obtain ⟨x,hx,hxa⟩:=touch_of ha
  rcases getElem?_append_cases hx with ⟨_,hx'⟩ | ⟨_,hxu⟩
  ·exact H.old_shun hx' hxa hsh hg'
  ·rw [hn x hxu] at hxa; cases hxa
theorem PastH.born {c:Nat} (H:PastH Sh Us St Mem Lo h t) (hh:Mem h) (hc0:Deaf t c = 0) (hSt:∀ l,¬ St c l) (hUs:Us h) (fh:FuncId) (ph:String) (fc:FuncId) :
  PastH Sh (fun g=>Us g\/g = c) St (fun g=>Mem g\/g = c) Lo c (t ++ #[{ g:=h,fn:=fh,pos:=ph,act:=.go c },{ g:=c,fn:=fc,pos:=ph,act:=.start }]):=by
 generalize hu:(#[{ g:=h,fn:=fh,pos:=ph,act:=.go c },{ g:=c,fn:=fc,pos:=ph,act:=.start }]:Trace) = u
 have hn:∀ op ∈ u,op.act.touch? = none:=by
  intro op hop
  subst hu
  simp only [List.mem_toArray,List.mem_cons,List.not_mem_nil,or_false] at hop
  rcases hop with rfl | rfl <;> rfl
 have hq:∀ g,∀ op ∈ u,∀ d,deafStep g d op = d:=by
  intro g op hop d
  subst hu
  simp only [List.mem_toArray,List.mem_cons,List.not_mem_nil,or_false] at hop
  rcases hop with rfl | rfl <;> rfl
 have e0:(t ++ u)[t.size]? = some { g:=h,fn:=fh,pos:=ph,act:=.go c }:=by subst hu; simp
 have e1:(t ++ u)[t.size + 1]? = some { g:=c,fn:=fc,pos:=ph,act:=.start }:=by subst hu; simp
 have edge:HappensBefore (t ++ u) t.size (t.size + 1) :=
  Relation.TransGen.single (.inr ⟨.spawn (act?_of e0) (act?_of e1) (g?_of e1),⟨h,g?_of e0,by rw [deaf_old (Nat.le_refl _)]; exact H.hears h hh⟩,⟨c,g?_of e1,by rw [deaf_quiet (hq c) 1 (by subst hu; simp)]; exact hc0⟩⟩)
 refine ⟨fun said=>noRace_appendMute (H.clean said) hn,fun i a ha hm hs=>?_,fun i a ha hw g hg hS=>?_,fun g hg=>(Deaf_quiet (hq g)).trans (hg.elim (H.hears g) fun e=>e ▸ hc0),fun i a g' ha hsh hg'=>?_⟩
 ·obtain ⟨x,hx,hxa⟩:=touch_of ha
  rcases getElem?_append_cases hx with ⟨hi,hx'⟩ | ⟨_,hxu⟩
  ·rcases H.known i a (by rw [touchAt_of hx']; exact hxa) hm hs with hk | ⟨p,g,hg,hl,hS⟩
   ·exact .inl ⟨t.size + 1,_,e1,rfl,.inr ((hk.hb_new (Nat.le_refl _) e0 rfl).trans edge)⟩
   ·exact .inr ⟨p,g,by rw [g?_old hi]; exact hg,hl,hS⟩
  ·rw [hn x hxu] at hxa; cases hxa
 ·obtain ⟨x,hx,hxa⟩:=touch_of ha
  rcases getElem?_append_cases hx with ⟨_,hx'⟩ | ⟨_,hxu⟩
  ·rcases hg with hg | rfl
   ·exact (H.wrote i a (by rw [touchAt_of hx']; exact hxa) hw g hg hS).app u
   ·exact absurd hS (hSt _)
  ·rw [hn x hxu] at hxa; cases hxa
 ·obtain ⟨x,hx,hxa⟩:=touch_of ha
  rcases getElem?_append_cases hx with ⟨_,hx'⟩ | ⟨_,hxu⟩
  ·have hlt:=lt_size_of_getElem? hx'
   rcases H.shun i a g' (by rw [touchAt_of hx']; exact hxa) hsh (by rw [<- g?_old (u:=u) hlt]; exact hg') with y | y
   ·refine .inl fun g2 hg2=>?_
    rcases hg2 with hg2 | rfl
    ·exact (y g2 hg2).app u
    ·exact ⟨t.size + 1,_,e1,rfl,.inr (((y h hUs).hb_new (Nat.le_refl _) e0 rfl).trans edge)⟩
   ·exact .inr ⟨y.1,fun hne=>⟨(y.2 hne).1,fun hh=>(y.2 hne).2 ((heard_old hlt).1 hh)⟩⟩
  ·rw [hn x hxu] at hxa; cases hxa
theorem PastH.over (H:PastH Sh Us St Mem Lo 0 t) (hU:Us 0) (hL:∀ g,¬ Lo g):t.HandedOver:=by
 rintro i g hg hne ⟨x,hx,hm,hcnt⟩
 by_cases hs:Sh x.loc
 ·rcases H.shun i x g hx hs hg with hk | this
  ·obtain ⟨q,z,hq,hz,hb⟩:=hk 0 hU
   rcases hb with rfl | hb
   ·rw [g?_of hq,hz] at hg
    exact absurd (Option.some.inj hg).symm hne
   ·exact ⟨q,by rw [g?_of hq,hz],hb⟩
  ·exact (hcnt.elim (fun z=>absurd (this.2 hne).1 z) fun z=>absurd z (this.2 hne).2)
 ·rcases H.known i x hx hm hs with ⟨q,z,hq,hz,hb⟩ | ⟨_,g',_,hl,_⟩
  ·rcases hb with rfl | hb
   ·rw [g?_of hq,hz] at hg
    exact absurd (Option.some.inj hg).symm hne
   ·exact ⟨q,by rw [g?_of hq,hz],hb⟩
  ·exact absurd hl (hL g')
end
end Go.Yc
end
/- Terms of the model that are tame: what they do in a world is what they do in any world that has it, whatever else lies there. Nothing here speaks of a program. -/
section
namespace Go.Yc
open Go
def mild:Mark->Bool
 | .acquire _ | .release _ | .releaseMerge _ | .disable | .enable | .read _ | .write _=>false
 | _=>true
def isView:Obj->Bool
 | .view ..=>true
 | _=>false
def isCells:Obj->Bool
 | .cells ..=>true
 | _=>false
def dead {α:Type} (P:Program):Sem α->Prop
 | .pure _=>False
 | .load _ _ k=>∀ v,dead P (k v)
 | .store _ _ _ k=>dead P k
 | .new _ k=>∀ r,dead P (k r)
 | .shape _ k=>∀ s,dead P (k s)
 | .freeze _ _ k=>dead P k
 | .frozen _ k=>∀ b,dead P (k b)
 | .getObj _ k=>∀ o,dead P (k o)
 | .setObj _ _ k=>dead P k
 | .choose _ k=>∀ n,dead P (k n)
 | .sys _ k=>∀ r,dead P (k r)
 | .program k=>dead P (k P)
 | .mark _ k=>dead P k
 | .halt h=>∀ v,h ≠ .panic v
def tame {α:Type} (P:Program):Sem α->Prop
 | .pure _=>True
 | .load _ _ k=>∀ v,tame P (k v)
 | .store _ _ _ k=>tame P k
 | .new o k=>isView o = false/\∀ r,tame P (k r)
 | .shape _ k=>∀ s,dead P (k s)
 | .freeze _ _ k=>dead P k
 | .frozen _ k=>∀ b,dead P (k b)
 | .getObj _ k=>∀ o,tame P (k o)
 | .setObj _ o k=>(isView o = false/\isCells o = false)/\tame P k
 | .choose _ k=>∀ n,tame P (k n)
 | .sys _ k=>∀ r,dead P (k r)
 | .program k=>tame P (k P)
 | .mark m k=>if mild m then tame P k else dead P k
 | .halt _=>True
theorem dead_bind {α β:Type} {P:Program} (f:α->Sem β):∀ {s:Sem α},dead P s->dead P (s.bind f)
 | .pure _,h=>h.elim
 | .load _ _ k,h=>fun v=>dead_bind f (h v)
 | .store _ _ _ k,h=>dead_bind f (s:=k) h
 | .new _ k,h=>fun r=>dead_bind f (h r)
 | .shape _ k,h=>fun s=>dead_bind f (h s)
 | .freeze _ _ k,h=>dead_bind f (s:=k) h
 | .frozen _ k,h=>fun b=>dead_bind f (h b)
 | .getObj _ k,h=>fun o=>dead_bind f (h o)
 | .setObj _ _ k,h=>dead_bind f (s:=k) h
 | .choose _ k,h=>fun n=>dead_bind f (h n)
 | .sys _ k,h=>fun r=>dead_bind f (h r)
 | .program k,h=>dead_bind f (s:=k P) h
 | .mark _ k,h=>dead_bind f (s:=k) h
 | .halt _,h=>h
theorem tame_bind {α β:Type} {P:Program} {f:α->Sem β} (hf:∀ a,tame P (f a)):∀ {s:Sem α},tame P s->tame P (s.bind f)
 | .pure a,_=>hf a
 | .load _ _ k,h=>fun v=>tame_bind hf (h v)
 | .store _ _ _ k,h=>tame_bind hf (s:=k) h
 | .new _ k,h=>⟨h.1,fun r=>tame_bind hf (h.2 r)⟩
 | .shape _ k,h=>fun s=>dead_bind f (h s)
 | .freeze _ _ k,h=>dead_bind f (s:=k) h
 | .frozen _ k,h=>fun b=>dead_bind f (h b)
 | .getObj _ k,h=>fun o=>tame_bind hf (h o)
 | .setObj _ _ k,h=>⟨h.1,tame_bind hf (s:=k) h.2⟩
 | .choose _ k,h=>fun n=>tame_bind hf (h n)
 | .sys _ k,h=>fun r=>dead_bind f (h r)
 | .program k,h=>tame_bind hf (s:=k P) h
 | .mark m k,h=>by
  unfold tame at h
  show tame P (Sem.mark m (k.bind f))
  unfold tame
  split at h
  ·rename_i hm; rw [if_pos hm]; exact tame_bind hf (s:=k) h
  ·rename_i hm; rw [if_neg hm]; exact dead_bind f (s:=k) h
 | .halt _,_=>trivial
def inR (f:Nat × Nat) (i:Nat):Prop:=f.1 <= i/\i < f.2
inductive Plug where
 | all
 | cut (rest:Array Value) (f:Nat × Nat)
 | gone (o:Obj)
inductive Like:Plug->Obj->Obj->Prop
 | same (o:Obj):Like .all o o
 | cut (c rest:Array Value) (T:TypeId) (f f':Nat × Nat) (h:∀ i,inR f i->inR f' i):Like (.cut rest f) (.cells c T f') (.cells (c ++ rest) T f)
 | gone (T:TypeId) (f:Nat × Nat) (o:Obj):Like (.gone o) (.cells #[] T f) o
structure Sim (ρ:Nat->Plug) (u w:World):Prop where
 os:w.os = u.os
 output:w.output = u.output
 tape:w.tape = u.tape
 drawn:w.drawn = u.drawn
 size:w.heap.size = u.heap.size
 obj:∀ (b:Nat) (x:Obj),u.heap[b]? = some x->∃ y,w.heap[b]? = some y/\Like (ρ b) x y
 new:∀ b,u.heap.size <= b->ρ b = .all
 noview:∀ (b:Nat) (x:Obj),u.heap[b]? = some x->isView x = false
def keepsObj (x y:Obj):Prop:=match x,y with
 | .cells c T f,.cells c' T' f'=>c'.size = c.size/\T' = T/\f' = f/\∀ i,inR f i->c'[i]? = c[i]?
 | .cells ..,_=>False
 | _,y=>isCells y = false
structure Evo (u u':World):Prop where
 size:u.heap.size <= u'.heap.size
 obj:∀ (b:Nat) (x:Obj),u.heap[b]? = some x->∃ y,u'.heap[b]? = some y/\keepsObj x y
theorem keepsObj.refl:∀ x,keepsObj x x
 | .cells ..=>⟨rfl,rfl,rfl,fun _ _=>rfl⟩
 | .pending ..=>rfl
 | .view ..=>rfl
 | .number ..=>rfl
 | .map ..=>rfl
 | .chan ..=>rfl
 | .stringIter ..=>rfl
 | .mapIter ..=>rfl
 | .loop ..=>rfl
 | .deferred ..=>rfl
 | .coro ..=>rfl
 | .finalizers ..=>rfl
theorem keepsObj.trans {x y z:Obj} (h:keepsObj x y) (h':keepsObj y z):keepsObj x z:=by
 cases x <;> cases y <;> first | exact h.elim | skip
 case cells.cells =>
  cases z <;> first | exact h'.elim | skip
  obtain ⟨h1,rfl,rfl,h2⟩:=h
  obtain ⟨h3,rfl,rfl,h4⟩:=h'
  exact ⟨h3.trans h1,rfl,rfl,fun i hi=>(h4 i hi).trans (h2 i hi)⟩
 all_goals (first | (cases z <;> simp_all [keepsObj,isCells]))
theorem Evo.refl (u:World):Evo u u:=⟨Nat.le_refl _,fun _ x h=>⟨x,h,keepsObj.refl x⟩⟩
theorem Evo.trans {u v x:World} (h:Evo u v) (h':Evo v x):Evo u x :=
 ⟨Nat.le_trans h.size h'.size,fun b o ho=>by
  obtain ⟨o',h1,h2⟩:=h.obj b o ho
  obtain ⟨o'',h3,h4⟩:=h'.obj b o' h1
  exact ⟨o'',h3,h2.trans h4⟩⟩
def EvOk (u:World) (e:Event):Prop:=match e.loc with
 | .cell a=>a.block < u.heap.size->(∃ v,u.cell? a = some v)/\(e.write = true->u.frozen? a = false)
 | .obj r=>r < u.heap.size->∃ x,u.heap[r]? = some x/\isCells x = false
 | .mark m=>mild m = true
 | _=>False
theorem cell_some {u:World} {a:Addr} {v:Value} (h:u.cell? a = some v):∃ c T f,u.heap[a.block]? = some (.cells c T f)/\a.spot = none/\c[a.off]? = some v:=by
 unfold World.cell? at h
 split at h
 ·rename_i c T f hb
  split at h
  ·cases h
  ·rename_i hs
   exact ⟨c,T,f,hb,by cases hh:a.spot <;> simp_all,h⟩
 ·cases h
section
variable {ρ:Nat->Plug} {u w u':World} {a:Addr} {v:Value}
theorem Sim.cell (h:Sim ρ u w) (hc:u.cell? a = some v):w.cell? a = some v:=by
 obtain ⟨c,T,f,hb,hs,hv⟩:=cell_some hc
 obtain ⟨y,hy,hl⟩:=h.obj _ _ hb
 unfold World.cell?
 generalize ρ a.block = p at hl
 cases hl with
 | same=>rw [hy]; simp [hs,hv]
 | cut _ rest _ f0 _ hf =>
  rw [hy]
  simp only [hs,Option.isSome_none,Bool.false_eq_true,if_false]
  rw [Array.getElem?_append_left (Array.getElem?_eq_some_iff.1 hv).1]; exact hv
 | gone=>simp at hv
theorem Sim.frozen (h:Sim ρ u w) (hc:u.cell? a = some v) (hf:u.frozen? a = false):w.frozen? a = false:=by
 obtain ⟨c,T,f,hb,hs,hv⟩:=cell_some hc
 obtain ⟨y,hy,hl⟩:=h.obj _ _ hb
 unfold World.frozen? at hf ⊢
 rw [hb] at hf
 generalize ρ a.block = p at hl
 cases hl with
 | same=>rw [hy]; exact hf
 | cut _ rest _ f0 _ hf0 =>
  rw [hy]
  simp only [Bool.and_eq_false_imp,decide_eq_true_eq,decide_eq_false_iff_not] at hf ⊢
  intro h1 h2
  exact hf (hf0 _ ⟨h1,h2⟩).1 (hf0 _ ⟨h1,h2⟩).2
 | gone=>simp at hv
theorem heap_setCell (u:World) (a:Addr) (v:Value) (b:Nat):(u.setCell a v).heap[b]? = (u.heap[b]?).map fun o=>if b = a.block then (match o with | .cells c T f=>.cells (if a.spot.isSome then c else c.setIfInBounds a.off v) T f | o=>o) else o:=by
 unfold World.setCell
 simp only [Array.getElem?_modify]
 by_cases h:a.block = b
 ·subst h
  simp only [if_true]
  cases u.heap[a.block]? with
  | none=>rfl
  | some o=>cases o <;> rfl
 ·simp [h,Ne.symm h]
theorem Sim.setCell (h:Sim ρ u w) (hc:u.cell? a = some v) (x:Value):Sim ρ (u.setCell a x) (w.setCell a x):=by
 obtain ⟨c,T,f,hb,hs,hv⟩:=cell_some hc
 have hlt:=(Array.getElem?_eq_some_iff.1 hv).1
 refine ⟨h.os,h.output,h.tape,h.drawn,by simp [World.setCell,h.size],fun b o ho=>?_,fun b hb=>h.new b (by simpa [World.setCell] using hb),fun b o ho=>?_⟩
 ·rw [heap_setCell] at ho ⊢
  obtain ⟨o1,h1,rfl⟩:=Option.map_eq_some_iff.1 ho
  obtain ⟨y,hy,hl⟩:=h.obj b o1 h1
  refine ⟨_,by rw [hy]; rfl,?_⟩
  by_cases hba:b = a.block
  ·subst hba
   rw [hb] at h1
   obtain rfl:=Option.some.inj h1
   simp only [if_true,hs,Option.isSome_none,Bool.false_eq_true,if_false]
   generalize ρ a.block = p at hl ⊢
   cases hl with
   | same=>exact .same _
   | cut _ rest _ f0 _ hf0 =>
    show Like _ _ (.cells ((c ++ rest).setIfInBounds a.off x) T f0)
    rw [show (c ++ rest).setIfInBounds a.off x = c.setIfInBounds a.off x ++ rest by
     rw [Array.setIfInBounds_append_left hlt]]
    exact .cut _ _ _ _ _ hf0
   | gone=>simp at hv
  ·simp only [hba,if_false]; exact hl
 ·rw [heap_setCell] at ho
  obtain ⟨o1,h1,rfl⟩:=Option.map_eq_some_iff.1 ho
  have:=h.noview b o1 h1
  by_cases hba:b = a.block
  ·simp only [hba,if_true]; cases o1 <;> simp_all [isView]
  ·simp only [hba,if_false]; exact this
theorem evo_setCell (u:World) (a:Addr) (x:Value) (hz:u.frozen? a = false):Evo u (u.setCell a x):=by
 refine ⟨by simp [World.setCell],fun b o ho=>?_⟩
 rw [heap_setCell,ho]
 refine ⟨_,rfl,?_⟩
 by_cases hba:b = a.block
 ·subst hba
  unfold World.frozen? at hz
  rw [ho] at hz
  simp only [if_true]
  cases o <;> simp only [keepsObj,isCells]
  rename_i c T f
  split
  ·simp
  ·refine ⟨by simp,trivial,trivial,fun i hi=>?_⟩
   rw [Array.getElem?_setIfInBounds_ne]
   rintro rfl
   obtain ⟨lo,hi'⟩:=f
   simp only [Bool.and_eq_false_imp,decide_eq_true_eq,decide_eq_false_iff_not] at hz
   exact hz hi.1 hi.2
 ·simp only [hba,if_false]; exact keepsObj.refl o
theorem evo_push (u:World) (o:Obj):Evo u { u with heap:=u.heap.push o }:=by
 refine ⟨by simp,fun b x hx=>⟨x,?_,keepsObj.refl x⟩⟩
 have:=(Array.getElem?_eq_some_iff.1 hx).1
 show (u.heap.push o)[b]? = some x
 rw [Array.getElem?_push,if_neg (by omega)]; exact hx
theorem Sim.push (h:Sim ρ u w) {o:Obj} (ho:isView o = false):Sim ρ { u with heap:=u.heap.push o } { w with heap:=w.heap.push o }:=by
 refine ⟨h.os,h.output,h.tape,h.drawn,by simp [h.size],fun b x hx=>?_,fun b hb=>h.new b (by simp at hb; omega),fun b x hx=>?_⟩
 ·have hx':(u.heap.push o)[b]? = some x:=hx
  show ∃ y,(w.heap.push o)[b]? = some y/\_
  rw [Array.getElem?_push] at hx' ⊢
  rw [h.size]
  split at hx'
  ·rename_i hb; rw [if_pos hb]; cases hx'; exact ⟨_,rfl,by rw [h.new b (by omega)]; exact .same _⟩
  ·rename_i hb; rw [if_neg hb]; exact h.obj b x hx'
 ·have hx':(u.heap.push o)[b]? = some x:=hx
  rw [Array.getElem?_push] at hx'
  split at hx'
  ·cases hx'; exact ho
  ·exact h.noview b x hx'
theorem evo_setObj {r:Nat} {x:Obj} (hr:u.heap[r]? = some x) (hx:isCells x = false) {o:Obj} (ho:isCells o = false):Evo u { u with heap:=u.heap.setIfInBounds r o }:=by
 refine ⟨by simp,fun b y hy=>?_⟩
 show ∃ z,(u.heap.setIfInBounds r o)[b]? = some z/\_
 rw [Array.getElem?_setIfInBounds]
 by_cases h:r = b
 ·subst h
  have hlt:=(Array.getElem?_eq_some_iff.1 hr).1
  rw [hr] at hy; obtain rfl:=Option.some.inj hy
  refine ⟨o,by simp [hlt],?_⟩
  cases x <;> simp_all [keepsObj,isCells]
 ·exact ⟨y,by simp [h,hy],keepsObj.refl y⟩
theorem Sim.setObj (h:Sim ρ u w) {r:Nat} {o x:Obj} (hr:u.heap[r]? = some x) (hx:isCells x = false) (ho:isView o = false):Sim ρ { u with heap:=u.heap.setIfInBounds r o } { w with heap:=w.heap.setIfInBounds r o }:=by
 have hal:ρ r = .all:=by
  obtain ⟨y,_,hl⟩:=h.obj r x hr
  generalize ρ r = p at hl ⊢
  cases hl <;> first | rfl | cases hx
 refine ⟨h.os,h.output,h.tape,h.drawn,by simp [h.size],fun b x hx=>?_,fun b hb=>h.new b (by simpa using hb),fun b x hx=>?_⟩
 ·have hx':(u.heap.setIfInBounds r o)[b]? = some x:=hx
  show ∃ y,(w.heap.setIfInBounds r o)[b]? = some y/\_
  rw [Array.getElem?_setIfInBounds] at hx' ⊢
  by_cases hrb:r = b
  ·subst hrb
   simp only [if_true] at hx' ⊢
   rw [h.size]
   split at hx'
   ·rename_i hb; rw [if_pos hb]; cases hx'; exact ⟨_,rfl,by rw [hal]; exact .same _⟩
   ·cases hx'
  ·simp only [hrb,if_false] at hx' ⊢; exact h.obj b x hx'
 ·have hx':(u.heap.setIfInBounds r o)[b]? = some x:=hx
  rw [Array.getElem?_setIfInBounds] at hx'
  by_cases hrb:r = b
  ·subst hrb
   simp only [if_true] at hx'
   split at hx'
   ·cases hx'; exact ho
   ·cases hx'
  ·simp only [hrb,if_false] at hx'; exact h.noview b x hx'
theorem EvOk.back (he:Evo u u') {e:Event} (h:EvOk u' e):EvOk u e:=by
 obtain ⟨l,wr,sy⟩:=e
 cases l with
 | cell a =>
  intro hlt
  obtain ⟨⟨v,hv⟩,hw⟩:=h (Nat.lt_of_lt_of_le hlt he.size)
  have hx:u.heap[a.block]? = some u.heap[a.block]:=Array.getElem?_eq_getElem hlt
  obtain ⟨y,hy,hk⟩:=he.obj _ _ hx
  obtain ⟨c,T,f,hb,hs,hc⟩:=cell_some hv
  rw [hb] at hy; obtain rfl:=Option.some.inj hy
  generalize u.heap[a.block] = x at hx hk
  cases x <;> simp only [keepsObj,isCells,Bool.true_eq_false] at hk
  rename_i c0 T0 f0
  obtain ⟨h1,rfl,rfl,_⟩:=hk
  have hlt2:=(Array.getElem?_eq_some_iff.1 hc).1
  refine ⟨⟨c0[a.off]'(by omega),by unfold World.cell?; rw [hx]; simp [hs,show a.off < c0.size by omega]⟩,fun hwr=>?_⟩
  have:=hw hwr
  unfold World.frozen? at this ⊢
  rw [hb] at this
  rw [hx]; exact this
 | obj r =>
  intro hlt
  obtain ⟨x',hx',hc⟩:=h (Nat.lt_of_lt_of_le hlt he.size)
  have hx:u.heap[r]? = some u.heap[r]:=Array.getElem?_eq_getElem hlt
  obtain ⟨y,hy,hk⟩:=he.obj _ _ hx
  rw [hx'] at hy; obtain rfl:=Option.some.inj hy
  refine ⟨_,hx,?_⟩
  generalize u.heap[r] = x at hk
  cases x <;> first | rfl | (cases x' <;> simp_all [keepsObj,isCells])
 | output=>exact h
 | goroutines=>exact h
 | mark m=>exact h
def fine {α:Type}:Result α->Prop
 | .ok _ _=>True
 | .halt (.panic _) _=>True
 | _=>False
def atW {α:Type}:Result α->World->Result α
 | .ok a _,w=>.ok a w
 | .halt h _,w=>.halt h w
def worldOf {α:Type}:Result α->World
 | .ok _ w=>w
 | .halt _ w=>w
def one:Value->Bool
 | .agg _=>false
 | .tuple _=>false
 | _=>true
theorem runT_store {α:Type} {P:Program} {m:Mode} {a:Addr} {v:Value} {k:Sem α} (h:one v = true) (u:World) (es:Array Event):(Sem.store m a v k).runT P u es = match u.cell? a with
  | some _=>if u.frozen? a then (.halt (.unsupported (.unsafePointer "a write to bytes that a string shares")) u,es) else k.runT P (u.setCell a v) (es.push ⟨.cell a,true,m == .atomic⟩)
  | none=>match u.farStore P a v (m == .atomic) with
   | .ok (u,touched)=>k.runT P u (es ++ touched.toArray.map (⟨.cell ·,true,m == .atomic⟩))
   | .error h=>(.halt h u,es):=by
 cases v <;> first | rfl | cases h
theorem runT_store_bad {α:Type} {P:Program} {m:Mode} {a:Addr} {v:Value} {k:Sem α} (h:one v = false) (u:World) (es:Array Event):(Sem.store m a v k).runT P u es = (.halt (.stuck "store: not the value of one cell") u,es):=by
 cases v <;> first | rfl | cases h
theorem farLoad_not {P:Program} {u:World} {a:Addr} {b:Bool} {h:Halt} (he:u.farLoad P a b = .error h):∀ v,h ≠ .panic v:=by
 unfold World.farLoad at he
 split at he
 ·split at he
  ·cases he
  ·cases he; intro v; simp
 ·cases he
  unfold World.noCell
  split <;> intro v <;> simp
theorem farStore_not {P:Program} {u:World} {a:Addr} {x:Value} {b:Bool} {h:Halt} (he:u.farStore P a x b = .error h):∀ v,h ≠ .panic v:=by
 unfold World.farStore at he
 split at he
 ·split at he
  ·cases he
  ·cases he; intro v; simp
 ·cases he
  unfold World.noCell
  split <;> intro v <;> simp
theorem fine_halt {α:Type} {h:Halt} {w:World} (hf:fine (α:=α) (.halt h w)):∃ v,h = .panic v:=by
 cases h <;> first | exact ⟨_,rfl⟩ | exact hf.elim
theorem dead_not_fine {α:Type} {P:Program}:∀ {s:Sem α},dead P s->∀ (u:World) (es:Array Event),¬ fine (s.runT P u es).1
 | .pure _,h,_,_=>h.elim
 | .load m a k,h,u,es=>by
  unfold Sem.runT
  split
  ·exact dead_not_fine (h _) _ _
  ·split
   ·exact dead_not_fine (h _) _ _
   ·rename_i he
    intro hf
    obtain ⟨v,hv⟩:=fine_halt hf
    exact farLoad_not he v hv
 | .store m a v k,h,u,es=>by
  cases ho:one v
  ·rw [runT_store_bad ho]; exact id
  ·rw [runT_store ho]
   split
   ·split
    ·exact id
    ·exact dead_not_fine (s:=k) h _ _
   ·split
    ·exact dead_not_fine (s:=k) h _ _
    ·rename_i he
     intro hf
     obtain ⟨v,hv⟩:=fine_halt hf
     exact farStore_not he v hv
 | .new _ k,h,u,es=>dead_not_fine (h _) _ _
 | .shape _ k,h,u,es=>dead_not_fine (h _) _ _
 | .freeze _ _ k,h,u,es=>dead_not_fine (s:=k) h _ _
 | .frozen _ k,h,u,es=>dead_not_fine (h _) _ _
 | .getObj _ k,h,u,es=>by
  unfold Sem.runT
  split
  ·exact id
  ·exact dead_not_fine (h _) _ _
  ·exact id
 | .setObj _ _ k,h,u,es=>by
  unfold Sem.runT
  split
  ·exact id
  ·exact dead_not_fine (s:=k) h _ _
  ·exact id
 | .choose _ k,h,u,es=>by
  unfold Sem.runT
  split
  ·exact dead_not_fine (h _) _ _
  ·exact dead_not_fine (h _) _ _
 | .sys _ k,h,u,es=>dead_not_fine (h _) _ _
 | .program k,h,u,es=>dead_not_fine (s:=k P) h _ _
 | .mark _ k,h,u,es=>dead_not_fine (s:=k) h _ _
 | .halt hh,h,u,es=>by
  intro hf
  obtain ⟨v,hv⟩:=fine_halt hf
  exact h v hv
structure Same {α:Type} (P:Program) (ρ:Nat->Plug) (s:Sem α) (u w:World) (es:Array Event):Prop where
 out:∃ w',s.runT P w es = (atW (s.runT P u es).1 w',(s.runT P u es).2)/\Sim ρ (worldOf (s.runT P u es).1) w'
 evo:Evo u (worldOf (s.runT P u es).1)
 evs:∀ e ∈ (s.runT P u es).2,e ∈ es\/EvOk u e
theorem Same.of {α β:Type} {P:Program} {ρ:Nat->Plug} {s:Sem α} {t:Sem β} {u w u' w':World} {es es':Array Event} {f:Result β->Result α} (h:Same P ρ t u' w' es') (hu:s.runT P u es = (f (t.runT P u' es').1,(t.runT P u' es').2)) (hw:s.runT P w es = (f (t.runT P w' es').1,(t.runT P w' es').2))
  (hf:∀ r w,f (atW r w) = atW (f r) w) (hfw:∀ r,worldOf (f r) = worldOf r) (he:Evo u u') (hes:∀ e ∈ es',e ∈ es\/EvOk u e):Same P ρ s u w es:=by
 obtain ⟨⟨w2,h1,h2⟩,h3,h4⟩:=h
 refine ⟨⟨w2,?_,?_⟩,?_,?_⟩
 ·rw [hw,h1,hu]; simp only [hf]
 ·rw [hu]; simp only [hfw]; exact h2
 ·rw [hu]; simp only [hfw]; exact he.trans h3
 ·rw [hu]; intro e hee
  rcases h4 e hee with h5 | h5
  ·exact hes e h5
  ·exact .inr (h5.back he)
theorem Same.go {α:Type} {P:Program} {ρ:Nat->Plug} {s t:Sem α} {u w u' w':World} {es es':Array Event} (h:Same P ρ t u' w' es') (hu:s.runT P u es = t.runT P u' es') (hw:s.runT P w es = t.runT P w' es') (he:Evo u u') (hes:∀ e ∈ es',e ∈ es\/EvOk u e):Same P ρ s u w es :=
 Same.of (f:=id) h hu hw (fun _ _=>rfl) (fun _=>rfl) he hes
theorem cells_of {o:Obj} (h:isCells o = true):∃ c T f,o = .cells c T f:=by
 cases o <;> first | exact ⟨_,_,_,rfl⟩ | cases h
theorem mem_push_or {u:World} {es:Array Event} {x:Event} (hx:EvOk u x):∀ e ∈ es.push x,e ∈ es\/EvOk u e:=by
 intro e he
 rcases Array.mem_push.1 he with h | rfl
 ·exact .inl h
 ·exact .inr hx
theorem Sim.ask {ρ:Nat->Plug} {u w:World} (h:Sim ρ u w) (d:Nat):Sim ρ { u with drawn:=d } { w with drawn:=d }:=⟨h.os,h.output,h.tape,rfl,h.size,h.obj,h.new,h.noview⟩
theorem sim_runT {α:Type} {P:Program} {ρ:Nat->Plug}:∀ {s:Sem α},tame P s->∀ {u w:World} {es:Array Event},Sim ρ u w->fine (s.runT P u es).1->Same P ρ s u w es
 | .pure a,_,u,w,es,hs,_=>⟨⟨w,rfl,hs⟩,Evo.refl u,fun e he=>.inl he⟩
 | .halt hh,_,u,w,es,hs,_=>⟨⟨w,rfl,hs⟩,Evo.refl u,fun e he=>.inl he⟩
 | .load m a k,h,u,w,es,hs,hf=>by
  cases hc:u.cell? a with
  | some v =>
   have hu:(Sem.load m a k).runT P u es = (k v).runT P u (es.push ⟨.cell a,false,m == .atomic⟩):=by
    conv=>lhs; unfold Sem.runT
    rw [hc]
   have hw:(Sem.load m a k).runT P w es = (k v).runT P w (es.push ⟨.cell a,false,m == .atomic⟩):=by
    conv=>lhs; unfold Sem.runT
    rw [hs.cell hc]
   rw [hu] at hf
   exact (sim_runT (h v) hs hf).go hu hw (Evo.refl u) (mem_push_or (fun _=>⟨⟨v,hc⟩,fun h9=>by cases h9⟩))
  | none =>
   exfalso
   unfold Sem.runT at hf
   rw [hc] at hf
   have:∃ hh,u.farLoad P a (m == .atomic) = .error hh:=by
    unfold World.farLoad
    cases hb:u.heap[a.block]? with
    | none=>exact ⟨_,rfl⟩
    | some o =>
     cases o
     case view at_ t=>exact absurd (hs.noview _ _ hb) (by simp [isView])
     all_goals exact ⟨_,rfl⟩
   obtain ⟨hh,he⟩:=this
   rw [he] at hf
   obtain ⟨v,hv⟩:=fine_halt hf
   exact farLoad_not he v hv
 | .store m a x k,h,u,w,es,hs,hf=>by
  cases ho:one x
  ·rw [runT_store_bad ho] at hf; exact hf.elim
  ·cases hc:u.cell? a with
   | some v =>
    cases hz:u.frozen? a
    ·have hu:(Sem.store m a x k).runT P u es = k.runT P (u.setCell a x) (es.push ⟨.cell a,true,m == .atomic⟩):=by
      rw [runT_store ho,hc,hz]; rfl
     have hw:(Sem.store m a x k).runT P w es = k.runT P (w.setCell a x) (es.push ⟨.cell a,true,m == .atomic⟩):=by
      rw [runT_store ho,hs.cell hc,hs.frozen hc hz]; rfl
     rw [hu] at hf
     exact (sim_runT (s:=k) h (hs.setCell hc x) hf).go hu hw (evo_setCell u a x hz) (mem_push_or (fun _=>⟨⟨v,hc⟩,fun _=>hz⟩))
    ·rw [runT_store ho,hc,hz] at hf; exact hf.elim
   | none =>
    exfalso
    rw [runT_store ho,hc] at hf
    have:∃ hh,u.farStore P a x (m == .atomic) = .error hh:=by
     unfold World.farStore
     cases hb:u.heap[a.block]? with
     | none=>exact ⟨_,rfl⟩
     | some o =>
      cases o
      case view at_ t=>exact absurd (hs.noview _ _ hb) (by simp [isView])
      all_goals exact ⟨_,rfl⟩
    obtain ⟨hh,he⟩:=this
    rw [he] at hf
    obtain ⟨v,hv⟩:=fine_halt hf
    exact farStore_not he v hv
 | .new o k,h,u,w,es,hs,hf=>by
  refine (sim_runT (h.2 u.heap.size) (hs.push h.1) hf).go rfl ?_ (evo_push u o) (fun e he=>.inl he)
  show (k w.heap.size).runT P _ es = _
  rw [hs.size]
 | .shape _ k,h,u,w,es,hs,hf=>absurd hf (dead_not_fine (h _) _ _)
 | .freeze _ _ k,h,u,w,es,hs,hf=>absurd hf (dead_not_fine (s:=k) h _ _)
 | .frozen _ k,h,u,w,es,hs,hf=>absurd hf (dead_not_fine (h _) _ _)
 | .getObj r k,h,u,w,es,hs,hf=>by
  cases hb:u.heap[r]? with
  | none=>unfold Sem.runT at hf; rw [hb] at hf; exact hf.elim
  | some o =>
   cases hco:isCells o
   ·obtain ⟨y,hy,hl⟩:=hs.obj r o hb
    have hyo:y = o:=by generalize ρ r = p at hl; cases hl <;> first | rfl | cases hco
    subst hyo
    have hu:(Sem.getObj r k).runT P u es = (k y).runT P u (es.push ⟨.obj r,false,y.isChan⟩):=by
     conv=>lhs; unfold Sem.runT
     rw [hb]; cases y <;> first | rfl | cases hco
    have hw:(Sem.getObj r k).runT P w es = (k y).runT P w (es.push ⟨.obj r,false,y.isChan⟩):=by
     conv=>lhs; unfold Sem.runT
     rw [hy]; cases y <;> first | rfl | cases hco
    rw [hu] at hf
    exact (sim_runT (h y) hs hf).go hu hw (Evo.refl u) (mem_push_or (fun _=>⟨y,hb,hco⟩))
   ·obtain ⟨c,T,f,rfl⟩:=cells_of hco
    unfold Sem.runT at hf; rw [hb] at hf; exact hf.elim
 | .setObj r o k,h,u,w,es,hs,hf=>by
  cases hb:u.heap[r]? with
  | none=>unfold Sem.runT at hf; rw [hb] at hf; exact hf.elim
  | some y =>
   cases hco:isCells y
   ·obtain ⟨y',hy,hl⟩:=hs.obj r y hb
    have hyo:y' = y:=by generalize ρ r = p at hl; cases hl <;> first | rfl | cases hco
    subst hyo
    have hu:(Sem.setObj r o k).runT P u es = k.runT P { u with heap:=u.heap.setIfInBounds r o } (es.push ⟨.obj r,true,o.isChan⟩):=by
     conv=>lhs; unfold Sem.runT
     rw [hb]; cases y' <;> first | rfl | cases hco
    have hw:(Sem.setObj r o k).runT P w es = k.runT P { w with heap:=w.heap.setIfInBounds r o } (es.push ⟨.obj r,true,o.isChan⟩):=by
     conv=>lhs; unfold Sem.runT
     rw [hy]; cases y' <;> first | rfl | cases hco
    rw [hu] at hf
    exact (sim_runT (s:=k) h.2 (hs.setObj hb hco h.1.1) hf).go hu hw (evo_setObj hb hco h.1.2) (mem_push_or (fun _=>⟨y',hb,hco⟩))
   ·obtain ⟨c,T,f,rfl⟩:=cells_of hco
    unfold Sem.runT at hf; rw [hb] at hf; exact hf.elim
 | .choose q k,h,u,w,es,hs,hf=>by
  cases hq:q.forced
  ·have hu:(Sem.choose q k).runT P u es = (k (q.cut (u.tape u.drawn q))).runT P { u with drawn:=u.drawn + 1 } es:=by
    conv=>lhs; unfold Sem.runT
    rw [hq]; rfl
   have hw:(Sem.choose q k).runT P w es = (k (q.cut (u.tape u.drawn q))).runT P { w with drawn:=u.drawn + 1 } es:=by
    conv=>lhs; unfold Sem.runT
    rw [hq,hs.tape,hs.drawn]; rfl
   rw [hu] at hf
   exact (sim_runT (h _) (hs.ask _) hf).go hu hw ⟨Nat.le_refl _,fun _ x hx=>⟨x,hx,keepsObj.refl x⟩⟩ (fun e he=>.inl he)
  ·have hu:(Sem.choose q k).runT P u es = (k 0).runT P u es:=by
    conv=>lhs; unfold Sem.runT
    rw [hq]; rfl
   have hw:(Sem.choose q k).runT P w es = (k 0).runT P w es:=by
    conv=>lhs; unfold Sem.runT
    rw [hq]; rfl
   rw [hu] at hf
   exact (sim_runT (h 0) hs hf).go hu hw (Evo.refl u) (fun e he=>.inl he)
 | .sys _ k,h,u,w,es,hs,hf=>absurd hf (dead_not_fine (h _) _ _)
 | .program k,h,u,w,es,hs,hf=>(sim_runT (s:=k P) h hs hf).go rfl rfl (Evo.refl u) (fun e he=>.inl he)
 | .mark m k,h,u,w,es,hs,hf=>by
  unfold tame at h
  split at h
  ·rename_i hm
   exact (sim_runT (s:=k) h hs hf).go rfl rfl (Evo.refl u) (mem_push_or hm)
  ·exact absurd hf (dead_not_fine (s:=k) h _ _)
end
end Go.Yc
end
/- A machine of many goroutines of which one holds the token: what is held of it. Nothing here speaks of a program. -/
section
namespace Go.Yc
open Go Go.Conc
open Go.ConcN (sumTo upd sumTo_upd upd_ne upd_same sumTo_congr)
def onT (u:World) (τ:Tape) (d:Nat):World:={ u with tape:=τ,drawn:=d }
theorem Like.uniq {p:Plug} {x y y':Obj} (h:Like p x y) (h':Like p x y'):y = y':=by
 cases h <;> cases h' <;> rfl
theorem keeps_cells {c:Array Value} {T:TypeId} {f:Nat × Nat} {y:Obj} (hk:keepsObj (.cells c T f) y):∃ c',y = .cells c' T f/\c'.size = c.size/\∀ i,inR f i->c'[i]? = c[i]?:=by
 cases y <;> try (exact hk.elim)
 obtain ⟨h1,rfl,rfl,h2⟩:=hk
 exact ⟨_,rfl,h1,h2⟩
def Gone (u:World) (b:Nat):Prop:=∃ T f,u.heap[b]? = some (.cells #[] T f)
theorem Gone.evo {u u':World} {b:Nat} (h:Gone u b) (he:Evo u u'):Gone u' b:=by
 obtain ⟨T,f,hb⟩:=h
 obtain ⟨y,hy,hk⟩:=he.obj _ _ hb
 obtain ⟨c,rfl,h1,_⟩:=keeps_cells hk
 have:c = #[]:=by simpa using h1
 subst this
 exact ⟨_,_,hy⟩
theorem Gone.kept {ρ:Nat->Plug} {u u' w w':World} {b:Nat} (h:Gone u b) (he:Evo u u') (hs:Sim ρ u w) (hs':Sim ρ u' w'):w'.heap[b]? = w.heap[b]?:=by
 obtain ⟨T,f,hb⟩:=h
 obtain ⟨y,hy,hk⟩:=he.obj _ _ hb
 obtain ⟨c,rfl,h1,_⟩:=keeps_cells hk
 have:c = #[]:=by simpa using h1
 subst this
 obtain ⟨z,hz,hl⟩:=hs.obj _ _ hb
 obtain ⟨z',hz',hl'⟩:=hs'.obj _ _ hy
 rw [hz,hz',hl.uniq hl']
theorem frozen_evo {u u':World} {a:Addr} {v:Value} (hc:u.cell? a = some v) (hf:u.frozen? a = true) (he:Evo u u'):u'.cell? a = some v/\u'.frozen? a = true:=by
 obtain ⟨c,T,f,hb,hs,hv⟩:=cell_some hc
 obtain ⟨y,hy,hk⟩:=he.obj _ _ hb
 obtain ⟨c',rfl,h1,h2⟩:=keeps_cells hk
 unfold World.frozen? at hf ⊢
 unfold World.cell?
 rw [hb] at hf
 rw [hy]
 obtain ⟨lo,hi⟩:=f
 refine ⟨?_,hf⟩
 simp only [hs,Option.isSome_none,Bool.false_eq_true,if_false]
 simp only [Bool.and_eq_true,decide_eq_true_eq] at hf
 rw [h2 _ hf]; exact hv
structure Grp where
 blk:Nat
 off:Nat
def stA (G:Grp):Addr:=⟨G.blk,G.off,none⟩
def smA (G:Grp):Addr:=⟨G.blk,G.off + 1,none⟩
def KK:Nat:=4294967296
attribute [local irreducible] KK
def GAt (G:Grp) (st sm:Int) (w:World):Prop:=∃ c T,w.heap[G.blk]? = some (.cells (c ++ #[.int .u64 st,.int .u32 sm]) T (0,0))/\c.size = G.off
def Cut (u:World) (G:Grp):Prop:=0 < G.off/\∃ c T f,u.heap[G.blk]? = some (.cells c T f)/\c.size = G.off
theorem Cut.evo {u u':World} {G:Grp} (h:Cut u G) (he:Evo u u'):Cut u' G:=by
 obtain ⟨h0,c,T,f,hb,hc⟩:=h
 obtain ⟨y,hy,hk⟩:=he.obj _ _ hb
 obtain ⟨c',rfl,h1,_⟩:=keeps_cells hk
 exact ⟨h0,_,_,_,hy,h1.trans hc⟩
theorem Cut.kept {ρ:Nat->Plug} {u u' w w':World} {G:Grp} {st sm:Int} (h:Cut u G) (he:Evo u u') (hs:Sim ρ u w) (hs':Sim ρ u' w') (hg:GAt G st sm w):GAt G st sm w':=by
 obtain ⟨h0,c,T,f,hb,hc⟩:=h
 obtain ⟨y,hy,hk⟩:=he.obj _ _ hb
 obtain ⟨c',rfl,h1,_⟩:=keeps_cells hk
 obtain ⟨z,hz,hl⟩:=hs.obj _ _ hb
 obtain ⟨z',hz',hl'⟩:=hs'.obj _ _ hy
 obtain ⟨c0,T0,hg,hc0⟩:=hg
 rw [hz] at hg
 obtain rfl:=Option.some.inj hg
 generalize ρ G.blk = p at hl hl'
 generalize hz0:(Obj.cells (c0 ++ #[.int .u64 st,.int .u32 sm]) T0 (0,0)) = z0 at hl
 cases hl with
 | same =>
  obtain ⟨rfl,_,_⟩:=Obj.cells.inj hz0
  simp at hc; omega
 | cut _ rest _ f1 _ _ =>
  obtain ⟨h2,rfl,h3⟩:=Obj.cells.inj hz0
  have hsz:c.size = c0.size:=by omega
  have:rest = #[.int .u64 st,.int .u32 sm]:=(Array.append_inj_right h2 hsz.symm).symm
  subst this
  cases hl' with
  | cut _ _ _ _ _ _=>exact ⟨c',T0,by rw [hz',<- h3],h1.trans hc⟩
 | gone=>simp at hc; omega
theorem GAt.cells {G:Grp} {st sm:Int} {w:World} (h:GAt G st sm w):w.cell? (stA G) = some (.int .u64 st)/\w.cell? (smA G) = some (.int .u32 sm)/\w.frozen? (stA G) = false/\w.frozen? (smA G) = false:=by
 obtain ⟨c,T,hb,hc⟩:=h
 refine ⟨?_,?_,?_,?_⟩
 ·simp [World.cell?,stA,hb,<- hc]
 ·simp only [World.cell?,smA,hb,Option.isSome_none,Bool.false_eq_true,if_false]
  rw [Array.getElem?_append_right (by omega)]; simp [<- hc]
 ·simp [World.frozen?,stA,hb]
 ·simp [World.frozen?,smA,hb]
def Follows (P:Program) (main:Bool) (g:Goroutine) (u:World) (g':Goroutine) (u':World):Prop :=
 g'.status = .running/\∀ ρ w,Sim ρ u w->Evo u u'/\∃ w' es,stepG P main g w = .go g' w' es/\Sim ρ u' w'/\∀ e ∈ es,EvOk u e
structure Seat1 where
 ch:Nat
 z:Value
 me:Goroutine
def AtSeat (P:Program) (main:Bool) (s:Seat1) (g:Goroutine):Prop :=
 g.status = .running/\g.frame = s.me.frame/\g.callers = s.me.callers/\g.dying = s.me.dying/\∀ w,stepG P main g w = .comm s.me #[rcase s.ch s.z] true (.recv false) w #[]
abbrev Stays:=List (Addr × Value)
def Way (P:Program) (main:Bool) (l:Stays) (s:Seat1):Nat->Goroutine->Prop
 | 0,g=>g = parked s.me #[rcase s.ch s.z] (.recv false)/\∃ g₀,AtSeat P main s g₀
 | n + 1,g=>AtSeat P main s g\/(0 < n/\g.status = .running/\∃ g' es,(∀ e ∈ es,∃ p ∈ l,e = ⟨.cell p.1,false,false⟩)/\(∀ w,(∀ p ∈ l,w.cell? p.1 = some p.2)->stepG P main g w = .go g' w es)/\Way P main l s n g')
theorem Way.status {P:Program} {main:Bool} {l:Stays} {s:Seat1}:∀ {n:Nat} {g:Goroutine},Way P main l s n g->(g.status = .running/\0 < n)\/(g.status = .blocked/\n = 0)
 | 0,_,h=>.inr ⟨by have:=h.1; subst this; rfl,rfl⟩
 | _ + 1,_,h=>.inl ⟨h.elim (fun x=>x.1) fun x=>x.2.1,by omega⟩
def says (e:Event):Bool:=match e.loc with
 | .mark (.read _) | .mark (.write _)=>false
 | .mark _=>true
 | _=>false
def rdA (a:Addr):Event:=⟨.cell a,false,true⟩
def wrA (a:Addr):Event:=⟨.cell a,true,true⟩
def Hush (P:Program) (G:Grp) (g:Goroutine) (g':Goroutine) (es:Array Event):Prop :=
 g.status = .running/\(∀ e ∈ es,says e = true)/\∀ w st sm,GAt G st sm w->stepG P false g w = .go g' w es
def Lst (P:Program) (G:Grp):Nat->Nat->Nat->Goroutine->Prop
 | 0,_,_,_=>False
 | n + 1,s,d,g=>0 < d/\((∃ g' es,Hush P G g g' es/\(∀ e ∈ es,e.loc ≠ .mark .disable/\e.loc ≠ .mark .enable)/\Lst P G n s d g')\/(g.status = .running/\match s with
  | 2=>∃ g',(∀ w,GAt G 1 0 w->stepG P false g w = .go g' w #[rdA (stA G)])/\Lst P G n 1 d g'
  | 1=>∃ g',(∀ w,GAt G 1 0 w->stepG P false g w = .go g' (w.setCell (stA G) (.int .u64 0)) #[wrA (stA G)])/\Lst P G n 0 d g'
  | _=>mayWake P g = true/\∃ g',(∀ w,GAt G 0 0 w->stepG P false g w = .go g' (w.setCell (smA G) (.int .u32 1)) (semEvents (smA G)))/\QuitsD P n d g'))
def Lt (P:Program) (G:Grp):Nat->Nat->Goroutine->Prop
 | 0,_,_=>False
 | n + 1,d,g=>(∃ g' es,Hush P G g g' es/\Lt P G n (deafBehind d es) g')\/(g.status = .running/\0 < d/\∀ v wt:Nat,wt <= 1->v < 2147483647->∃ g',
   (∀ w,GAt G (((v + 1) * KK + wt:Nat):Int) 0 w->stepG P false g w = .go g' (w.setCell (stA G) (.int .u64 ((v * KK + wt:Nat):Int))) #[rdA (stA G),wrA (stA G)])/\(¬ (v = 0/\wt = 1)->QuitsD P n d g')/\(v = 0/\wt = 1->Lst P G n 2 d g'))
theorem Lt.running {P:Program} {G:Grp}:∀ {n d:Nat} {g:Goroutine},Lt P G n d g->g.status = .running:=by
 intro n d g h
 cases n with
 | zero=>exact h.elim
 | succ n =>
  unfold Lt at h
  rcases h with ⟨_,_,x,_⟩ | x
  ·exact x.1
  ·exact x.1
theorem Lst.running {P:Program} {G:Grp}:∀ {n s d:Nat} {g:Goroutine},Lst P G n s d g->g.status = .running:=by
 intro n s d g h
 cases n with
 | zero=>exact h.elim
 | succ n =>
  unfold Lst at h
  rcases h with ⟨_,⟨_,_,x,_⟩ | x⟩
  ·exact x.1
  ·exact x.1
end Go.Yc
end
/- The frame of the token: what is held of the machine while one goroutine holds; its own steps; the others' steps. Nothing here speaks of a program. -/
section
namespace Go.Yc
open Go Go.Conc
open Go.ConcN (sumTo upd sumTo_upd upd_ne upd_same sumTo_congr)
attribute [local irreducible] KK
structure Gh where
 seat:Nat->Option Seat1
 stay:Nat->Stays
 grp:Option Grp
 old:List Grp
 hid:Nat->Option Obj
 chs:Nat->Prop
 low:Nat->Prop
 plug:Nat->Plug
 cap:Nat
 pend:Nat
 dn:Nat
 n:Nat
def Gh.Sh (X:Gh) (l:Loc):Prop:=∃ a G,(X.grp = some G\/G ∈ X.old)/\l = .cell a/\a.block = G.blk/\G.off <= a.off
def Us (live:Nat->Bool) (g:Nat):Prop:=g = 0\/live g = true
def Gh.St (X:Gh) (i:Nat) (l:Loc):Prop:=∃ p ∈ X.stay i,l = .cell p.1
def Gh.Mem (X:Gh) (h g:Nat):Prop:=(g = h/\X.dn = 0)\/X.seat g ≠ none
def Gh.Lo (X:Gh) (h g:Nat):Prop:=g ≠ h/\X.seat g ≠ none
def count (live:Nat->Bool) (n:Nat):Nat:=sumTo n fun i=>if live i then 1 else 0
def Idle (P:Program) (X:Gh) (live:Nat->Bool) (T:Trace) (i n:Nat) (g:Goroutine):Prop:=match X.seat i with
 | some s=>Way P (i == 0) (X.stay i) s n g
 | none=>0 < i/\if live i then ∃ G,X.grp = some G/\Lt P G n (Deaf T i) g else QuitsD P n (Deaf T i) g
structure Ring (P:Program) (X:Gh) (h:Nat) (u:World) (live:Nat->Bool) (T:Trace) (gs:Array Goroutine) (w:World) (q:Nat->Nat):Prop where
 sim:∃ ρ,Sim ρ (onT u w.tape w.drawn) w/\∀ b,¬ X.low b->ρ b = X.plug b
 idle:∀ i g,i ≠ h->gs[i]? = some g->Idle P X live T i (q i) g
 free:X.seat h = none
 size:h < gs.size
 num:gs.size = X.n
 stays:∀ i p,p ∈ X.stay i->u.cell? p.1 = some p.2/\u.frozen? p.1 = true
 chans:∀ c,X.chs c->Gone u c/\X.hid c = none/\∃ k,w.heap[c]? = some (.chan 0 #[] false k k false)
 seats:∀ i s,X.seat i = some s->X.chs s.ch
 inj:∀ i j s s',X.seat i = some s->X.seat j = some s'->s.ch = s'.ch->i = j
 hid:∀ b o,X.hid b = some o->Gone u b/\isView o = false/\∃ p y,w.heap[b]? = some y/\Like p o y
 lowg:∀ G,X.grp = some G->X.low G.blk
 lowc:∀ c,X.chs c->X.low c
 grp:∀ G,X.grp = some G->Cut u G/\GAt G (((count live gs.size + X.pend) * KK:Nat):Int) 0 w
 old:∀ G ∈ X.old,Cut u G
 above:∀ j,gs.size <= j->Deaf T j = 0/\X.seat j = none/\live j = false/\X.stay j = []
 few:count live gs.size + X.pend <= X.cap/\X.cap <= 65536
 livg:∀ i,live i = true->i ≠ 0/\X.grp ≠ none
 livs:∀ i,i ≠ 0->(X.seat i ≠ none\/i = h)->live i = true
 dfn:Deaf T h = X.dn
 past:PastH X.Sh (Us live) X.St (X.Mem h) (X.Lo h) h T
theorem ev_ok {X:Gh} {u:World} {h:Nat} (hst:∀ i p,p ∈ X.stay i->u.cell? p.1 = some p.2/\u.frozen? p.1 = true) (hg:∀ G,(X.grp = some G\/G ∈ X.old)->Cut u G) {e:Event} (he:EvOk u e) (fn:FuncId) (pos:String) :
  HOk X.Sh X.St h { g:=h,fn,pos,act:=.ofEvent e }/\e.loc ≠ .mark .disable/\e.loc ≠ .mark .enable:=by
 obtain ⟨l,wr,sy⟩:=e
 cases l with
 | cell a =>
  refine ⟨fun b hb=>?_,by simp,by simp⟩
  simp only [ofEvent_cell0,MemAct.touch?,Option.some.injEq] at hb
  subst hb
  refine ⟨?_,fun hwr g _=>?_⟩
  ·rintro ⟨a',G,hG,ha,hb,ho⟩
   simp only [Loc.cell.injEq] at ha
   subst ha
   obtain ⟨_,c,T,f,hc,hs⟩:=hg G hG
   obtain ⟨⟨v,hv⟩,_⟩:=he (by rw [hb]; exact (Array.getElem?_eq_some_iff.1 hc).1)
   obtain ⟨c',T',f',hc',_,hv'⟩:=cell_some hv
   rw [hb,hc] at hc'
   cases hc'
   have:=(Array.getElem?_eq_some_iff.1 hv').1
   omega
  ·rintro ⟨p,hp,ha⟩
   simp only [Loc.cell.injEq] at ha
   subst ha
   obtain ⟨h1,h2⟩:=hst g p hp
   obtain ⟨c',T',f',hc',_,_⟩:=cell_some h1
   have:=(he (Array.getElem?_eq_some_iff.1 hc').1).2 hwr
   rw [h2] at this; cases this
 | obj r =>
  refine ⟨fun b hb=>?_,by simp,by simp⟩
  have:b.loc = .obj r:=by
   cases wr <;> cases sy <;> simp [MemAct.ofEvent,MemAct.touch?] at hb <;> (try (subst hb; rfl))
  refine ⟨?_,fun _ g _=>?_⟩
  ·rintro ⟨a',G,_,ha,_⟩; rw [this] at ha; cases ha
  ·rintro ⟨p,_,ha⟩; rw [this] at ha; cases ha
 | output=>exact he.elim
 | goroutines=>exact he.elim
 | mark m =>
  have hm:mild m = true:=he
  cases m <;> first | (cases hm; done) | exact ⟨fun b hb=>by simp [MemAct.ofEvent,MemAct.touch?] at hb,by simp,by simp⟩
section
variable {P:Program} {X:Gh} {h:Nat} {u:World} {live:Nat->Bool} {T:Trace} {gs:Array Goroutine} {w:World} {q:Nat->Nat}
theorem Way.again {main:Bool} {l:Stays} {s:Seat1} {n:Nat} {g:Goroutine} (hw:Way P main l s n g) (hc:∃ k,w.heap[s.ch]? = some (.chan 0 #[] false k k false)):g.again w = g:=by
 rcases hw.status with ⟨h1,_⟩ | ⟨_,rfl⟩
 ·exact again_of_running (.inl h1) w
 ·obtain ⟨rfl,_⟩:=hw
  obtain ⟨k,hk⟩:=hc
  exact again_recv_open hk
theorem Idle.again {i n:Nat} {g:Goroutine} (hi:Idle P X live T i n g) (hc:∀ s,X.seat i = some s->∃ k,w.heap[s.ch]? = some (.chan 0 #[] false k k false)):g.again w = g:=by
 unfold Idle at hi
 cases e:X.seat i with
 | some s=>rw [e] at hi; exact Way.again hi (hc s e)
 | none =>
  rw [e] at hi
  obtain ⟨_,hi⟩:=hi
  split at hi
  ·obtain ⟨G,_,hl⟩:=hi
   exact again_of_running (.inl hl.running) w
  ·exact again_of_running hi.status w
theorem Idle.other {i n g':Nat} {g:Goroutine} (hi:Idle P X live T i n g) (hne:g' ≠ i) {ops:Trace} (hops:∀ op ∈ ops,op.g = g'):Idle P X live (T ++ ops) i n g:=by
 unfold Idle at hi ⊢
 rw [Deaf_other T hne ops hops]
 exact hi
theorem Idle.awake {i n:Nat} {g:Goroutine} (hi:Idle P X live T i n g):awake g:=by
 unfold Idle at hi
 cases e:X.seat i with
 | some s=>rw [e] at hi; exact awake_of (hi.status.elim (fun x=>.inl x.1) fun x=>.inr (.inl x.1))
 | none =>
  rw [e] at hi
  obtain ⟨_,hi⟩:=hi
  split at hi
  ·obtain ⟨G,_,hl⟩:=hi
   exact awake_of (.inl hl.running)
  ·exact awake_of (hi.status.elim .inl fun x=>.inr (.inr x))
theorem Ring.awake (C:Ring P X h u live T gs w q) {a:Goroutine} (ha:gs[h]? = some a) (hs:a.status = .running\/a.status = .blocked):∀ g ∈ gs,awake g:=by
 intro g hg
 obtain ⟨i,hi,rfl⟩:=Array.mem_iff_getElem.1 hg
 by_cases e:i = h
 ·subst e
  have:gs[i] = a:=by simpa [Array.getElem?_eq_getElem hi] using ha
  rw [this]; exact awake_of (hs.elim .inl fun x=>.inr (.inl x))
 ·exact (C.idle i _ e (Array.getElem?_eq_getElem hi)).awake
theorem Sim.at {ρ:Nat->Plug} (hs:Sim ρ (onT u w.tape w.drawn) w) (d:Nat):Sim ρ (onT u (w.at d).tape (w.at d).drawn) (w.at d):=⟨hs.os,hs.output,rfl,rfl,hs.size,hs.obj,hs.new,hs.noview⟩
theorem Ring.at (C:Ring P X h u live T gs w q) (d:Nat):Ring P X h u live T gs (w.at d) q :=
 ⟨let ⟨ρ,hs,hl⟩:=C.sim; ⟨ρ,Sim.at hs d,hl⟩,C.idle,C.free,C.size,C.num,C.stays,C.chans,C.seats,C.inj,C.hid,C.lowg,C.lowc,C.grp,C.old,C.above,C.few,C.livg,C.livs,C.dfn,C.past⟩
theorem Ring.own (C:Ring P X h u live T gs w q) {g g':Goroutine} {u':World} (ha:gs[h]? = some g) (hF:Follows P (h == 0) g (onT u w.tape w.drawn) g' u') :
  ∃ w' es,stepG P (h == 0) g w = .go g' w' es/\Ring P X h u' live (T ++ MemOp.ofEvents h g.frame.fn g.frame.place es) ((gs.map (woken P g g' w')).setIfInBounds h g') w' q/\((gs.map (woken P g g' w')).setIfInBounds h g')[h]? = some g':=by
 obtain ⟨hr,hF⟩:=hF
 obtain ⟨ρ,hs,hlw⟩:=C.sim
 obtain ⟨hE,w',es,hst,hs',hev⟩:=hF ρ w hs
 have hE:Evo u u':=⟨hE.size,hE.obj⟩
 have hs1:Sim ρ { u with tape:=w.tape,drawn:=w.drawn } w:=hs
 have hgr:∀ G,(X.grp = some G\/G ∈ X.old)->Cut u G:=fun G hG=>hG.elim (fun e=>(C.grp G e).1) (C.old G)
 have hev2:=fun e he=>ev_ok (X:=X) (h:=h) C.stays hgr (hev e he)
 have hops:∀ op ∈ MemOp.ofEvents h g.frame.fn g.frame.place es,op.g = h:=fun op hop=>by obtain ⟨e,_,rfl⟩:=Go.Conc.mem_ofEvents hop; rfl
 have hd:Deaf (T ++ MemOp.ofEvents h g.frame.fn g.frame.place es) h = Deaf T h:=by
  rw [Deaf_own]; exact deafBehind_still (fun e he=>(hev2 e he g.frame.fn g.frame.place).2) _
 have hch:∀ c,X.chs c->∃ k,w'.heap[c]? = some (.chan 0 #[] false k k false):=fun c e=>by
  obtain ⟨hg,_,k,hk⟩:=C.chans c e
  exact ⟨k,by rw [Gone.kept (u:=onT u w.tape w.drawn) hg ⟨hE.size,hE.obj⟩ hs hs']; exact hk⟩
 refine ⟨w',es,hst,⟨⟨ρ,?_,hlw⟩,fun i y hi hy=>?_,C.free,by simpa using C.size,by simpa using C.num,fun i p hp=>frozen_evo (C.stays i p hp).1 (C.stays i p hp).2 hE,
  fun c e=>⟨(C.chans c e).1.evo hE,(C.chans c e).2.1,hch c e⟩,C.seats,C.inj,fun b o e=>?_,C.lowg,C.lowc,fun G e=>⟨(C.grp G e).1.evo hE,?_⟩,fun G hG=>(C.old G hG).evo hE,fun j hj=>?_,by simpa using C.few,C.livg,C.livs,hd.trans C.dfn,?_⟩,Array.getElem?_setIfInBounds_self_of_lt (by simpa using C.size)⟩
 ·rw [hs'.tape,hs'.drawn]; exact hs'
 ·rw [Array.getElem?_setIfInBounds_ne (fun e=>hi e.symm),Array.getElem?_map] at hy
  obtain ⟨y₀,hy₀,rfl⟩:=Option.map_eq_some_iff.1 hy
  have hid:=C.idle i y₀ hi hy₀
  rw [woken_of_again (hid.again fun s e=>hch _ (C.seats i s e))]
  exact hid.other (fun z=>hi z.symm) hops
 ·obtain ⟨h1,h2,p,y,hy,hl⟩:=C.hid b o e
  exact ⟨h1.evo hE,h2,p,y,by rw [Gone.kept (u:=onT u w.tape w.drawn) h1 ⟨hE.size,hE.obj⟩ hs hs']; exact hy,hl⟩
 ·have:=Cut.kept (u:=onT u w.tape w.drawn) (C.grp G e).1 ⟨hE.size,hE.obj⟩ hs hs' (C.grp G e).2
  simpa using this
 ·simp only [Array.size_setIfInBounds,Array.size_map] at hj
  rw [Deaf_other T (g':=h) (by have:=C.size; omega) _ hops]
  exact C.above j hj
 ·exact PastH.appH C.past (fun z=>z.1 rfl) hops (fun op hop=>by obtain ⟨e,he,rfl⟩:=Go.Conc.mem_ofEvents hop; exact (hev2 e he _ _).1) hd
end
end Go.Yc
end
/- The frame of the token: a step of one that does not hold. Nothing here speaks of a program. -/
section
namespace Go.Yc
open Go Go.Conc
open Go.ConcN (sumTo upd sumTo_upd upd_ne upd_same sumTo_congr)
attribute [local irreducible] KK
theorem heap_setCell_ne (w:World) {a:Addr} (v:Value) {b:Nat} (h:b ≠ a.block):(w.setCell a v).heap[b]? = w.heap[b]?:=by
 rw [heap_setCell]
 cases w.heap[b]? with
 | none=>rfl
 | some o=>simp [h]
theorem Sim.grp {ρ:Nat->Plug} {u w:World} {G:Grp} {st sm:Int} (hs:Sim ρ (onT u w.tape w.drawn) w) (hc:Cut u G) (hg:GAt G st sm w) (st' sm':Int) {w':World} (hw:w'.heap[G.blk]? = some (.cells ((let c:=w.heap[G.blk]?; match c with | some (.cells c _ _)=>c.extract 0 G.off | _=>#[]) ++ #[.int .u64 st',.int .u32 sm']) (match w.heap[G.blk]? with | some (.cells _ T _)=>T | _=>0) (0,0)))
  (ho:∀ b,b ≠ G.blk->w'.heap[b]? = w.heap[b]?) (hz:w'.heap.size = w.heap.size) (h1:w'.os = w.os) (h2:w'.output = w.output):∃ ρ',Sim ρ' (onT u w'.tape w'.drawn) w'/\∀ b,b ≠ G.blk->ρ' b = ρ b:=by
 obtain ⟨h0,c,T,f,hb,hcs⟩:=hc
 obtain ⟨c0,T0,hg,hc0⟩:=hg
 obtain ⟨z,hz0,hl⟩:=hs.obj _ _ (show (onT u w.tape w.drawn).heap[G.blk]? = some _ from hb)
 rw [hz0] at hg
 obtain rfl:=Option.some.inj hg
 rw [hz0] at hw
 simp only at hw
 have ht:(c0 ++ #[Value.int .u64 st,Value.int .u32 sm]).extract 0 G.off = c0:=by rw [<- hc0]; simp [Array.extract_append]
 rw [ht] at hw
 refine ⟨fun b=>if b = G.blk then .cut #[.int .u64 st',.int .u32 sm'] (0,0) else ρ b,⟨h1.trans hs.os,h2.trans hs.output,rfl,rfl,hz.trans hs.size,fun b x hx=>?_,fun b hb'=>?_,hs.noview⟩,fun b hb=>if_neg hb⟩
 ·by_cases e:b = G.blk
  ·subst e
   have hx':u.heap[G.blk]? = some x:=hx
   rw [hb] at hx'
   obtain rfl:=Option.some.inj hx'
   refine ⟨_,hw,?_⟩
   rw [if_pos rfl]
   generalize ρ G.blk = p at hl
   generalize hq:(Obj.cells (c0 ++ #[.int .u64 st,.int .u32 sm]) T0 (0,0)) = z1 at hl
   cases hl with
   | same =>
    obtain ⟨rfl,_,_⟩:=Obj.cells.inj hq
    simp at hcs; omega
   | cut _ rest _ f1 _ hf =>
    obtain ⟨h3,rfl,h4⟩:=Obj.cells.inj hq
    have hsz:c.size = c0.size:=by omega
    have:c = c0:=(Array.append_inj_left h3 hsz.symm).symm
    subst this
    rw [<- h4] at hf
    exact .cut _ _ _ _ _ hf
   | gone=>simp at hcs; omega
  ·rw [ho b e,if_neg e]; exact hs.obj b x hx
 ·have hlt:G.blk < u.heap.size:=(Array.getElem?_eq_some_iff.1 hb).1
  have hb2:u.heap.size <= b:=hb'
  rw [if_neg (by omega)]
  exact hs.new b hb'
theorem GAt.setSt {G:Grp} {st sm:Int} {w:World} (h:GAt G st sm w) (v:Int):GAt G v sm (w.setCell (stA G) (.int .u64 v)):=by
 obtain ⟨c,T,hb,hc⟩:=h
 refine ⟨c,T,?_,hc⟩
 rw [heap_setCell]
 simp only [stA,hb,Option.map_some,if_true,Option.isSome_none,Bool.false_eq_true,if_false]
 congr 2
 apply Array.ext_getElem?
 intro i
 rw [Array.getElem?_setIfInBounds]
 by_cases hi:G.off = i
 ·subst hi; simp [<- hc]
 ·rw [if_neg hi]
  rcases Nat.lt_or_ge i c.size with h1 | h1
  ·rw [Array.getElem?_append_left h1,Array.getElem?_append_left h1]
  ·rw [Array.getElem?_append_right h1,Array.getElem?_append_right h1]
   obtain ⟨k,hk⟩:∃ k,i - c.size = k + 1:=⟨i - c.size - 1,by omega⟩
   rw [hk]
   cases k <;> rfl
theorem GAt.setSm {G:Grp} {st sm:Int} {w:World} (h:GAt G st sm w) (v:Int):GAt G st v (w.setCell (smA G) (.int .u32 v)):=by
 obtain ⟨c,T,hb,hc⟩:=h
 refine ⟨c,T,?_,hc⟩
 rw [heap_setCell]
 simp only [smA,hb,Option.map_some,if_true,Option.isSome_none,Bool.false_eq_true,if_false]
 congr 2
 apply Array.ext_getElem?
 intro i
 rw [Array.getElem?_setIfInBounds]
 by_cases hi:G.off + 1 = i
 ·subst hi; rw [if_pos rfl,if_pos (by simp; omega),Array.getElem?_append_right (by omega)]; simp [<- hc]
 ·rw [if_neg hi]
  rcases Nat.lt_or_ge i c.size with h1 | h1
  ·rw [Array.getElem?_append_left h1,Array.getElem?_append_left h1]
  ·rw [Array.getElem?_append_right h1,Array.getElem?_append_right h1]
   rcases Nat.eq_zero_or_pos (i - c.size) with h2 | h2
   ·rw [h2]; rfl
   ·obtain ⟨k,hk⟩:∃ k,i - c.size = k + 2:=⟨i - c.size - 2,by omega⟩
    rw [hk]
    cases k <;> rfl
structure GTurn (G:Grp) (w w':World):Prop where
 other:∀ b,b ≠ G.blk->w'.heap[b]? = w.heap[b]?
 size:w'.heap.size = w.heap.size
 os:w'.os = w.os
 output:w'.output = w.output
theorem GTurn.setCell {G:Grp} {w:World} {a:Addr} (ha:a.block = G.blk) (v:Value):GTurn G w (w.setCell a v) :=
 ⟨fun b hb=>heap_setCell_ne w v (by rw [ha]; exact hb),by simp [World.setCell],rfl,rfl⟩
theorem GAt.extract {G:Grp} {st sm:Int} {w:World} (h:GAt G st sm w):w.heap[G.blk]? = some (.cells ((let c:=w.heap[G.blk]?; match c with | some (.cells c _ _)=>c.extract 0 G.off | _=>#[]) ++ #[.int .u64 st,.int .u32 sm]) (match w.heap[G.blk]? with | some (.cells _ T _)=>T | _=>0) (0,0)):=by
 obtain ⟨c,T,hb,hc⟩:=h
 have ht:(c ++ #[Value.int .u64 st,Value.int .u32 sm]).extract 0 G.off = c:=by rw [<- hc]; simp [Array.extract_append]
 rw [hb]
 simp only [ht]
theorem setCell_low {G:Grp} {st sm:Int} {w:World} (h:GAt G st sm w) {a:Addr} (ha:a.block = G.blk) (hs:a.spot = none) (ho:G.off <= a.off) (v:Value) :
  (let c:=(w.setCell a v).heap[G.blk]?; match c with | some (.cells c _ _)=>c.extract 0 G.off | _=>#[]) = (let c:=w.heap[G.blk]?; match c with | some (.cells c _ _)=>c.extract 0 G.off | _=>#[]) /\
  (match (w.setCell a v).heap[G.blk]? with | some (.cells _ T _)=>T | _=>0) = (match w.heap[G.blk]? with | some (.cells _ T _)=>T | _=>0):=by
 obtain ⟨c,T,hb,hc⟩:=h
 rw [heap_setCell,hb]
 simp only [Option.map_some,ha,if_true,hs,Option.isSome_none,Bool.false_eq_true,if_false,and_true]
 apply Array.ext_getElem?
 intro i
 simp only [Array.getElem?_extract,Array.getElem?_setIfInBounds,Nat.zero_add,Array.size_setIfInBounds]
 by_cases hi:i < G.off
 ·have:a.off ≠ i:=by omega
  simp [this]
 ·have:¬ i < min G.off (c ++ #[Value.int .u64 st,Value.int .u32 sm]).size - 0:=by omega
  rw [if_neg this,if_neg this]
theorem Sim.setSt {ρ:Nat->Plug} {u w:World} {G:Grp} {st sm:Int} (hs:Sim ρ (onT u w.tape w.drawn) w) (hc:Cut u G) (hg:GAt G st sm w) (v:Int):∃ ρ',Sim ρ' (onT u (w.setCell (stA G) (.int .u64 v)).tape (w.setCell (stA G) (.int .u64 v)).drawn) (w.setCell (stA G) (.int .u64 v))/\∀ b,b ≠ G.blk->ρ' b = ρ b:=by
 have h1:=(hg.setSt v).extract
 have h2:=setCell_low hg (a:=stA G) rfl rfl (Nat.le_refl _) (.int .u64 v)
 rw [h2.1,h2.2] at h1
 have t:=GTurn.setCell (G:=G) (w:=w) (a:=stA G) rfl (.int .u64 v)
 exact Sim.grp hs hc hg v sm h1 t.other t.size rfl rfl
theorem Sim.setSm {ρ:Nat->Plug} {u w:World} {G:Grp} {st sm:Int} (hs:Sim ρ (onT u w.tape w.drawn) w) (hc:Cut u G) (hg:GAt G st sm w) (v:Int):∃ ρ',Sim ρ' (onT u (w.setCell (smA G) (.int .u32 v)).tape (w.setCell (smA G) (.int .u32 v)).drawn) (w.setCell (smA G) (.int .u32 v))/\∀ b,b ≠ G.blk->ρ' b = ρ b:=by
 have h1:=(hg.setSm v).extract
 have h2:=setCell_low hg (a:=smA G) rfl rfl (Nat.le_succ _) (.int .u32 v)
 rw [h2.1,h2.2] at h1
 have t:=GTurn.setCell (G:=G) (w:=w) (a:=smA G) rfl (.int .u32 v)
 exact Sim.grp hs hc hg st v h1 t.other t.size rfl rfl
theorem Cut.notGone {u:World} {G:Grp} (h:Cut u G) {b:Nat} (hg:Gone u b):b ≠ G.blk:=by
 rintro rfl
 obtain ⟨h0,c,T,f,hb,hc⟩:=h
 obtain ⟨T',f',hb'⟩:=hg
 rw [hb] at hb'
 cases hb'
 simp at hc; omega
section
variable {P:Program} {X:Gh} {h:Nat} {u:World} {live:Nat->Bool} {T:Trace} {gs:Array Goroutine} {w:World} {q:Nat->Nat}
def Stands (X:Gh) (w w':World):Prop:=w'.tape = w.tape/\w'.drawn = w.drawn/\(∀ c,X.chs c->w'.heap[c]? = w.heap[c]?)
theorem Stands.refl (w:World):Stands X w w:=⟨rfl,rfl,fun _ _=>rfl⟩
theorem Ring.put (C:Ring P X h u live T gs w q) {i n':Nat} {g':Goroutine} {ops:Array MemOp} {gs':Array Goroutine} {live':Nat->Bool} {w':World} (hlt:i < gs.size) (hih:i ≠ h) (hsz:gs'.size = gs.size) (hother:∀ x,x ≠ i->gs'[x]? = gs[x]?) (hself:gs'[i]? = some g')
  (hops:∀ op ∈ ops,op.g = i) (hidle:Idle P X live' (T ++ ops) i n' g') (hl:∀ x,x ≠ i->live' x = live x) (hli:live' i = true->live i = true) (hls:X.seat i ≠ none->live' i = live i) (hpast:PastH X.Sh (Us live') X.St (X.Mem h) (X.Lo h) h (T ++ ops))
  (hsim:∃ ρ,Sim ρ (onT u w'.tape w'.drawn) w'/\∀ b,¬ X.low b->ρ b = X.plug b) (hgone:∀ b,Gone u b->w'.heap[b]? = w.heap[b]?) (hgrp:∀ G,X.grp = some G->GAt G (((count live' gs'.size + X.pend) * KK:Nat):Int) 0 w') (hfew:count live' gs.size <= count live gs.size):Ring P X h u live' (T ++ ops) gs' w' (upd q i n'):=by
 refine ⟨hsim,fun x y hx hy=>?_,C.free,by rw [hsz]; exact C.size,by rw [hsz]; exact C.num,C.stays,fun c e=>⟨(C.chans c e).1,(C.chans c e).2.1,?_⟩,C.seats,C.inj,fun b o e=>?_,C.lowg,C.lowc,fun G e=>⟨(C.grp G e).1,hgrp G e⟩,C.old,fun j hj=>?_,⟨by rw [hsz]; exact Nat.le_trans (Nat.add_le_add_right hfew _) C.few.1,C.few.2⟩,fun j hj=>?_,fun j hj hs=>?_,(Deaf_other T hih ops hops).trans C.dfn,hpast⟩
 ·by_cases e:x = i
  ·subst e
   rw [hself] at hy
   obtain rfl:=Option.some.inj hy
   rw [upd_same]; exact hidle
  ·rw [hother x e] at hy
   rw [upd_ne q n' e]
   have:=(C.idle x y hx hy).other (fun z=>e z.symm) hops
   unfold Idle at this ⊢
   rw [hl x e]; exact this
 ·obtain ⟨k,hk⟩:=(C.chans c e).2.2
  exact ⟨k,by rw [hgone _ (C.chans c e).1]; exact hk⟩
 ·obtain ⟨h1,h2,p,y,hy,hk⟩:=C.hid b o e
  exact ⟨h1,h2,p,y,by rw [hgone b h1]; exact hy,hk⟩
 ·rw [hsz] at hj
  rw [Deaf_other T (g':=i) (by omega) ops hops,hl j (by omega)]
  exact C.above j hj
 ·by_cases e:j = i
  ·subst e; exact C.livg j (hli hj)
  ·rw [hl j e] at hj; exact C.livg j hj
 ·by_cases e:j = i
  ·subst e
   rcases hs with hs | hs
   ·rw [hls hs]; exact C.livs j hj (.inl hs)
   ·exact absurd hs hih
  ·rw [hl j e]; exact C.livs j hj hs
end
end Go.Yc
end
/- The frame of the token: a step of one that does not hold, whoever it is. Nothing here speaks of a program. -/
section
namespace Go.Yc
open Go Go.Conc
open Go.ConcN (sumTo upd sumTo_upd upd_ne upd_same sumTo_congr)
attribute [local irreducible] KK
theorem count_upd {live:Nat->Bool} {i n:Nat} (hi:live i = true) (hn:i < n):count live n = count (upd live i false) n + 1:=by
 have:=sumTo_upd live false (fun b=>if b then 1 else 0) hn
 simp only [hi,if_true,Bool.false_eq_true,if_false] at this
 unfold count
 omega
theorem count_out {live:Nat->Bool} {i n:Nat} (x:Bool) (hn:n <= i):count (upd live i x) n = count live n:=by
 unfold count
 exact sumTo_congr fun j hj=>by rw [upd_ne live x (by omega)]
theorem ofEvents_op {g:Nat} {fn:FuncId} {pos:String} {es:Array Event}:∀ op ∈ MemOp.ofEvents g fn pos es,op.g = g:=fun op hop=>by obtain ⟨e,_,rfl⟩:=Go.Conc.mem_ofEvents hop; rfl
theorem says_touch {e:Event} (h:says e = true):(MemAct.ofEvent e).touch? = none:=by
 obtain ⟨l,wr,sy⟩:=e
 cases l with
 | mark m=>cases m <;> first | (cases h; done) | rfl
 | _=>cases h
section
variable {P:Program} {X:Gh} {h:Nat} {u:World} {live:Nat->Bool} {T:Trace} {gs:Array Goroutine} {w:World} {q:Nat->Nat}
theorem Idle.noSend {i n:Nat} {y:Goroutine} (hi:Idle P X live T i n y) (c:Nat):offersAt y c true = []:=by
 unfold Idle at hi
 cases e:X.seat i with
 | some s =>
  rw [e] at hi
  rcases hi.status with ⟨h1,_⟩ | ⟨_,rfl⟩
  ·exact offersAt_of_not_blocked (by rw [h1]; simp) _ _
  ·obtain ⟨rfl,_⟩:=hi
   exact offersAt_parked_recv' _ _ _ _ _
 | none =>
  rw [e] at hi
  obtain ⟨_,hi⟩:=hi
  split at hi
  ·obtain ⟨G,_,hl⟩:=hi
   exact offersAt_of_not_blocked (by rw [hl.running]; simp) _ _
  ·exact offersAt_of_not_blocked (fun hb=>by rcases hi.status with z | z <;> rw [z] at hb <;> cases hb) _ _
theorem Idle.noRecv {i n:Nat} {y:Goroutine} (hi:Idle P X live T i n y) {c:Nat} (hc:∀ s,X.seat i = some s->s.ch ≠ c):offersAt y c false = []:=by
 unfold Idle at hi
 cases e:X.seat i with
 | some s =>
  rw [e] at hi
  rcases hi.status with ⟨h1,_⟩ | ⟨_,rfl⟩
  ·exact offersAt_of_not_blocked (by rw [h1]; simp) _ _
  ·obtain ⟨rfl,_⟩:=hi
   rw [offersAt_parked_recv,if_neg (hc s e)]
 | none =>
  rw [e] at hi
  obtain ⟨_,hi⟩:=hi
  split at hi
  ·obtain ⟨G,_,hl⟩:=hi
   exact offersAt_of_not_blocked (by rw [hl.running]; simp) _ _
  ·exact offersAt_of_not_blocked (fun hb=>by rcases hi.status with z | z <;> rw [z] at hb <;> cases hb) _ _
theorem Ring.by_step (C:Ring P X h u live T gs w q) {i:Nat} {g gh:Goroutine} {sl:Option (Nat × Nat)} (hi:gs[i]? = some g) (hne:i ≠ h) (hrun:g.status = .running) (hh:gs[h]? = some gh)
  (hA:∀ w',Stands X w w'->gh.again w' = gh) (hO:∀ s,X.seat i = some s->AtSeat P (i == 0) s g->offersAt gh s.ch true = []) :
  ∃ (gs':Array Goroutine) (ops:Array MemOp) (q':Nat->Nat) (w':World) (live':Nat->Bool),runT P (crowd gs w sl) i = (.next (crowd gs' w' sl),ops)/\gs'.size = gs.size/\gs'[h]? = some gh/\(∀ x,x ≠ i->q' x = q x) /\
   (∀ s,X.seat i = some s->q' i = 0->AtSeat P (i == 0) s g)/\Ring P X h u live' (T ++ ops) gs' w' q'/\sumTo gs.size q' < sumTo gs.size q/\Stands X w w':=by
 have hlt:i < gs.size:=(Array.getElem?_eq_some_iff.1 hi).1
 have hfix:∀ (w':World),Stands X w w'->∀ (a a':Goroutine) (x:Nat) (y:Goroutine),gs[x]? = some y->woken P a a' w' y = y:=fun w' hS a a' x y hy=>woken_of_again (by
  by_cases hx:x = h
  ·subst hx; rw [hh] at hy; obtain rfl:=Option.some.inj hy; exact hA w' hS
  ·exact (C.idle x y hx hy).again fun s e=>by obtain ⟨k,hk⟩:=(C.chans _ (C.seats x s e)).2.2; exact ⟨k,by rw [hS.2.2 _ (C.seats x s e)]; exact hk⟩)
 have harr:∀ (w':World),Stands X w w'->∀ (a' g':Goroutine) (x:Nat),x ≠ i->((gs.map (woken P g a' w')).setIfInBounds i g')[x]? = gs[x]?:=by
  intro w' hS a' g' x hx
  rw [Array.getElem?_setIfInBounds_ne (fun e=>hx e.symm),Array.getElem?_map]
  cases e:gs[x]? with
  | none=>rfl
  | some y=>simp [hfix w' hS g a' x y e]
 have hself:∀ (w':World) (a' g':Goroutine),((gs.map (woken P g a' w')).setIfInBounds i g')[i]? = some g':=fun w' a' g'=>Array.getElem?_setIfInBounds_self_of_lt (by simpa using hlt)
 have hsum:∀ k,q i = k + 1->sumTo gs.size (upd q i k) < sumTo gs.size q:=by
  intro k hqi
  have h2:sumTo gs.size (upd q i k) + (k + 1) = sumTo gs.size q + k:=by
   have:=sumTo_upd q k id hlt
   simpa [hqi] using this
  omega
 have hid:=C.idle i g hne hi
 unfold Idle at hid
 cases e:X.seat i with
 | none =>
  rw [e] at hid
  obtain ⟨hpos,hq⟩:=hid
  have hi0:(i == 0) = false:=by simp; omega
  have hMi:¬ X.Mem h i:=fun z=>z.elim (fun z=>hne z.1) fun z=>z e
  cases hl:live i with
  | false =>
   rw [hl] at hq
   simp only [Bool.false_eq_true,if_false] at hq
   cases hqi:q i with
   | zero=>rw [hqi] at hq; rw [hq.1] at hrun; cases hrun
   | succ k =>
    rw [hqi] at hq
    rcases hq with ⟨hf,_⟩ | ⟨_,g',es,hm,hstp,hq'⟩
    ·rw [hf] at hrun; cases hrun
    have hS:=Stands.refl (X:=X) w
    refine ⟨_,_,upd q i k,w,live,runT_crowd_go (sl:=sl) hi (by rw [hi0]; exact hstp w),by simp,(harr w hS _ _ h (Ne.symm hne)).trans hh,fun x hx=>upd_ne q k hx,fun s hs=>(by cases hs),?_,hsum k hqi,hS⟩
    refine C.put hlt hne (by simp) (harr w hS _ _) (hself w _ _) ofEvents_op (by unfold Idle; rw [e]; simp only [hl,Bool.false_eq_true,if_false]; exact ⟨hpos,by rw [Deaf_own]; exact hq'⟩) (fun _ _=>rfl) id (fun _=>rfl) ?_ C.sim (fun _ _=>rfl) (fun G hG=>by simpa using (C.grp G hG).2) (Nat.le_refl _)
    exact C.past.appMute (g:=i) (fun x=>Knows.app _) (fun op hop=>by obtain ⟨e',he,rfl⟩:=Go.Conc.mem_ofEvents hop; exact touch_mute (hm e' he)) (C.past.old_hears ofEvents_op (fun z=>absurd z hMi))
  | true =>
   rw [hl] at hq
   simp only [if_true] at hq
   obtain ⟨G,hG,hq⟩:=hq
   obtain ⟨hcut,hgat⟩:=C.grp G hG
   cases hqi:q i with
   | zero=>rw [hqi] at hq; exact hq.elim
   | succ k =>
    rw [hqi] at hq
    unfold Lt at hq
    rcases hq with ⟨g',es,⟨_,hsy,hstp⟩,hq'⟩ | ⟨_,hd0,hadd⟩
    ·have hS:=Stands.refl (X:=X) w
     refine ⟨_,_,upd q i k,w,live,runT_crowd_go (sl:=sl) hi (by rw [hi0]; exact hstp w _ _ hgat),by simp,(harr w hS _ _ h (Ne.symm hne)).trans hh,fun x hx=>upd_ne q k hx,fun s hs=>(by cases hs),?_,hsum k hqi,hS⟩
     refine C.put hlt hne (by simp) (harr w hS _ _) (hself w _ _) ofEvents_op (by unfold Idle; rw [e]; simp only [hl,if_true]; exact ⟨hpos,G,hG,by rw [Deaf_own]; exact hq'⟩) (fun _ _=>rfl) id (fun _=>rfl) ?_ C.sim (fun _ _=>rfl) (fun G hG=>by simpa using (C.grp G hG).2) (Nat.le_refl _)
     exact C.past.appMute (g:=i) (fun x=>Knows.app _) (fun op hop=>by obtain ⟨e',he,rfl⟩:=Go.Conc.mem_ofEvents hop; exact says_touch (hsy e' he)) (C.past.old_hears ofEvents_op (fun z=>absurd z hMi))
    ·have hcnt:=count_upd hl hlt
     generalize hv0:count (upd live i false) gs.size = v0 at hcnt
     obtain ⟨v,hv⟩:∃ v,v = v0 + X.pend:=⟨_,rfl⟩
     have hcnt:count live gs.size + X.pend = v + 1:=by omega
     have hvb:v < 2147483647:=by have:=C.few; omega
     obtain ⟨g',hstp,hquit,_⟩:=hadd v 0 (by omega) hvb
     have hgat':GAt G (((v + 1) * KK + 0:Nat):Int) 0 w:=by rw [Nat.add_zero,<- hcnt]; exact hgat
     have hst:=hstp w hgat'
     rw [Nat.add_zero] at hst
     have hgv:=hgat.setSt ((v * KK:Nat):Int)
     have hst':stepG P (i == 0) g w = .go g' (w.setCell (stA G) (.int .u64 ((v * KK:Nat):Int))) #[rdA (stA G),wrA (stA G)]:=by rw [hi0]; exact hst
     have hgn:∀ b,Gone u b->(w.setCell (stA G) (.int .u64 ((v * KK:Nat):Int))).heap[b]? = w.heap[b]?:=fun b hb=>heap_setCell_ne w _ (hcut.notGone hb)
     have hS:Stands X w (w.setCell (stA G) (.int .u64 ((v * KK:Nat):Int))):=⟨rfl,rfl,fun c hc=>hgn _ (C.chans c hc).1⟩
     have hdq:∀ t:Trace,∀ j,j <= (MemOp.ofEvents i g.frame.fn g.frame.place #[rdA (stA G),wrA (stA G)]).size->(t ++ MemOp.ofEvents i g.frame.fn g.frame.place #[rdA (stA G),wrA (stA G)]).deaf i (t.size + j) = Deaf t i:=fun t=>deaf_quiet (fun op hop d=>by
      obtain ⟨e',he,rfl⟩:=Go.Conc.mem_ofEvents hop
      simp only [List.mem_toArray,List.mem_cons,List.not_mem_nil,or_false] at he
      rcases he with rfl | rfl <;> rfl)
     have hdd:Deaf (T ++ MemOp.ofEvents i g.frame.fn g.frame.place #[rdA (stA G),wrA (stA G)]) i = Deaf T i:=by
      rw [Deaf_own]; exact deafBehind_still (fun e' he=>by
       simp only [List.mem_toArray,List.mem_cons,List.not_mem_nil,or_false] at he
       rcases he with rfl | rfl <;> exact ⟨by simp [rdA,wrA],by simp [rdA,wrA]⟩) _
     refine ⟨_,_,upd q i k,_,upd live i false,runT_crowd_go (sl:=sl) hi hst',by simp,(harr _ hS _ _ h (Ne.symm hne)).trans hh,fun x hx=>upd_ne q k hx,fun s hs=>(by cases hs),?_,hsum k hqi,hS⟩
     refine C.put hlt hne (by simp) (harr _ hS _ _) (hself _ _ _) ofEvents_op (by unfold Idle; rw [e]; simp only [upd_same,Bool.false_eq_true,if_false]; exact ⟨hpos,by rw [hdd]; exact hquit (by omega)⟩) (fun x hx=>upd_ne live false hx) (fun z=>by rw [upd_same] at z; cases z) (fun z=>absurd e z) ?_ ?_ hgn (fun G' hG'=>?_) (by omega)
     ·refine Past.leave (Us:=Us live) ?_ (fun x hx=>?_)
      ·refine Past.appSh (g:=i) C.past (.inr hl) (fun g' l hl' hsh=>?_) (fun x=>Knows.app _) ofEvents_op (fun op hop=>?_) (fun _ j hj1 hj2=>?_) (C.past.old_hears ofEvents_op (fun z=>absurd z hMi))
       ·obtain ⟨p,hp,rfl⟩:=hl'
        obtain ⟨a',G',hG',ha,hb,ho⟩:=hsh
        simp only [Loc.cell.injEq] at ha
        subst ha
        have hc:Cut u G':=hG'.elim (fun z=>(C.grp G' z).1) (C.old G')
        obtain ⟨_,c,T1,f,hc,hs⟩:=hc
        obtain ⟨c',T',f',hc',_,hv'⟩:=cell_some (C.stays g' p hp).1
        rw [hb,hc] at hc'
        cases hc'
        have:=(Array.getElem?_eq_some_iff.1 hv').1
        omega
       ·obtain ⟨e',he,rfl⟩:=Go.Conc.mem_ofEvents hop
        intro b hb
        simp only [List.mem_toArray,List.mem_cons,List.not_mem_nil,or_false] at he
        rcases he with rfl | rfl <;> simp [rdA,wrA,MemAct.ofEvent,MemAct.touch?] at hb <;> subst hb <;> exact ⟨⟨stA G,G,.inl hG,rfl,rfl,Nat.le_refl _⟩,by simp,fun _=>rfl⟩
       ·obtain ⟨m,rfl⟩:∃ m,j = T.size + m:=⟨j - T.size,by omega⟩
        rw [hdq T m (by omega)]; omega
      ·rcases hx with hx | hx
       ·exact .inl hx
       ·by_cases ex:x = i
        ·subst ex; rw [upd_same] at hx; cases hx
        ·rw [upd_ne live false ex] at hx; exact .inr hx
     ·obtain ⟨ρ,hs,hlw⟩:=C.sim
      obtain ⟨ρ',h1,h2⟩:=Sim.setSt hs hcut hgat ((v * KK:Nat):Int)
      exact ⟨ρ',h1,fun b hb=>(h2 b fun e=>hb (e ▸ C.lowg G hG)).trans (hlw b hb)⟩
     ·rw [hG] at hG'
      obtain rfl:=Option.some.inj hG'
      simp only [Array.size_setIfInBounds,Array.size_map,hv0,<- hv]
      exact hgv
 | some s =>
  rw [e] at hid
  have hM:X.Mem h i:=.inr (by rw [e]; simp)
  have hLo:X.Lo h i:=⟨hne,by rw [e]; simp⟩
  have hS:=Stands.refl (X:=X) w
  obtain ⟨n,hqi⟩:∃ n,q i = n + 1:=by
   rcases hid.status with ⟨_,h2⟩ | ⟨h1,_⟩
   ·exact ⟨q i - 1,by omega⟩
   ·rw [hrun] at h1; cases h1
  rw [hqi] at hid
  have hcase:AtSeat P (i == 0) s g\/(0 < n/\∃ g' es,(∀ e' ∈ es,∃ p ∈ X.stay i,e' = ⟨.cell p.1,false,false⟩)/\(∀ w,(∀ p ∈ X.stay i,w.cell? p.1 = some p.2)->stepG P (i == 0) g w = .go g' w es)/\Way P (i == 0) (X.stay i) s n g') :=
   hid.elim .inl fun z=>.inr ⟨z.1,z.2.2⟩
  rcases hcase with hat | ⟨hn0,g',es,hes,hstp,hway⟩
  ·obtain ⟨k,hk⟩:=(C.chans _ (C.seats i s e)).2.2
   have hw:∀ cc ∈ #[rcase s.ch s.z],NoWays w (gs.setIfInBounds i ph) cc:=by
    intro cc hcc
    simp only [List.mem_toArray,List.mem_cons,List.not_mem_nil,or_false] at hcc
    subst hcc
    refine ways_recv_none hk (partners_nil fun x y hy=>?_)
    rcases getElem?_stand gs i x y hy with ⟨_,rfl⟩ | ⟨hx,hy'⟩
    ·exact offersAt_ph _ _
    ·by_cases hxh:x = h
     ·subst hxh; rw [hh] at hy'; obtain rfl:=Option.some.inj hy'; exact hO s e hat
     ·exact (C.idle x y hxh hy').noSend _
   refine ⟨_,_,upd q i 0,w,live,crowd_waits (sl:=sl) hi (hat.2.2.2.2 w) hw,by simp,(Array.getElem?_setIfInBounds_ne hne).trans hh,fun x hx=>upd_ne q 0 hx,fun s' hs' _=>by rw [<- Option.some.inj hs']; exact hat,?_,?_,hS⟩
   ·refine C.put hlt hne (by simp) (fun x hx=>Array.getElem?_setIfInBounds_ne (fun z=>hx z.symm)) (Array.getElem?_setIfInBounds_self_of_lt hlt) ofEvents_op (by unfold Idle; rw [e]; exact ⟨rfl,g,hat⟩) (fun _ _=>rfl) id (fun _=>rfl) ?_ C.sim (fun _ _=>rfl) (fun G hG=>by simpa using (C.grp G hG).2) (Nat.le_refl _)
    exact C.past.appMute (g:=i) (fun x=>Knows.app _) (fun op hop=>by obtain ⟨e',he,rfl⟩:=Go.Conc.mem_ofEvents hop; simp at he) (C.past.old_hears ofEvents_op (fun _=>by rw [Deaf_own]; rfl))
   ·have h2:sumTo gs.size (upd q i 0) + (n + 1) = sumTo gs.size q + 0:=by
     have:=sumTo_upd q 0 id hlt
     simpa [hqi] using this
    omega
  ·obtain ⟨ρ,hs,_⟩:=C.sim
   have hst:=hstp w fun p hp=>hs.cell (u:=onT u w.tape w.drawn) (C.stays i p hp).1
   refine ⟨_,_,upd q i n,w,live,runT_crowd_go (sl:=sl) hi hst,by simp,(harr w hS _ _ h (Ne.symm hne)).trans hh,fun x hx=>upd_ne q n hx,fun s' _ hz=>by rw [upd_same] at hz; omega,?_,hsum n hqi,hS⟩
   refine C.put hlt hne (by simp) (harr w hS _ _) (hself w _ _) ofEvents_op (by unfold Idle; rw [e]; exact hway) (fun _ _=>rfl) id (fun _=>rfl) ?_ C.sim (fun _ _=>rfl) (fun G hG=>by simpa using (C.grp G hG).2) (Nat.le_refl _)
   refine C.past.appRead (g:=i) (fun x=>Knows.app _) hM hLo ofEvents_op (fun op hop b hb=>?_) ?_
   ·obtain ⟨e',he,rfl⟩:=Go.Conc.mem_ofEvents hop
    obtain ⟨p,hp,rfl⟩:=hes e' he
    simp only [ofEvent_cell0,MemAct.touch?,Option.some.injEq] at hb
    subst hb
    refine ⟨rfl,⟨p,hp,rfl⟩,?_⟩
    rintro ⟨a',G',hG',ha,hb,ho⟩
    simp only [Loc.cell.injEq] at ha
    subst ha
    have hc:Cut u G':=hG'.elim (fun z=>(C.grp G' z).1) (C.old G')
    obtain ⟨_,c,T1,f,hc,hs⟩:=hc
    obtain ⟨c',T',f',hc',_,hv'⟩:=cell_some (C.stays i p hp).1
    rw [hb,hc] at hc'
    cases hc'
    have:=(Array.getElem?_eq_some_iff.1 hv').1
    omega
   ·rw [Deaf_own]; exact deafBehind_still (fun e' he=>by obtain ⟨p,_,rfl⟩:=hes e' he; exact ⟨by simp,by simp⟩) _
end
end Go.Yc
end
/- The frame of the token as a condition: from here the run ends well, whatever the tape. Its rules: own steps; what is hidden, shown, frozen. Nothing here speaks of a program. -/
section
namespace Go.Yc
open Go Go.Conc
open Go.ConcN (sumTo upd sumTo_upd upd_ne upd_same sumTo_congr)
attribute [local irreducible] KK
def Ends (P:Program) (Post:Value->World->Prop) (m:Machine) (t:Trace):Prop :=
 ∃ N last o w' t',runNT P (N + 1) m t = (.ended o w',t')/\runN P N m = .next last/\step P last = .ended o w'/\Conc.Good P Post last o w' t'
theorem runN_of_runNT {P:Program}:∀ {N:Nat} {m m':Machine} {t t':Trace},runNT P N m t = (.next m',t')->runN P N m = .next m'
 | 0,m,m',t,t',h=>by simp only [runNT,Prod.mk.injEq] at h; simp only [runN]; exact h.1
 | N + 1,m,m',t,t',h=>by
  simp only [runNT] at h
  unfold runN step
  cases e:stepT P m with
  | mk s ops =>
   rw [e] at h
   cases s with
   | next m1=>exact runN_of_runNT h
   | ended o w=>simp at h
theorem runN_add' {P:Program}:∀ (a b:Nat) (m m':Machine),runN P a m = .next m'->runN P (a + b) m = runN P b m'
 | 0,b,m,m',h=>by simp only [runN,Stepped.next.injEq] at h; rw [Nat.zero_add,h]
 | a + 1,b,m,m',h=>by
  rw [show a + 1 + b = (a + b) + 1 by omega]
  have h':(match step P m with | .next m=>runN P a m | e=>e) = .next m':=h
  show (match step P m with | .next m=>runN P (a + b) m | e=>e) = _
  cases e:step P m with
  | next m1=>rw [e] at h'; exact runN_add' a b m1 m' h'
  | ended o w=>rw [e] at h'; cases h'
section
variable {P:Program} {Post:Value->World->Prop}
theorem Ends.steps {N:Nat} {m m':Machine} {t t':Trace} (h:runNT P N m t = (.next m',t')) (hE:Ends P Post m' t'):Ends P Post m t:=by
 obtain ⟨M,last,o,w',t2,h1,h2,h3,h4⟩:=hE
 exact ⟨N + M,last,o,w',t2,by rw [Nat.add_assoc,runNT_add,h]; exact h1,by rw [runN_add' N M m m' (runN_of_runNT h)]; exact h2,h3,h4⟩
theorem Ends.step {m m':Machine} {t:Trace} {ops:Array MemOp} (h:stepT P m = (.next m',ops)) (hE:Ends P Post m' (t ++ ops)):Ends P Post m t :=
 Ends.steps (N:=1) (by simp only [runNT,h]) hE
end
def Fin (P:Program) (Post:Value->World->Prop) (X:Gh) (h:Nat) (g:Goroutine) (u:World):Prop :=
 ∀ live T gs w sl q,gs[h]? = some g->Ring P X h u live T gs w q->Ends P Post (crowd gs w sl) T
section
variable {P:Program} {Post:Value->World->Prop} {X:Gh} {h:Nat} {u:World}
theorem Ring.drive {g:Goroutine} (hrun:g.status = .running) (K:Machine->Trace->Prop) (hK:∀ m m' t ops,stepT P m = (.next m',ops)->K m' (t ++ ops)->K m t)
  (hstop:∀ live T gs w sl d sl' q,gs[h]? = some g->stepT P (crowd gs w sl) = runT P (crowd gs (w.at d) sl') h->Ring P X h u live T gs (w.at d) q->K (crowd gs w sl) T) :
  ∀ (μ:Nat) live T gs w sl q,sumTo gs.size q = μ->gs[h]? = some g->Ring P X h u live T gs w q->K (crowd gs w sl) T:=by
 intro μ
 induction μ using Nat.strongRecOn with
 | _ μ ih =>
  intro live T gs w sl q hμ hg C
  obtain ⟨i,gi,d,sl',hi,hgi,hst⟩:=crowd_pick (P:=P) (w:=w) (sl:=sl) (C.awake hg (.inl hrun)) ⟨h,g,hg,hrun⟩
  have Cd:=C.at d
  by_cases e:i = h
  ·subst e
   exact hstop live T gs w sl d sl' q hg hst Cd
  ·obtain ⟨gs',ops,q',w',live',hrt,hsz,hgh,_,_,C',hlt,_⟩:=Cd.by_step (sl:=sl') hi e hgi hg (fun w' _=>again_of_running (.inl hrun) w') (fun s _ _=>offersAt_of_not_blocked (by rw [hrun]; simp) _ _)
   exact hK _ _ _ _ (hst.trans hrt) (ih _ (by rw [hsz,<- hμ]; exact hlt) live' (T ++ ops) gs' w' sl' q' rfl hgh C')
theorem Fin.of_step {g:Goroutine} (hrun:g.status = .running) (hstop:∀ live T gs w sl d sl' q,gs[h]? = some g->stepT P (crowd gs w sl) = runT P (crowd gs (w.at d) sl') h->Ring P X h u live T gs (w.at d) q->Ends P Post (crowd gs w sl) T):Fin P Post X h g u :=
 fun live T gs w sl q hg C=>Ring.drive hrun (Ends P Post) (fun _ _ _ _ h=>Ends.step h) hstop _ live T gs w sl q rfl hg C
theorem Fin.own {g:Goroutine} (hrun:g.status = .running) (hs:∀ τ d,∃ g' u',Follows P (h == 0) g (onT u τ d) g' u'/\Fin P Post X h g' u'):Fin P Post X h g u:=by
 refine Fin.of_step hrun fun live T gs w sl d sl' q hg hst C=>?_
 obtain ⟨g',u',hF,hK⟩:=hs (w.at d).tape (w.at d).drawn
 obtain ⟨w',es,hgo,C',hself⟩:=C.own hg hF
 exact Ends.step (hst.trans (runT_crowd_go (sl:=sl') hg hgo)) (hK _ _ _ _ _ _ hself C')
theorem Fin.weak {g:Goroutine} {X':Gh} {u':World} (hw:∀ live T gs w q,Ring P X h u live T gs w q->Ring P X' h u' live T gs w q) (hF:Fin P Post X' h g u'):Fin P Post X h g u :=
 fun live T gs w sl q hg C=>hF live T gs w sl q hg (hw live T gs w q C)
end
def putObj' (u:World) (b:Nat) (o:Obj):World:={ u with heap:=u.heap.setIfInBounds b o }
theorem putObj'_get (u:World) (b:Nat) (o:Obj) (k:Nat):(putObj' u b o).heap[k]? = if b = k then (if b < u.heap.size then some o else none) else u.heap[k]?:=by
 simp only [putObj',Array.getElem?_setIfInBounds]
theorem putObj'_ne (u:World) {b k:Nat} (o:Obj) (h:b ≠ k):(putObj' u b o).heap[k]? = u.heap[k]?:=by rw [putObj'_get,if_neg h]
theorem putObj'_same (u:World) {b:Nat} {o x:Obj} (h:u.heap[b]? = some x):(putObj' u b o).heap[b]? = some o:=by
 rw [putObj'_get,if_pos rfl,if_pos (Array.getElem?_eq_some_iff.1 h).1]
theorem cell_of_heap {u u':World} {a:Addr} (h:u'.heap[a.block]? = u.heap[a.block]?):u'.cell? a = u.cell? a/\u'.frozen? a = u.frozen? a:=by
 unfold World.cell? World.frozen?
 rw [h]; exact ⟨rfl,rfl⟩
theorem Sim.replace {ρ:Nat->Plug} {u w:World} {b:Nat} {x x' y:Obj} {p:Plug} (hs:Sim ρ (onT u w.tape w.drawn) w) (hb:u.heap[b]? = some x) (hv:isView x' = false) (hy:w.heap[b]? = some y) (hl:Like p x' y):∃ ρ',Sim ρ' (onT (putObj' u b x') w.tape w.drawn) w/\∀ k,k ≠ b->ρ' k = ρ k:=by
 have hlt:=(Array.getElem?_eq_some_iff.1 hb).1
 refine ⟨fun k=>if k = b then p else ρ k,⟨hs.os,hs.output,rfl,rfl,by have:=hs.size; simpa [putObj',onT] using this,fun k z hz=>?_,fun k hk=>?_,fun k z hz=>?_⟩,fun k hk=>if_neg hk⟩
 ·have hz':(putObj' u b x').heap[k]? = some z:=hz
  by_cases e:k = b
  ·subst e
   rw [putObj'_same u hb] at hz'
   obtain rfl:=Option.some.inj hz'
   exact ⟨y,hy,by rw [if_pos rfl]; exact hl⟩
  ·rw [putObj'_ne u x' (Ne.symm e)] at hz'
   obtain ⟨y',h1,h2⟩:=hs.obj k z hz'
   exact ⟨y',h1,by rw [if_neg e]; exact h2⟩
 ·have hk':u.heap.size <= k:=by simpa [putObj',onT] using hk
  rw [if_neg (by omega)]
  exact hs.new k hk'
 ·have hz':(putObj' u b x').heap[k]? = some z:=hz
  by_cases e:k = b
  ·subst e
   rw [putObj'_same u hb] at hz'
   obtain rfl:=Option.some.inj hz'
   exact hv
  ·rw [putObj'_ne u x' (Ne.symm e)] at hz'
   exact hs.noview k z hz'
structure Loosed (X:Gh) (b:Nat):Prop where
 stay:∀ i p,p ∈ X.stay i->p.1.block ≠ b
 hid:X.hid b = none
 chs:¬ X.chs b
 grp:∀ G,(X.grp = some G\/G ∈ X.old)->G.blk ≠ b
structure Gh.Under (X:Gh) (n:Nat):Prop where
 stay:∀ i p,p ∈ X.stay i->p.1.block < n
 hid:∀ b o,X.hid b = some o->b < n
 chs:∀ b,X.chs b->b < n
 grp:∀ G,(X.grp = some G\/G ∈ X.old)->G.blk < n
 low:∀ b,X.low b->b < n
theorem Gh.Under.mono {X:Gh} {n m:Nat} (h:X.Under n) (hm:n <= m):X.Under m :=
 ⟨fun i p hp=>Nat.lt_of_lt_of_le (h.stay i p hp) hm,fun b o e=>Nat.lt_of_lt_of_le (h.hid b o e) hm,fun b e=>Nat.lt_of_lt_of_le (h.chs b e) hm,fun G e=>Nat.lt_of_lt_of_le (h.grp G e) hm,fun b e=>Nat.lt_of_lt_of_le (h.low b e) hm⟩
theorem Gh.Under.loosed {X:Gh} {n b:Nat} (h:X.Under n) (hb:n <= b):Loosed X b :=
 ⟨fun i p hp=>by have:=h.stay i p hp; omega,by
  cases e:X.hid b with
  | none=>rfl
  | some o=>have:=h.hid b o e; omega,fun e=>by have:=h.chs b e; omega,fun G hG=>by have:=h.grp G hG; omega⟩
def Gh.lower (X:Gh) (b:Nat):Gh:={ X with low:=fun k=>X.low k\/k = b }
theorem Ring.swap {P:Program} {X:Gh} {h:Nat} {u:World} {live:Nat->Bool} {T:Trace} {gs:Array Goroutine} {w:World} {q:Nat->Nat} (C:Ring P X h u live T gs w q) {b:Nat} {x x':Obj} (hl:Loosed X b) (hb:u.heap[b]? = some x) (hv:isView x' = false)
  (hlk:∀ p y,Like p x y->∃ p',Like p' x' y):Ring P (X.lower b) h (putObj' u b x') live T gs w q:=by
 obtain ⟨ρ,hs,hlw⟩:=C.sim
 obtain ⟨y,hy,hl0⟩:=hs.obj b x hb
 obtain ⟨p',hp'⟩:=hlk _ _ hl0
 have hcut:∀ G,(X.grp = some G\/G ∈ X.old)->Cut u G->Cut (putObj' u b x') G:=fun G hG ⟨h0,c,T,f,hc,hcs⟩=>⟨h0,c,T,f,by rw [putObj'_ne u x' (Ne.symm (hl.grp G hG))]; exact hc,hcs⟩
 have hgone:∀ k,k ≠ b->Gone u k->Gone (putObj' u b x') k:=fun k hk ⟨T,f,hc⟩=>⟨T,f,by rw [putObj'_ne u x' (Ne.symm hk)]; exact hc⟩
 refine ⟨?_,C.idle,C.free,C.size,C.num,fun i p hp=>?_,fun c hc=>⟨hgone c (fun e=>hl.chs (e ▸ hc)) (C.chans c hc).1,(C.chans c hc).2⟩,C.seats,C.inj,fun k o e=>?_,fun G e=>.inl (C.lowg G e),fun c e=>.inl (C.lowc c e),fun G e=>⟨hcut G (.inl e) (C.grp G e).1,(C.grp G e).2⟩,fun G e=>hcut G (.inr e) (C.old G e),C.above,C.few,C.livg,C.livs,C.dfn,C.past⟩
 ·obtain ⟨ρ',h1,h2⟩:=Sim.replace hs hb hv hy hp'
  exact ⟨ρ',h1,fun k hk=>by
   have hkb:k ≠ b:=fun e=>hk (.inr e)
   rw [h2 k hkb]; exact hlw k fun e=>hk (.inl e)⟩
 ·have:=cell_of_heap (u:=u) (u':=putObj' u b x') (a:=p.1) (putObj'_ne u x' (Ne.symm (hl.stay i p hp)))
  rw [this.1,this.2]; exact C.stays i p hp
 ·have hk:k ≠ b:=fun z=>by subst z; have e2:X.hid k = some o:=e; rw [hl.hid] at e2; cases e2
  exact ⟨hgone k hk (C.hid k o e).1,(C.hid k o e).2⟩
section
variable {P:Program} {Post:Value->World->Prop} {X:Gh} {h:Nat} {u:World} {g:Goroutine} {b:Nat}
theorem Fin.freeze {c:Array Value} {T:TypeId} {f f':Nat × Nat} (hl:Loosed X b) (hb:u.heap[b]? = some (.cells c T f)) (hf:∀ i,inR f i->inR f' i) (hF:Fin P Post (X.lower b) h g (putObj' u b (.cells c T f'))):Fin P Post X h g u:=by
 refine Fin.weak (fun live Tr gs w q C=>C.swap hl hb rfl fun p y hp=>?_) hF
 cases hp with
 | same=>exact ⟨.cut #[] f,by have:=Like.cut c #[] T f f' hf; simpa using this⟩
 | cut _ rest _ f0 _ h0=>exact ⟨.cut rest f0,.cut c rest T f0 f' fun i hi=>hf i (h0 i hi)⟩
 | gone=>exact ⟨.gone y,.gone _ _ _⟩
def nothing:Obj:=.cells #[] 0 (0,0)
theorem Fin.chan (hl:Loosed X b) (hw:¬ X.low b) (hpl:X.plug b = .all) {k:Nat} (hb:u.heap[b]? = some (.chan 0 #[] false k k false)) (hF:Fin P Post { X.lower b with chs:=fun c=>X.chs c\/c = b } h g (putObj' u b nothing)):Fin P Post X h g u:=by
 refine Fin.weak (fun live Tr gs w q C=>?_) hF
 have C':=C.swap (x':=nothing) hl hb rfl fun p y hp=>⟨.gone y,.gone _ _ _⟩
 obtain ⟨ρ,hs,hlw⟩:=C.sim
 obtain ⟨y,hy,hl0⟩:=hs.obj b _ hb
 rw [hlw b hw,hpl] at hl0
 have hyb:y = .chan 0 #[] false k k false:=by cases hl0; rfl
 subst hyb
 refine ⟨C'.sim,C'.idle,C'.free,C'.size,C'.num,C'.stays,fun c hc=>?_,fun i s e=>.inl (C'.seats i s e),C'.inj,C'.hid,C'.lowg,fun c e=>e.elim (C'.lowc c) fun e=>.inr e,C'.grp,C'.old,C'.above,C'.few,C'.livg,C'.livs,C'.dfn,C'.past⟩
 rcases hc with hc | rfl
 ·exact C'.chans c hc
 ·exact ⟨⟨0,(0,0),putObj'_same u hb⟩,hl.hid,k,hy⟩
theorem Fin.stay {l:Stays} (hl:∀ p ∈ l,u.cell? p.1 = some p.2/\u.frozen? p.1 = true) (hF:Fin P Post { X with stay:=upd X.stay h l } h g u):Fin P Post X h g u:=by
 refine Fin.weak (fun live Tr gs w q C=>?_) hF
 have hupd:∀ i,i ≠ h->upd X.stay h l i = X.stay i:=fun i hi=>upd_ne _ _ hi
 refine ⟨C.sim,fun i y hi hy=>?_,C.free,C.size,C.num,fun i p hp=>?_,C.chans,C.seats,C.inj,C.hid,C.lowg,C.lowc,C.grp,C.old,fun j hj=>?_,C.few,C.livg,C.livs,C.dfn,?_⟩
 ·have:=C.idle i y hi hy
  unfold Idle at this ⊢
  show (match X.seat i with | some s=>Way P (i == 0) (upd X.stay h l i) s (q i) y | none=>_)
  rw [hupd i hi]; exact this
 ·have hp':p ∈ upd X.stay h l i:=hp
  by_cases e:i = h
  ·subst e; rw [upd_same] at hp'; exact hl p hp'
  ·rw [hupd i e] at hp'; exact C.stays i p hp'
 ·have:=C.above j hj
  refine ⟨this.1,this.2.1,this.2.2.1,?_⟩
  show upd X.stay h l j = []
  rw [hupd j (by have:=C.size; omega)]; exact this.2.2.2
 ·refine PastH.still C.past (fun z=>z.1 rfl) (fun i hi l'=>?_) (fun l' hl'=>?_) (fun i hi=>.inl hi) (fun hi=>C.past.hears h hi)
  ·show (∃ p ∈ upd X.stay h l i,_) ↔ _
   rw [hupd i hi]; exact Iff.rfl
  ·obtain ⟨p,hp,rfl⟩:=(hl':∃ p ∈ upd X.stay h l h,l' = .cell p.1)
   have hp:p ∈ l:=by have hp':p ∈ upd X.stay h l h:=hp; rwa [upd_same] at hp'
   refine ⟨rfl,?_⟩
   rintro ⟨a',G,hG,ha,hb,ho⟩
   simp only [Loc.cell.injEq] at ha
   subst ha
   have hc:Cut u G:=hG.elim (fun e=>(C.grp G e).1) (C.old G)
   obtain ⟨_,c,T,f,hc,hs⟩:=hc
   obtain ⟨c',T',f',hc',_,hv'⟩:=cell_some (hl p hp).1
   rw [hb,hc] at hc'
   cases hc'
   have:=(Array.getElem?_eq_some_iff.1 hv').1
   omega
end
end Go.Yc
end
/- The frame of the token: a group is made; the token is given; a goroutine is started. Nothing here speaks of a program. -/
section
namespace Go.Yc
open Go Go.Conc
open Go.ConcN (sumTo upd sumTo_upd upd_ne upd_same sumTo_congr)
attribute [local irreducible] KK
theorem count_le {live:Nat->Bool} {i:Nat}:∀ {n:Nat},i < n->live i = true->0 < count live n:=by
 intro n hn hl
 have:=Go.ConcN.le_sumTo (f:=fun i=>if live i then 1 else 0) hn
 simp only [hl,if_true] at this
 exact this
theorem GAt.of_block {G:Grp} {st sm:Int} {w w':World} (h:GAt G st sm w) (e:w'.heap[G.blk]? = w.heap[G.blk]?):GAt G st sm w':=by
 obtain ⟨c,T,hb,hc⟩:=h
 exact ⟨c,T,e.trans hb,hc⟩
section
variable {P:Program} {Post:Value->World->Prop} {X:Gh} {u:World} {g:Goroutine}
theorem Fin.groupF {f':Nat × Nat} {b:Nat} {c:Array Value} {T:TypeId} (hcap:X.cap = 0) (hl:Loosed X b) (hw:¬ X.low b) (hpl:X.plug b = .all) (hb:u.heap[b]? = some (.cells (c ++ #[.int .u64 0,.int .u32 0]) T (0,0))) (h0:0 < c.size)
  (hF:Fin P Post { X.lower b with grp:=some ⟨b,c.size⟩,old:=X.grp.toList ++ X.old } 0 g (putObj' u b (.cells c T f'))):Fin P Post X 0 g u:=by
 refine Fin.weak (fun live Tr gs w q C=>?_) hF
 have C':=C.swap (x':=.cells c T f') hl hb rfl fun p y hp=>by
  generalize hq:(Obj.cells (c ++ #[.int .u64 0,.int .u32 0]) T (0,0)) = z at hp
  cases hp with
  | same=>subst hq; exact ⟨_,.cut c _ T (0,0) f' fun _ h=>by unfold inR at h; omega⟩
  | cut c' rest T' f f2 hf =>
   obtain ⟨rfl,rfl,rfl⟩:=Obj.cells.inj hq
   exact ⟨.cut (#[.int .u64 0,.int .u32 0] ++ rest) f,by rw [Array.append_assoc]; exact .cut c _ _ f f' fun i hi=>by have:=hf i hi; unfold inR at this; omega⟩
  | gone T' f o =>
   obtain ⟨h1,_,_⟩:=Obj.cells.inj hq
   have:=congrArg Array.size h1
   simp at this
 obtain ⟨ρ,hs,hlw⟩:=C.sim
 obtain ⟨y,hy,hl0⟩:=hs.obj b _ hb
 rw [hlw b hw,hpl] at hl0
 have hyb:y = .cells (c ++ #[.int .u64 0,.int .u32 0]) T (0,0):=by cases hl0; rfl
 subst hyb
 have hz:count live gs.size + X.pend = 0:=by have:=C.few; omega
 have hlive:∀ i,live i = false:=fun i=>by
  rcases Nat.lt_or_ge i gs.size with hi | hi
  ·cases e:live i with
   | false=>rfl
   | true=>have:=count_le hi e; omega
  ·exact (C.above i hi).2.2.1
 refine ⟨C'.sim,fun i y hi hy=>?_,C'.free,C'.size,C'.num,C'.stays,C'.chans,C'.seats,C'.inj,C'.hid,fun G e=>?_,C'.lowc,fun G e=>?_,fun G e=>?_,C'.above,C'.few,fun i e=>absurd e (by rw [hlive i]; simp),C'.livs,C'.dfn,?_⟩
 ·have:=C'.idle i y hi hy
  unfold Idle at this ⊢
  simp only [hlive,Bool.false_eq_true,if_false] at this ⊢
  exact this
 ·cases e; exact .inr rfl
 ·cases e
  refine ⟨⟨h0,c,T,f',putObj'_same u hb,rfl⟩,c,T,?_,rfl⟩
  rw [hy]
  have:(((count live gs.size + X.pend) * KK:Nat):Int) = 0:=by rw [hz,Nat.zero_mul]; rfl
  show _ = some (Obj.cells (c ++ #[.int .u64 (((count live gs.size + X.pend) * KK:Nat):Int),.int .u32 0]) T (0,0))
  rw [this]
 ·have e':G ∈ X.grp.toList ++ X.old:=e
  rcases List.mem_append.1 e' with e' | e'
  ·exact (C'.grp G (show X.grp = some G by simpa using e')).1
  ·exact C'.old G e'
 ·refine PastH.shunMore C'.past (fun l hl'=>?_) (fun i l hi hS=>?_) (fun l hl'=>by obtain ⟨a,G,_,rfl,_⟩:=hl'; rfl) (fun i hi=>hi.elim id fun z=>by rw [hlive i] at z; cases z)
  ·obtain ⟨a,G,hG,ha,hb',ho⟩:=hl'
   refine ⟨a,G,.inr ?_,ha,hb',ho⟩
   show G ∈ X.grp.toList ++ X.old
   rcases hG with hG | hG
   ·exact List.mem_append_left _ (by have hG:X.grp = some G:=hG; simpa using hG)
   ·exact List.mem_append_right _ hG
  ·rintro ⟨a,G,hG,ha,hb',ho⟩
   obtain ⟨p,hp,rfl⟩:=hS
   simp only [Loc.cell.injEq] at ha
   subst ha
   have hp0:p ∈ X.stay i:=hp
   rcases hG with hG | hG
   ·cases hG
    exact hl.stay i p hp0 hb'
   ·have hG':G ∈ X.grp.toList ++ X.old:=hG
    have hc:Cut u G:=(List.mem_append.1 hG').elim (fun z=>(C.grp G (by simpa using z)).1) (C.old G)
    obtain ⟨_,c1,T1,f1,hc,hs1⟩:=hc
    obtain ⟨c',T',f',hc',_,hv'⟩:=cell_some (C.stays i p hp0).1
    rw [hb',hc] at hc'
    cases hc'
    have:=(Array.getElem?_eq_some_iff.1 hv').1
    omega
end
def Gh.pass (X:Gh) (h j:Nat) (sh:Option Seat1):Gh:={ X with seat:=upd (upd X.seat j none) h sh }
section
variable {P:Program} {X:Gh} {h:Nat} {u:World} {live:Nat->Bool} {T:Trace} {gs:Array Goroutine} {w:World} {q:Nat->Nat}
theorem Ring.pass (C:Ring P X h u live T gs w q) {j k:Nat} {s:Seat1} (hj:X.seat j = some s) (hjh:j ≠ h) (hhear:X.dn = 0) (hk:w.heap[s.ch]? = some (.chan 0 #[] false k k false)) {gs':Array Goroutine} {T':Trace} {H':Goroutine} (hsz:gs'.size = gs.size)
  (hoth:∀ x,x ≠ h->x ≠ j->gs'[x]? = gs[x]?) (hH:gs'[h]? = some H') (hDeaf:∀ x,Deaf T' x = Deaf T x) {sh:Option Seat1} (hsh:∀ s',sh = some s'->X.chs s'.ch/\∀ i s2,i ≠ j->X.seat i = some s2->s2.ch ≠ s'.ch) {nh:Nat} (haft:Idle P (X.pass h j sh) live T' h nh H')
  (hpast:PastH X.Sh (Us live) X.St (X.Mem h) (fun g=>X.Lo h g/\g ≠ j) j T'):Ring P (X.pass h j sh) j u live T' gs' (w.setChan s.ch 0 #[] false (k + 1) (k + 1) false) (upd q h nh):=by
 obtain ⟨ρ,hs,hlw⟩:=C.sim
 obtain ⟨hgone,hhid,_⟩:=C.chans s.ch (C.seats j s hj)
 have hne:∀ b,b ≠ s.ch->(w.setChan s.ch 0 #[] false (k + 1) (k + 1) false).heap[b]? = w.heap[b]?:=fun b hb=>heap_setChan_ne w _ _ _ _ _ _ (Ne.symm hb)
 have hself:(w.setChan s.ch 0 #[] false (k + 1) (k + 1) false).heap[s.ch]? = some (.chan 0 #[] false (k + 1) (k + 1) false):=heap_setChan_self w hk _ _ _ _ _ _
 have hseat:∀ i,i ≠ h->i ≠ j->(X.pass h j sh).seat i = X.seat i:=fun i h1 h2=>by
  show upd (upd X.seat j none) h sh i = _
  rw [upd_ne _ _ h1,upd_ne _ _ h2]
 have hseath:(X.pass h j sh).seat h = sh:=upd_same _ _ _
 have hseatj:(X.pass h j sh).seat j = none:=by
  show upd (upd X.seat j none) h sh j = _
  rw [upd_ne _ _ hjh,upd_same]
 have hjlt:j < gs.size:=by
  rcases Nat.lt_or_ge j gs.size with z | z
  ·exact z
  ·have:=(C.above j z).2.1; rw [hj] at this; cases this
 have hgb:∀ G,Cut u G->G.blk ≠ s.ch:=fun G hG=>(hG.notGone hgone).symm
 have hold:∀ i s2,(X.pass h j sh).seat i = some s2->(i ≠ h/\i ≠ j/\X.seat i = some s2)\/(i = h/\sh = some s2):=fun i s2 e=>by
  by_cases e1:i = h
  ·subst e1; rw [hseath] at e; exact .inr ⟨rfl,e⟩
  ·by_cases e2:i = j
   ·subst e2; rw [hseatj] at e; cases e
   ·rw [hseat i e1 e2] at e; exact .inl ⟨e1,e2,e⟩
 refine ⟨⟨fun b=>if b = s.ch then .gone (.chan 0 #[] false (k + 1) (k + 1) false) else ρ b,⟨hs.os,hs.output,rfl,rfl,by have:=hs.size; simpa [World.setChan,onT] using this,fun b x hx=>?_,fun b hb=>?_,hs.noview⟩,fun b hb=>?_⟩,
  fun x y hx hy=>?_,hseatj,by rw [hsz]; exact hjlt,by rw [hsz]; exact C.num,C.stays,fun c hc=>⟨(C.chans c hc).1,(C.chans c hc).2.1,?_⟩,fun i s2 e=>?_,fun i i' s1 s2 e1 e2 hc=>?_,fun b o e=>?_,C.lowg,C.lowc,fun G e=>⟨(C.grp G e).1,?_⟩,C.old,fun i hi=>?_,by rw [hsz]; exact C.few,C.livg,fun i hi hor=>?_,(hpast.hears j (.inr (by rw [hj]; simp))).trans hhear.symm,?_⟩
 ·by_cases e:b = s.ch
  ·subst e
   obtain ⟨T0,f0,hg⟩:=hgone
   have hx':u.heap[s.ch]? = some x:=hx
   rw [hg] at hx'
   obtain rfl:=Option.some.inj hx'
   exact ⟨_,hself,by rw [if_pos rfl]; exact .gone _ _ _⟩
  ·obtain ⟨y,h1,h2⟩:=hs.obj b x hx
   exact ⟨y,(hne b e).trans h1,by rw [if_neg e]; exact h2⟩
 ·obtain ⟨T0,f0,hg⟩:=hgone
  have h1:s.ch < u.heap.size:=(Array.getElem?_eq_some_iff.1 hg).1
  have h2:u.heap.size <= b:=hb
  rw [if_neg (by omega)]; exact hs.new b hb
 ·have:b ≠ s.ch:=fun e=>hb (e ▸ C.lowc s.ch (C.seats j s hj))
  show (if b = s.ch then _ else ρ b) = _
  rw [if_neg this]; exact hlw b hb
 ·by_cases e:x = h
  ·subst e
   rw [hH] at hy
   obtain rfl:=Option.some.inj hy
   rw [upd_same]; exact haft
  ·rw [hoth x e hx] at hy
   have hid:=C.idle x y e hy
   unfold Idle at hid ⊢
   rw [hseat x e hx,hDeaf,upd_ne q nh e]
   exact hid
 ·by_cases e:c = s.ch
  ·subst e; exact ⟨k + 1,hself⟩
  ·obtain ⟨k',hk'⟩:=(C.chans c hc).2.2; exact ⟨k',(hne c e).trans hk'⟩
 ·rcases hold i s2 e with ⟨_,_,e⟩ | ⟨_,e⟩
  ·exact C.seats i s2 e
  ·exact (hsh s2 e).1
 ·rcases hold i s1 e1 with ⟨_,a2,f1⟩ | ⟨f0,f1⟩ <;> rcases hold i' s2 e2 with ⟨_,b2,f2⟩ | ⟨f3,f2⟩
  ·exact C.inj i i' s1 s2 f1 f2 hc
  ·exact absurd hc ((hsh s2 f2).2 i s1 a2 f1)
  ·exact absurd hc.symm ((hsh s1 f1).2 i' s2 b2 f2)
  ·rw [f0,f3]
 ·obtain ⟨h1,h2,p,y,h3,h4⟩:=C.hid b o e
  have:b ≠ s.ch:=fun e2=>by subst e2; have e':X.hid s.ch = some o:=e; rw [hhid] at e'; cases e'
  exact ⟨h1,h2,p,y,(hne b this).trans h3,h4⟩
 ·rw [hsz]; exact (C.grp G e).2.of_block (hne _ (hgb G (C.grp G e).1))
 ·rw [hsz] at hi
  have:=C.above i hi
  refine ⟨by rw [hDeaf]; exact this.1,?_,this.2.2⟩
  rw [hseat i (by have:=C.size; omega) (by omega)]; exact this.2.1
 ·rcases hor with hor | rfl
  ·cases e:(X.pass h j sh).seat i with
   | none=>exact absurd e hor
   | some s2 =>
    rcases hold i s2 e with ⟨_,_,e⟩ | ⟨rfl,_⟩
    ·exact C.livs i hi (.inl (by rw [e]; simp))
    ·exact C.livs i hi (.inr rfl)
  ·exact C.livs i hi (.inl (by rw [hj]; simp))
 ·refine (hpast.fewer (Mem':=(X.pass h j sh).Mem j) fun x hx=>?_).loosen fun x hx=>?_
  ·rcases hx with ⟨rfl,_⟩ | hx
   ·exact .inr (by rw [hj]; simp)
   ·cases e:(X.pass h j sh).seat x with
    | none=>exact absurd e hx
    | some s2 =>
     rcases hold x s2 e with ⟨_,_,e⟩ | ⟨rfl,_⟩
     ·exact .inr (by rw [e]; simp)
     ·exact .inl ⟨rfl,hhear⟩
  ·exact ⟨hx.2,by rw [hseat x hx.1.1 hx.2]; exact hx.1.2⟩
end
section
variable {P:Program} {Post:Value->World->Prop} {X:Gh} {h:Nat} {u:World}
def Behind (P:Program) (X:Gh) (h:Nat) (sh:Option Seat1) (n:Nat) (g:Goroutine):Prop:=match sh with
 | some s'=>Way P (h == 0) (X.stay h) s' n g
 | none=>0 < h/\∃ G,X.grp = some G/\Lt P G n 0 g
theorem Fin.give {g a₂:Goroutine} {s:Seat1} {j nh:Nat} {v z':Value} (hrun:g.status = .running) (hj:X.seat j = some s) (hjh:j ≠ h) (hhear:X.dn = 0) (hsend:∀ w,stepG P (h == 0) g w = .comm a₂ #[scase s.ch v z'] true .send w #[])
  (sh:Option Seat1) (hsh:∀ s',sh = some s'->X.chs s'.ch/\∀ i s2,i ≠ j->X.seat i = some s2->s2.ch ≠ s'.ch) (hbeh:Behind P X h sh nh (Go.Conc.served a₂ undef)) (hF:Fin P Post (X.pass h j sh) j (Go.Conc.served s.me (recvd false v true)) u):Fin P Post X h g u:=by
 have haft:∀ {live:Nat->Bool} {T T':Trace} {gs:Array Goroutine} {w:World} {q:Nat->Nat},Ring P X h u live T gs w q->Deaf T' h = 0->Idle P (X.pass h j sh) live T' h nh (Go.Conc.served a₂ undef):=by
  intro live T T' gs w q C hd
  unfold Idle
  have:(X.pass h j sh).seat h = sh:=upd_same _ _ _
  rw [this]
  unfold Behind at hbeh
  cases sh with
  | some s'=>exact hbeh
  | none =>
   obtain ⟨h0,G,hG,hL⟩:=hbeh
   refine ⟨h0,?_⟩
   rw [C.livs h (by omega) (.inr rfl)]
   simp only [if_true]
   exact ⟨G,hG,by rw [hd]; exact hL⟩
 have fin:∀ live T gs gs' w q k (g₁:Nat->Nat) (ops:Array MemOp) (fh fj:FuncId) (ph pj:String) sl,Ring P X h u live (T ++ ops) gs w q->w.heap[s.ch]? = some (.chan 0 #[] false k k false)->gs'.size = gs.size->(∀ x,x ≠ h->x ≠ j->gs'[x]? = gs[x]?) ->
   gs'[h]? = some (Go.Conc.served a₂ undef)->gs'[j]? = some (Go.Conc.served s.me (recvd false v true))->Ends P Post (crowd gs' (w.setChan s.ch 0 #[] false (k + 1) (k + 1) false) sl) (T ++ (ops ++ met h j fh ph fj pj s.ch k 0)):=by
  intro live T gs gs' w q k g₁ ops fh fj ph pj sl C hk hsz hoth hH hJ
  have hMh:X.Mem h h:=.inl ⟨rfl,hhear⟩
  have hMj:X.Mem h j:=.inr (by rw [hj]; simp)
  have p2:=PastH.give C.past hMh hMj fh ph fj pj s.ch k 0
  have hD:∀ x,Deaf ((T ++ ops) ++ met h j fh ph fj pj s.ch k 0) x = Deaf (T ++ ops) x:=fun x=>Deaf_quiet (met_quiet _ _ _ _ _ _ _ _ _ x)
  have:=Ring.pass C hj hjh hhear hk hsz hoth hH hD hsh (haft C (by rw [hD]; exact C.past.hears h hMh)) p2
  rw [<- Array.append_assoc]
  exact hF _ _ _ _ _ _ hJ this
 have await:∀ (μ:Nat) live T gs w sl q,sumTo gs.size q = μ->gs[h]? = some (parked a₂ #[scase s.ch v z'] .send)->0 < q j->Ring P X h u live T gs w q->Ends P Post (crowd gs w sl) T:=by
  intro μ
  induction μ using Nat.strongRecOn with
  | _ μ ih =>
   intro live T gs w sl q hμ hg hqj C
   have hjlt:j < gs.size:=by
    rcases Nat.lt_or_ge j gs.size with z | z
    ·exact z
    ·have:=(C.above j z).2.1; rw [hj] at this; cases this
   have hjway:Way P (j == 0) (X.stay j) s (q j) gs[j]:=by
    have:=C.idle j gs[j] hjh (Array.getElem?_eq_getElem hjlt)
    unfold Idle at this; rw [hj] at this; exact this
   have hjrun:gs[j].status = .running:=hjway.status.elim (·.1) fun z=>by omega
   obtain ⟨i,gi,d,sl',hi,hgi,hst⟩:=crowd_pick (P:=P) (w:=w) (sl:=sl) (C.awake hg (.inr rfl)) ⟨j,gs[j],Array.getElem?_eq_getElem hjlt,hjrun⟩
   have Cd:=C.at d
   obtain ⟨k,hk⟩:=(Cd.chans s.ch (Cd.seats j s hj)).2.2
   have hih:i ≠ h:=by rintro rfl; rw [hg] at hi; obtain rfl:=Option.some.inj hi; cases hgi
   by_cases ej:i = j/\AtSeat P (i == 0) s gi
   ·obtain ⟨rfl,hat⟩:=ej
    have hp:partners (gs.setIfInBounds i ph) s.ch true = [(h,0)]:=by
     rw [partners_one (stand_get (Ne.symm hih) hg) fun x y hxh hy=>by
      rcases getElem?_stand gs i x y hy with ⟨_,rfl⟩ | ⟨_,hy'⟩
      ·exact offersAt_ph _ _
      ·exact (C.idle x y hxh hy').noSend _]
     simp [offersAt_parked_send]
    have hrt:=crowd_recv_meets (sl:=sl') hi (hat.2.2.2.2 (w.at d)) hk (Ne.symm hih) hg hp
    refine Ends.step (hst.trans hrt) ?_
    rw [show (MemOp.ofEvents i gi.frame.fn gi.frame.place #[]:Array MemOp) = #[] from rfl]
    refine fin live T gs _ (w.at d) q k (fun _=>0) #[] _ _ _ _ sl' (by simpa using Cd) hk (by simp) (fun x hx hxj=>by rw [Array.getElem?_setIfInBounds_ne (fun z=>hxj z.symm),Array.getElem?_setIfInBounds_ne (fun z=>hx z.symm)]) ?_ ?_
    ·rw [Array.getElem?_setIfInBounds_ne hih,Array.getElem?_setIfInBounds_self_of_lt C.size,finishComm_send]
    ·rw [Array.getElem?_setIfInBounds_self_of_lt (by simpa using hjlt),finishComm_recv]
   ·obtain ⟨gs',ops,q',w',live',hrt,hsz,hgh,hqo,hq0,C',hlt,_⟩:=Cd.by_step (sl:=sl') hi hih hgi hg (fun w' hS=>again_send_open (by rw [hS.2.2 s.ch (Cd.seats j s hj)]; exact hk))
     (fun s' hs' hat=>by
      rw [offersAt_parked_send,if_neg]
      intro ec
      have hij:=C.inj i j s' s hs' hj ec.symm
      subst hij
      rw [hj] at hs'
      obtain rfl:=Option.some.inj hs'
      exact ej ⟨rfl,hat⟩)
    refine Ends.step (hst.trans hrt) (ih _ (by rw [hsz,<- hμ]; exact hlt) live' _ gs' w' sl' q' rfl hgh ?_ C')
    by_cases hij:j = i
    ·subst hij
     rcases Nat.eq_zero_or_pos (q' j) with h0 | h0
     ·exact absurd ⟨rfl,hq0 s hj h0⟩ ej
     ·exact h0
    ·rw [hqo j hij]; exact hqj
 refine Fin.of_step hrun fun live T gs w sl d sl' q hg hst C=>?_
 have hjlt:j < gs.size:=by
  rcases Nat.lt_or_ge j gs.size with z | z
  ·exact z
  ·have:=(C.above j z).2.1; rw [hj] at this; cases this
 have hjway:Way P (j == 0) (X.stay j) s (q j) gs[j]:=by
  have:=C.idle j gs[j] hjh (Array.getElem?_eq_getElem hjlt)
  unfold Idle at this; rw [hj] at this; exact this
 obtain ⟨k,hk⟩:=(C.chans s.ch (C.seats j s hj)).2.2
 have hoff:∀ (x:Nat) (y:Goroutine),x ≠ j->(gs.setIfInBounds h ph)[x]? = some y->offersAt y s.ch false = []:=by
  intro x y hxj hy
  rcases getElem?_stand gs h x y hy with ⟨_,rfl⟩ | ⟨hx,hy'⟩
  ·exact offersAt_ph _ _
  ·exact (C.idle x y hx hy').noRecv fun s' hs' hc'=>hxj (C.inj x j s' s hs' hj hc')
 rcases hjway.status with ⟨hjr,hqj⟩ | ⟨_,hq0⟩
 ·have hp:partners (gs.setIfInBounds h ph) s.ch false = []:=partners_nil fun x y hy=>by
   by_cases hxj:x = j
   ·subst hxj
    rw [stand_get hjh (Array.getElem?_eq_getElem hjlt)] at hy
    obtain rfl:=Option.some.inj hy
    exact offersAt_of_not_blocked (by rw [hjr]; simp) _ _
   ·exact hoff x y hxj hy
  have hw:∀ cc ∈ #[scase s.ch v z'],NoWays (w.at d) (gs.setIfInBounds h ph) cc:=by
   intro cc hcc
   simp only [List.mem_toArray,List.mem_cons,List.not_mem_nil,or_false] at hcc
   subst hcc
   exact ways_send_none hk (Nat.le_refl _) hp
  have hrt:=crowd_waits (sl:=sl') hg (hsend (w.at d)) hw
  refine Ends.step (hst.trans hrt) ?_
  rw [show (MemOp.ofEvents h g.frame.fn g.frame.place #[]:Array MemOp) = #[] from rfl,Array.append_empty]
  refine await _ live T _ (w.at d) sl' q rfl (Array.getElem?_setIfInBounds_self_of_lt C.size) hqj ?_
  exact ⟨C.sim,fun x y hx hy=>C.idle x y hx (by rwa [Array.getElem?_setIfInBounds_ne (fun e=>hx e.symm)] at hy),C.free,by simpa using C.size,by simpa using C.num,C.stays,C.chans,C.seats,C.inj,C.hid,C.lowg,C.lowc,by simpa using C.grp,C.old,fun x hx=>C.above x (by simpa using hx),by simpa using C.few,C.livg,C.livs,C.dfn,C.past⟩
 ·have hpk:gs[j] = parked s.me #[rcase s.ch s.z] (.recv false):=by rw [hq0] at hjway; exact hjway.1
  have hgj:gs[j]? = some (parked s.me #[rcase s.ch s.z] (.recv false)):=by rw [<- hpk]; exact Array.getElem?_eq_getElem hjlt
  have hp:partners (gs.setIfInBounds h ph) s.ch false = [(j,0)]:=by
   rw [partners_one (stand_get hjh hgj) fun x y hxj hy=>hoff x y hxj hy,offersAt_parked_recv,if_pos rfl]
   rfl
  have hrt:=crowd_send_meets (sl:=sl') hg (hsend (w.at d)) hk hjh hgj hp
  refine Ends.step (hst.trans hrt) ?_
  rw [show (MemOp.ofEvents h g.frame.fn g.frame.place #[]:Array MemOp) = #[] from rfl]
  refine fin live T gs _ (w.at d) q k (fun _=>0) #[] _ _ _ _ sl' (by simpa using C) hk (by simp) (fun x hx hxj=>by rw [Array.getElem?_setIfInBounds_ne (fun z=>hx z.symm),Array.getElem?_setIfInBounds_ne (fun z=>hxj z.symm)]) ?_ ?_
  ·rw [Array.getElem?_setIfInBounds_self_of_lt (by simpa using C.size),finishComm_send]
  ·rw [Array.getElem?_setIfInBounds_ne (Ne.symm hjh),Array.getElem?_setIfInBounds_self_of_lt hjlt,finishComm_recv]
end
end Go.Yc
end
/- The frame of the token: a goroutine is started, and holds. Nothing here speaks of a program. -/
section
namespace Go.Yc
open Go Go.Conc
open Go.ConcN (sumTo upd sumTo_upd upd_ne upd_same sumTo_congr)
attribute [local irreducible] KK
section
variable {P:Program} {Post:Value->World->Prop} {X:Gh} {u:World}
def Gh.hire (X:Gh) (s:Seat1):Gh:={ X with seat:=upd X.seat 0 (some s),pend:=0,n:=X.n + 1 }
theorem Fin.spawn {g g' child:Goroutine} {s:Seat1} {nh:Nat} {G:Grp} (hrun:g.status = .running) (hhear:X.dn = 0) (hpend:X.pend = 1) (hG:X.grp = some G) (hgo:∀ w,stepG P true g w = .spawn g' child w #[])
  (hch:X.chs s.ch) (hno:∀ i s2,X.seat i = some s2->s2.ch ≠ s.ch) (hway:Way P true (X.stay 0) s nh g') (hF:Fin P Post (X.hire s) X.n child u):Fin P Post X 0 g u:=by
 refine Fin.of_step hrun fun live T gs w sl d sl' q hg hst C=>?_
 have hrt:=runT_crowd_spawn (P:=P) (sl:=sl') (i:=0) hg (hgo (w.at d))
 have hpush:(((MemOp.ofEvents 0 g.frame.fn g.frame.place #[]:Array MemOp).push { g:=0,fn:=g.frame.fn,pos:=g.frame.place,act:=.go gs.size }).push { g:=gs.size,fn:=child.frame.fn,pos:=g.frame.place,act:=.start }) =
   #[{ g:=0,fn:=g.frame.fn,pos:=g.frame.place,act:=.go gs.size },{ g:=gs.size,fn:=child.frame.fn,pos:=g.frame.place,act:=.start }]:=rfl
 rw [hpush] at hrt
 refine Ends.step (hst.trans hrt) ?_
 have h0:=C.size
 have habv:=C.above gs.size (Nat.le_refl _)
 have hc0:gs.size ≠ 0:=by omega
 have hD:∀ x,Deaf (T ++ #[{ g:=0,fn:=g.frame.fn,pos:=g.frame.place,act:=.go gs.size },{ g:=gs.size,fn:=child.frame.fn,pos:=g.frame.place,act:=.start }]) x = Deaf T x:=fun x=>Deaf_quiet (fun op hop d=>by
  simp only [List.mem_toArray,List.mem_cons,List.not_mem_nil,or_false] at hop
  rcases hop with rfl | rfl <;> rfl)
 have p:=PastH.born (c:=gs.size) C.past (.inl ⟨rfl,hhear⟩) habv.1 (fun l ⟨p,hp,_⟩=>by rw [habv.2.2.2] at hp; cases hp) (.inl rfl) g.frame.fn g.frame.place child.frame.fn
 have hseat:∀ i,i ≠ 0->(X.hire s).seat i = X.seat i:=fun i hi=>upd_ne X.seat _ hi
 have hseat0:(X.hire s).seat 0 = some s:=upd_same X.seat 0 (some s)
 have hcnt:count (upd live gs.size true) (gs.size + 1) = count live gs.size + 1:=by
  show sumTo gs.size _ + _ = _
  rw [show sumTo gs.size (fun i=>if upd live gs.size true i = true then 1 else 0) = count live gs.size from count_out true (Nat.le_refl _)]
  show _ + (if upd live gs.size true gs.size = true then 1 else 0) = _
  rw [upd_same]; rfl
 have hsz:((gs.setIfInBounds 0 g').push child).size = gs.size + 1:=by simp
 refine hF (upd live gs.size true) _ _ _ sl' (upd q 0 nh) (by rw [<- C.num,Array.getElem?_push,if_pos (by simp)]) ?_
 rw [<- C.num]
 refine ⟨C.sim,fun x y hx hy=>?_,by rw [hseat _ hc0]; exact habv.2.1,by rw [hsz]; omega,by rw [hsz,C.num]; rfl,C.stays,C.chans,fun i s2 e=>?_,fun i i' s1 s2 e1 e2 hc=>?_,C.hid,C.lowg,C.lowc,fun G' e=>⟨(C.grp G' e).1,?_⟩,C.old,fun x hx=>?_,?_,fun i hi=>?_,fun i hi hor=>?_,((hD _).trans habv.1).trans hhear.symm,?_⟩
 ·have hxl:x < gs.size:=by
   have:=(Array.getElem?_eq_some_iff.1 hy).1
   rw [hsz] at this; omega
  rw [Array.getElem?_push,if_neg (by simp; omega)] at hy
  unfold Idle
  by_cases e:x = 0
  ·subst e
   rw [Array.getElem?_setIfInBounds_self_of_lt h0] at hy
   obtain rfl:=Option.some.inj hy
   rw [hseat0,upd_same]
   exact hway
  ·rw [Array.getElem?_setIfInBounds_ne (fun z=>e z.symm)] at hy
   rw [hseat x e,hD,upd_ne q nh e,upd_ne live true (show x ≠ gs.size by omega)]
   have:=C.idle x y e hy
   unfold Idle at this
   exact this
 ·by_cases e0:i = 0
  ·subst e0; rw [hseat0] at e; obtain rfl:=Option.some.inj e; exact hch
  ·rw [hseat i e0] at e; exact C.seats i s2 e
 ·by_cases a:i = 0 <;> by_cases b:i' = 0
  ·rw [a,b]
  ·subst a; rw [hseat0] at e1; rw [hseat i' b] at e2; obtain rfl:=Option.some.inj e1; exact absurd hc.symm (hno i' s2 e2)
  ·subst b; rw [hseat0] at e2; rw [hseat i a] at e1; obtain rfl:=Option.some.inj e2; exact absurd hc (hno i s1 e1)
  ·rw [hseat i a] at e1; rw [hseat i' b] at e2; exact C.inj i i' s1 s2 e1 e2 hc
 ·have:=(C.grp G' e).2
  rw [hpend] at this
  rw [hsz,hcnt]
  exact this
 ·rw [hsz] at hx
  have:=C.above x (by omega)
  exact ⟨by rw [hD]; exact this.1,by rw [hseat x (by omega)]; exact this.2.1,by rw [upd_ne live true (by omega)]; exact this.2.2.1,this.2.2.2⟩
 ·rw [hsz,hcnt]
  have:=C.few
  rw [hpend] at this
  exact this
 ·by_cases e:i = gs.size
  ·subst e; exact ⟨hc0,by show X.grp ≠ none; rw [hG]; simp⟩
  ·rw [upd_ne live true e] at hi; exact C.livg i hi
 ·by_cases e:i = gs.size
  ·subst e; exact upd_same _ _ _
  ·rw [upd_ne live true e]
   rw [hseat i hi] at hor
   exact C.livs i hi (.inl (hor.resolve_right e))
 ·refine ((p.leave (Us':=Us (upd live gs.size true)) fun x hx=>?_).fewer (Mem':=(X.hire s).Mem gs.size) fun x hx=>?_).loosen fun x hx=>?_
  ·rcases hx with hx | hx
   ·exact .inl (.inl hx)
   ·by_cases e:x = gs.size
    ·exact .inr e
    ·rw [upd_ne live true e] at hx; exact .inl (.inr hx)
  ·rcases hx with ⟨e,_⟩ | hx
   ·exact .inr e
   ·by_cases e:x = 0
    ·exact .inl (.inl ⟨e,hhear⟩)
    ·rw [hseat x e] at hx; exact .inl (.inr hx)
  ·refine ⟨fun e=>?_,?_⟩
   ·subst e; exact hx.2 habv.2.1
   ·rw [hseat x hx.1]; exact hx.2
end
end Go.Yc
end
/- The frame of the token: the holder's steps on a group; it adds one to it. Nothing here speaks of a program. -/
section
namespace Go.Yc
open Go Go.Conc
open Go.ConcN (sumTo upd sumTo_upd upd_ne upd_same sumTo_congr)
attribute [local irreducible] KK
structure Base (X:Gh) (u:World) (use:Nat->Bool) (T:Trace) (n:Nat) (w:World):Prop where
 sim:∃ ρ,Sim ρ (onT u w.tape w.drawn) w/\∀ b,¬ X.low b->ρ b = X.plug b
 free:X.seat 0 = none
 size:0 < n
 num:n = X.n
 stays:∀ i p,p ∈ X.stay i->u.cell? p.1 = some p.2/\u.frozen? p.1 = true
 chans:∀ c,X.chs c->Gone u c/\X.hid c = none/\∃ k,w.heap[c]? = some (.chan 0 #[] false k k false)
 seats:∀ i s,X.seat i = some s->X.chs s.ch
 inj:∀ i j s s',X.seat i = some s->X.seat j = some s'->s.ch = s'.ch->i = j
 hid:∀ b o,X.hid b = some o->Gone u b/\isView o = false/\∃ p y,w.heap[b]? = some y/\Like p o y
 lowg:∀ G,X.grp = some G->X.low G.blk
 lowc:∀ c,X.chs c->X.low c
 cut:∀ G,X.grp = some G->Cut u G
 old:∀ G ∈ X.old,Cut u G
 above:∀ j,n <= j->Deaf T j = 0/\X.seat j = none/\use j = false/\X.stay j = []
 livg:∀ i,use i = true->i ≠ 0/\X.grp ≠ none
 livs:∀ i,X.seat i ≠ none->i ≠ 0->use i = true
 dfn:Deaf T 0 = X.dn
 past:PastH X.Sh (Us use) X.St (X.Mem 0) (X.Lo 0) 0 T
section
variable {P:Program} {Post:Value->World->Prop} {X:Gh} {u:World} {live use use':Nat->Bool} {T:Trace} {gs gs':Array Goroutine} {w w':World} {q:Nat->Nat} {n:Nat}
theorem Ring.base (C:Ring P X 0 u live T gs w q):Base X u live T gs.size w :=
 ⟨C.sim,C.free,C.size,C.num,C.stays,C.chans,C.seats,C.inj,C.hid,C.lowg,C.lowc,fun G e=>(C.grp G e).1,C.old,C.above,C.livg,fun i h hi=>C.livs i hi (.inl h),C.dfn,C.past⟩
theorem Base.ring (B:Base X u live T gs.size w) (hi:∀ i g,i ≠ 0->gs[i]? = some g->Idle P X live T i (q i) g) (hg:∀ G,X.grp = some G->GAt G (((count live gs.size + X.pend) * KK:Nat):Int) 0 w) (hf:count live gs.size + X.pend <= X.cap/\X.cap <= 65536):Ring P X 0 u live T gs w q :=
 ⟨B.sim,hi,B.free,B.size,B.num,B.stays,B.chans,B.seats,B.inj,B.hid,B.lowg,B.lowc,fun G e=>⟨B.cut G e,hg G e⟩,B.old,B.above,hf,B.livg,fun i hi h=>h.elim (fun z=>B.livs i z hi) fun z=>absurd z hi,B.dfn,B.past⟩
theorem Base.stNot (B:Base X u use T n w) {i:Nat} {l:Loc} (hl:X.St i l):l.isMemory = true/\¬ X.Sh l:=by
 obtain ⟨p,hp,rfl⟩:=hl
 refine ⟨rfl,?_⟩
 rintro ⟨a',G,hG,ha,hb,ho⟩
 simp only [Loc.cell.injEq] at ha
 subst ha
 have hc:Cut u G:=hG.elim (B.cut G) (B.old G)
 obtain ⟨_,c,T1,f,hc,hs⟩:=hc
 obtain ⟨c',T',f',hc',_,hv'⟩:=cell_some (B.stays i p hp).1
 rw [hb,hc] at hc'
 cases hc'
 have:=(Array.getElem?_eq_some_iff.1 hv').1
 omega
def GEv (G:Grp) (x:Nat) (e:Event):Prop:=∀ b,(MemAct.ofEvent e).touch? = some b->(∃ a,b.loc = .cell a/\a.block = G.blk/\G.off <= a.off)/\b.kind ≠ .plain/\(x ≠ 0->b.kind = .atomic)
theorem says_gev {G:Grp} {x:Nat} {e:Event} (h:says e = true):GEv G x e:=fun b hb=>by rw [says_touch h] at hb; cases hb
theorem Base.step (B:Base X u use T n w) {x:Nat} {fn:FuncId} {pos:String} {es:Array Event} {G:Grp} (hG:X.grp = some G) (hx:x < n) (hsx:X.seat x = none) (hes:∀ e ∈ es,GEv G x e) (hu:(∀ e ∈ es,(MemAct.ofEvent e).touch? = none)\/(x = 0\/use x = true/\∀ k,k < es.size->deafBehind (Deaf T x) (es.extract 0 k) ≠ 0))
  (hus:∀ i,use' i = true->use i = true) (hls:∀ i,X.seat i ≠ none->i ≠ 0->use' i = true) {pend cap dn:Nat} (hdn:dn = if x = 0 then deafBehind X.dn es else X.dn) (hsim:∃ ρ,Sim ρ (onT u w'.tape w'.drawn) w'/\∀ b,¬ X.low b->ρ b = X.plug b) (hgone:∀ b,b ≠ G.blk->w'.heap[b]? = w.heap[b]?) :
  Base { X with pend:=pend,cap:=cap,dn:=dn } u use' (T ++ MemOp.ofEvents x fn pos es) n w':=by
 have hgn:∀ b,Gone u b->w'.heap[b]? = w.heap[b]?:=fun b hb=>hgone b ((B.cut G hG).notGone hb)
 have hops:∀ op ∈ MemOp.ofEvents x fn pos es,op.g = x:=ofEvents_op
 have hd0:Deaf (T ++ MemOp.ofEvents x fn pos es) 0 = dn:=by
  by_cases e:x = 0
  ·subst e; rw [Deaf_own,B.dfn,hdn,if_pos rfl]
  ·rw [Deaf_other T e _ hops,B.dfn,hdn,if_neg e]
 refine ⟨hsim,B.free,B.size,B.num,B.stays,fun c hc=>⟨(B.chans c hc).1,(B.chans c hc).2.1,?_⟩,B.seats,B.inj,fun b o e=>?_,B.lowg,B.lowc,B.cut,B.old,fun j hj=>?_,fun i hi=>B.livg i (hus i hi),hls,hd0,?_⟩
 ·obtain ⟨k,hk⟩:=(B.chans c hc).2.2
  exact ⟨k,(hgn c (B.chans c hc).1).trans hk⟩
 ·obtain ⟨h1,h2,p,y,h3,h4⟩:=B.hid b o e
  exact ⟨h1,h2,p,y,(hgn b h1).trans h3,h4⟩
 ·have:=B.above j hj
  refine ⟨by rw [Deaf_other T (g':=x) (by omega) _ hops]; exact this.1,this.2.1,?_,this.2.2.2⟩
  cases e:use' j with
  | false=>rfl
  | true=>have:=hus j e; rw [this] at *; simp_all
 ·have H0:Past X.Sh (Us use) X.St (fun g=>X.seat g ≠ none) (X.Lo 0) (Knows T 0) T:=B.past.fewer fun g hg=>.inr hg
  have hh:∀ g',X.seat g' ≠ none->Deaf (T ++ MemOp.ofEvents x fn pos es) g' = 0:=fun g' hg'=>by
   rw [Deaf_other T (show x ≠ g' from fun e=>hg' (by rw [<- e]; exact hsx)) _ hops]
   exact H0.hears g' hg'
  have p1:Past X.Sh (Us use) X.St (fun g=>X.seat g ≠ none) (X.Lo 0) (Knows (T ++ MemOp.ofEvents x fn pos es) 0) (T ++ MemOp.ofEvents x fn pos es):=by
   rcases hu with hu | hu
   ·exact H0.appMute (g:=x) (fun i=>Knows.app _) (fun op hop=>by obtain ⟨e,he,rfl⟩:=Go.Conc.mem_ofEvents hop; exact hu e he) hh
   ·refine H0.appSh (g:=x) (hu.elim (fun e=>.inl e) fun e=>.inr e.1) (fun g l hl=>(B.stNot hl).2) (fun i=>Knows.app _) hops (fun op hop b hb=>?_) (fun hne i hi1 hi2=>?_) hh
    ·obtain ⟨e,he,rfl⟩:=Go.Conc.mem_ofEvents hop
     obtain ⟨⟨a,h1,h2,h3⟩,h4⟩:=hes e he b hb
     exact ⟨⟨a,G,.inl hG,h1,h2,h3⟩,h4⟩
    ·obtain ⟨m,rfl⟩:∃ m,i = T.size + m:=⟨i - T.size,by omega⟩
     have hm:m < es.size:=by
      have hsz:(MemOp.ofEvents x fn pos es).size = es.size:=by rw [ofEvents_eq]; simp
      omega
     rw [Go.Conc.deaf_inside T x fn pos es m (Nat.le_of_lt hm)]
     exact (hu.resolve_left hne).2 m hm
  refine PastH.still (p1.leave (Us':=Us use') fun g hg=>hg.imp id (hus g)) (fun z=>z.1 rfl) (fun _ _ _=>Iff.rfl) (fun l hl=>B.stNot hl) (fun g hg=>?_) (fun hg=>?_)
  ·rcases hg with ⟨e,_⟩ | hg
   ·exact .inr e
   ·exact .inl hg
  ·rcases hg with ⟨_,e⟩ | hg
   ·exact hd0.trans e
   ·exact absurd B.free hg
end
end Go.Yc
end
/- The frame of the token: goroutine 0 adds one to its group; the end of the run. Nothing here speaks of a program. -/
section
namespace Go.Yc
open Go Go.Conc
open Go.ConcN (sumTo upd sumTo_upd upd_ne upd_same sumTo_congr)
attribute [local irreducible] KK
def HushM (P:Program) (G:Grp) (g g':Goroutine) (es:Array Event):Prop :=
 g.status = .running/\g'.status = .running/\(∀ e ∈ es,GEv G 0 e)/\∀ w st sm,GAt G st sm w->stepG P true g w = .go g' w es
def AddB (P:Program) (G:Grp) (K:Goroutine->Prop):Nat->Nat->Goroutine->Prop
 | 0,d,g=>d = 0/\K g
 | n + 1,d,g=>(d = 0/\K g)\/∃ g' es,HushM P G g g' es/\AddB P G K n (deafBehind d es) g'
def AddA (P:Program) (G:Grp) (K:Goroutine->Prop):Nat->Nat->Goroutine->Prop
 | 0,_,_=>False
 | n + 1,d,g=>(∃ g' es,HushM P G g g' es/\AddA P G K n (deafBehind d es) g')\/(g.status = .running/\∀ v:Nat,v < 2147483647->∃ g',g'.status = .running /\
   (∀ w,GAt G ((v * KK:Nat):Int) 0 w->stepG P true g w = .go g' (w.setCell (stA G) (.int .u64 (((v + 1) * KK:Nat):Int))) #[rdA (stA G),wrA (stA G)])/\AddB P G K n d g')
section
variable {P:Program} {Post:Value->World->Prop} {X:Gh} {u:World} {live:Nat->Bool} {T:Trace} {gs:Array Goroutine} {w w':World} {q:Nat->Nat}
theorem Ring.main (C:Ring P X 0 u live T gs w q) {G:Grp} (hG:X.grp = some G) {g g':Goroutine} {es:Array Event} (hes:∀ e ∈ es,GEv G 0 e) {pend cap:Nat} (hsim:∃ ρ,Sim ρ (onT u w'.tape w'.drawn) w'/\∀ b,¬ X.low b->ρ b = X.plug b) (hgone:∀ b,b ≠ G.blk->w'.heap[b]? = w.heap[b]?)
  (hat:GAt G (((count live gs.size + pend) * KK:Nat):Int) 0 w') (hf:count live gs.size + pend <= cap/\cap <= 65536) :
  Ring P { X with pend:=pend,cap:=cap,dn:=deafBehind X.dn es } 0 u live (T ++ MemOp.ofEvents 0 g.frame.fn g.frame.place es) ((gs.map (woken P g g' w')).setIfInBounds 0 g') w' q/\((gs.map (woken P g g' w')).setIfInBounds 0 g')[0]? = some g':=by
 have hsz:((gs.map (woken P g g' w')).setIfInBounds 0 g').size = gs.size:=by simp
 refine ⟨?_,Array.getElem?_setIfInBounds_self_of_lt (by simpa using C.size)⟩
 have B:=C.base.step (fn:=g.frame.fn) (pos:=g.frame.place) (use':=live) (pend:=pend) (cap:=cap) hG C.size C.free hes (.inr (.inl rfl)) (fun _ h=>h) (fun i h hi=>C.livs i hi (.inl h)) (dn:=deafBehind X.dn es) (by rw [if_pos rfl]) hsim hgone
 rw [<- hsz] at B
 refine B.ring (fun i y hi hy=>?_) (fun G' e=>?_) (by rw [hsz]; exact hf)
 ·rw [Array.getElem?_setIfInBounds_ne (fun e=>hi e.symm),Array.getElem?_map] at hy
  obtain ⟨y₀,hy₀,rfl⟩:=Option.map_eq_some_iff.1 hy
  have hid:=C.idle i y₀ hi hy₀
  rw [woken_of_again (hid.again (w:=w') fun s e=>?_)]
  ·exact hid.other (fun z=>hi z.symm) ofEvents_op
  ·obtain ⟨k,hk⟩:=(C.chans _ (C.seats i s e)).2.2
   exact ⟨k,(hgone _ ((C.grp G hG).1.notGone (C.chans _ (C.seats i s e)).1)).trans hk⟩
 ·have e':X.grp = some G':=e
  rw [hG] at e'
  obtain rfl:=Option.some.inj e'
  rw [hsz]; exact hat
theorem Fin.hush {G:Grp} {g g':Goroutine} {es:Array Event} (hG:X.grp = some G) (hh:HushM P G g g' es) (hF:Fin P Post { X with dn:=deafBehind X.dn es } 0 g' u):Fin P Post X 0 g u:=by
 obtain ⟨hr,_,hes,hst⟩:=hh
 refine Fin.of_step hr fun live T gs w sl d sl' q hg hstp C=>?_
 have hat:=(C.grp G hG).2
 obtain ⟨C',hself⟩:=C.main hG (g:=g) (g':=g') hes (w':=w.at d) C.sim (fun _ _=>rfl) hat C.few
 exact Ends.step (hstp.trans (runT_crowd_go (sl:=sl') (i:=0) hg (hst _ _ _ hat))) (hF _ _ _ _ _ _ hself C')
theorem Fin.addB {G:Grp} (hG:X.grp = some G) {K:Goroutine->Prop} (hK:∀ g,K g->Fin P Post { X with dn:=0 } 0 g u):∀ (n d:Nat) (g:Goroutine),AddB P G K n d g->Fin P Post { X with dn:=d } 0 g u
 | 0,d,g,h=>by obtain ⟨rfl,h⟩:=h; exact hK g h
 | n + 1,d,g,h=>by
  rcases h with ⟨rfl,h⟩ | ⟨g',es,hh,h⟩
  ·exact hK g h
  ·exact Fin.hush (X:={ X with dn:=d }) hG hh (Fin.addB hG hK n _ g' h)
theorem rdwr_gev {G:Grp} {x:Nat}:∀ e ∈ #[rdA (stA G),wrA (stA G)],GEv G x e:=by
 intro e he b hb
 simp only [List.mem_toArray,List.mem_cons,List.not_mem_nil,or_false] at he
 rcases he with rfl | rfl <;> simp [rdA,wrA,MemAct.ofEvent,MemAct.touch?] at hb <;> subst hb <;> exact ⟨⟨stA G,rfl,rfl,Nat.le_refl _⟩,by simp,fun _=>rfl⟩
theorem rdwr_deaf {G:Grp} (d:Nat):deafBehind d #[rdA (stA G),wrA (stA G)] = d:=rfl
theorem Fin.addA {G:Grp} (hG:X.grp = some G) (hp:X.pend = 0) (hc:X.cap < 65536) {K:Goroutine->Prop} (hK:∀ g,K g->Fin P Post { X with pend:=1,cap:=X.cap + 1,dn:=0 } 0 g u):∀ (n d:Nat) (g:Goroutine),AddA P G K n d g->Fin P Post { X with dn:=d } 0 g u
 | 0,d,g,h=>h.elim
 | n + 1,d,g,h=>by
  unfold AddA at h
  rcases h with ⟨g',es,hh,h⟩ | ⟨hr,hadd⟩
  ·exact Fin.hush (X:={ X with dn:=d }) hG hh (Fin.addA hG hp hc hK n _ g' h)
  ·refine Fin.of_step hr fun live T gs w sl dd sl' q hg hstp C=>?_
   have hat:=(C.grp G hG).2
   have hfew:=C.few
   have hp':({ X with dn:=d }:Gh).pend = 0:=hp
   rw [hp',Nat.add_zero] at hat hfew
   have hfew1:count live gs.size <= X.cap:=hfew.1
   obtain ⟨g',hr',hst,hB⟩:=hadd (count live gs.size) (by omega)
   obtain ⟨ρ,hs,hlw⟩:=C.sim
   have hcut:=(C.grp G hG).1
   obtain ⟨ρ',h1,h2⟩:=Sim.setSt hs hcut hat (((count live gs.size + 1) * KK:Nat):Int)
   obtain ⟨C',hself⟩:=C.main hG (g:=g) (g':=g') (pend:=1) (cap:=X.cap + 1) rdwr_gev (w':=(w.at dd).setCell (stA G) (.int .u64 (((count live gs.size + 1) * KK:Nat):Int)))
    ⟨ρ',h1,fun b hb=>(h2 b fun e=>hb (e ▸ C.lowg G hG)).trans (hlw b hb)⟩ (fun b hb=>heap_setCell_ne _ _ hb) (hat.setSt _) ⟨by omega,by omega⟩
   refine Ends.step (hstp.trans (runT_crowd_go (sl:=sl') (i:=0) hg (hst _ hat))) ?_
   rw [rdwr_deaf] at C'
   exact Fin.addB (X:={ X with pend:=1,cap:=X.cap + 1 }) hG hK n d g' hB _ _ _ _ _ _ hself C'
theorem Fin.ends {g:Goroutine} {v:Value} (hr:g.status = .running) (hno:∀ i,X.seat i = none) (hcap:X.cap = 0) (hst:∀ w,stepG P true g w = .ended (.done v) w #[])
  (hpost:∀ ρ w,Sim ρ (onT u w.tape w.drawn) w->(∀ b,¬ X.low b->ρ b = X.plug b)->Post v w):Fin P Post X 0 g u:=by
 refine Fin.of_step hr fun live T gs w sl d sl' q hg hstp C=>?_
 have hz:count live gs.size + X.pend = 0:=by have:=C.few; omega
 have hlive:∀ i,live i = false:=fun i=>by
  rcases Nat.lt_or_ge i gs.size with hi | hi
  ·cases e:live i with
   | false=>rfl
   | true=>have:=count_le hi e; omega
  ·exact (C.above i hi).2.2.1
 have hq:∀ i g,i ≠ 0->gs[i]? = some g->QuitsD P (q i) (Deaf T i) g:=fun i g hi hg=>by
  have:=C.idle i g hi hg
  unfold Idle at this
  rw [hno i] at this
  simp only [hlive,Bool.false_eq_true,if_false] at this
  exact this.2
 have hrt:=runT_many_ended (P:=P) (sl:=sl') (i:=0) hg (hst (w.at d))
 rw [show (MemOp.ofEvents 0 g.frame.fn g.frame.place #[]:Array MemOp) = #[] from rfl] at hrt
 have hst':=hstp.trans hrt
 obtain ⟨ρ,hs,hlw⟩:=C.sim
 refine ⟨0,crowd gs w sl,_,_,T,by simp only [runNT,hst']; simp,rfl,by unfold step; rw [hst'],v,rfl,hpost ρ (w.at d) hs hlw,C.past.clean,C.past.over (.inl rfl) (fun x hx=>hx.2 (hno x)),⟨fun x hx=>?_,rfl⟩,fun j x hx hj=>?_⟩
 ·obtain ⟨j,hj⟩:=List.mem_iff_getElem?.1 hx
  rw [List.getElem?_drop] at hj
  exact ⟨_,(hq (1 + j) x (by omega) (by simpa [crowd] using hj)).leaves⟩
 ·exact ⟨q j,(hq j x hj hx).hears _⟩
end
end Go.Yc
end
/- The frame of the token: goroutine 0 waits for its group, beside those that leave it. Nothing here speaks of a program. -/
section
namespace Go.Yc
open Go Go.Conc
open Go.ConcN (sumTo upd sumTo_upd upd_ne upd_same sumTo_congr)
attribute [local irreducible] KK
section
variable (P:Program) (G:Grp) (K:Goroutine->Prop)
def WE:Nat->Nat->Goroutine->Prop
 | 0,d,g=>d = 0/\K g
 | n + 1,d,g=>(d = 0/\K g)\/∃ g' es,g.status = .running/\(∀ e ∈ es,GEv G 0 e)/\(∀ w,GAt G 0 0 w->stepG P true g w = .go g' w es)/\WE n (deafBehind d es) g'
def SemAt (n d:Nat) (g:Goroutine):Prop :=
 g.status = .running/\g.offers = none/\(∀ w st,GAt G st 0 w->stepG P true g w = .go { g with status:=.blocked } w #[])/\∃ g',(∀ w,GAt G 0 1 w->stepG P true g w = .go g' (w.setCell (smA G) (.int .u32 0)) (semEvents (smA G)))/\WE P G K n d g'
def WS:Nat->Nat->Goroutine->Prop
 | 0,_,_=>False
 | n + 1,d,g=>(∃ g' es,HushM P G g g' es/\WS n (deafBehind d es) g')\/(0 < d/\SemAt P G K n d g)
def WH:Nat->Option Nat->Nat->Nat->Goroutine->Prop
 | 0,_,_,_,_=>False
 | n + 1,o,V,d,g=>(∃ g' es,HushM P G g g' es/\WH n o V (deafBehind d es) g')\/(g.status = .running/\match o with
  | none=>∀ v:Nat,v <= V->∃ g',(∀ w,GAt G ((v * KK:Nat):Int) 0 w->stepG P true g w = .go g' w #[rdA (stA G)])/\(v = 0->WE P G K n d g')/\(v ≠ 0->WH n (some v) V d g')
  | some vs=>(∃ g',(∀ w,GAt G ((vs * KK:Nat):Int) 0 w->stepG P true g w = .go g' (w.setCell (stA G) (.int .u64 ((vs * KK + 1:Nat):Int))) #[rdA (stA G),wrA (stA G)])/\WS P G K n d g') /\
    ∀ v:Nat,v < vs->∃ g',(∀ w,GAt G ((v * KK:Nat):Int) 0 w->stepG P true g w = .go g' w #[rdA (stA G)])/\WH n none v d g')
end
inductive Md where
 | free
 | wait
 | last (i s:Nat)
 | done
def stOf (m:Md) (c:Nat):Int × Int:=match m with
 | .free=>(((c * KK:Nat):Int),0)
 | .wait=>(((c * KK + 1:Nat):Int),0)
 | .last _ 0=>(0,0)
 | .last _ (_ + 1)=>(1,0)
 | .done=>(0,1)
def useOf (lv:Nat->Bool) (m:Md) (i:Nat):Bool:=lv i || (match m with | .last j _=>i == j | _=>false)
def WIdle (P:Program) (G:Grp) (lv:Nat->Bool) (m:Md) (T:Trace) (i n:Nat) (g:Goroutine):Prop :=
 if lv i then Lt P G n (Deaf T i) g else match m with
  | .last j s=>if i = j then Lst P G n s (Deaf T i) g else QuitsD P n (Deaf T i) g
  | _=>QuitsD P n (Deaf T i) g
def posOf (m:Md) (lv:Nat->Bool) (n:Nat):Prop:=match m with
 | .free=>True
 | .wait=>0 < count lv n
 | .last i s=>count lv n = 0/\i ≠ 0/\i < n/\lv i = false/\s <= 2
 | .done=>count lv n = 0
structure Wr (P:Program) (X:Gh) (G:Grp) (u:World) (lv:Nat->Bool) (m:Md) (d:Nat) (T:Trace) (gs:Array Goroutine) (w:World) (q:Nat->Nat):Prop where
 base:Base { X with pend:=0,cap:=0,dn:=d } u (useOf lv m) T gs.size w
 grp:X.grp = some G
 empty:∀ i,X.seat i = none
 idle:∀ i g,i ≠ 0->gs[i]? = some g->WIdle P G lv m T i (q i) g
 gat:GAt G (stOf m (count lv gs.size)).1 (stOf m (count lv gs.size)).2 w
 pos:posOf m lv gs.size
 few:count lv gs.size <= 65536
theorem WIdle.status {P:Program} {G:Grp} {lv:Nat->Bool} {m:Md} {T:Trace} {i n:Nat} {g:Goroutine} (h:WIdle P G lv m T i n g):g.status = .running\/g.status = .finished:=by
 unfold WIdle at h
 split at h
 ·exact .inl h.running
 ·split at h
  ·split at h
   ·exact .inl h.running
   ·exact h.status
  ·exact h.status
theorem WIdle.other {P:Program} {G:Grp} {lv lv':Nat->Bool} {m m':Md} {T:Trace} {i n x:Nat} {g:Goroutine} (h:WIdle P G lv m T i n g) (hx:x ≠ i) {ops:Trace} (hops:∀ op ∈ ops,op.g = x) (hl:lv' i = lv i) (hm:m' = m\/((∀ s,m ≠ .last i s)/\∀ s,m' ≠ .last i s)):WIdle P G lv' m' (T ++ ops) i n g:=by
 unfold WIdle at h ⊢
 rw [Deaf_other T hx ops hops,hl]
 rcases hm with rfl | ⟨h1,h2⟩
 ·exact h
 ·cases hlv:lv i with
  | true=>rw [hlv] at h; exact h
  | false =>
   rw [hlv] at h
   simp only [Bool.false_eq_true,if_false] at h ⊢
   have h3:QuitsD P n (Deaf T i) g:=by
    cases m with
    | last j s=>simp only at h; rw [if_neg (fun e=>h1 s (by rw [e]))] at h; exact h
    | _=>exact h
   cases m' with
   | last j s=>simp only; rw [if_neg (fun e=>h2 s (by rw [e]))]; exact h3
   | _=>exact h3
section
variable {P:Program} {X:Gh} {G:Grp} {u:World} {lv:Nat->Bool} {m:Md} {d:Nat} {T:Trace} {gs:Array Goroutine} {w:World} {q:Nat->Nat}
theorem Wr.move (C:Wr P X G u lv m d T gs w q) {i n:Nat} {g g':Goroutine} {es:Array Event} {w':World} {lv':Nat->Bool} {m':Md} {sl:Option (Nat × Nat)} (hi:gs[i]? = some g) (hne:i ≠ 0) (hst:stepG P false g w = .go g' w' es) (hes:∀ e ∈ es,GEv G i e)
  (hu:(∀ e ∈ es,(MemAct.ofEvent e).touch? = none)\/(useOf lv m i = true/\∀ k,k < es.size->deafBehind (Deaf T i) (es.extract 0 k) ≠ 0)) (hus:∀ j,useOf lv' m' j = true->useOf lv m j = true) (hsim:∃ ρ,Sim ρ (onT u w'.tape w'.drawn) w'/\∀ b,¬ X.low b->ρ b = X.plug b) (hgone:∀ b,b ≠ G.blk->w'.heap[b]? = w.heap[b]?)
  (hq:q i = n + 1) (hidle:WIdle P G lv' m' (T ++ MemOp.ofEvents i g.frame.fn g.frame.place es) i n g') (hl:∀ j,j ≠ i->lv' j = lv j) (hm:m' = m\/((∀ j,j ≠ i->∀ s,m ≠ .last j s)/\∀ j,j ≠ i->∀ s,m' ≠ .last j s)) (hgat:GAt G (stOf m' (count lv' gs.size)).1 (stOf m' (count lv' gs.size)).2 w')
  (hpos:posOf m' lv' gs.size) (hcnt:count lv' gs.size <= count lv gs.size) :
  ∃ gs' ops q',runT P (crowd gs w sl) i = (.next (crowd gs' w' sl),ops)/\gs'.size = gs.size/\(∀ g0,gs[0]? = some g0->gs'[0]? = some (woken P g g' w' g0))/\Wr P X G u lv' m' d (T ++ ops) gs' w' q'/\sumTo gs'.size q' < sumTo gs.size q:=by
 have hlt:i < gs.size:=(Array.getElem?_eq_some_iff.1 hi).1
 have hi0:(i == 0) = false:=by simpa using hne
 have hsz:((gs.map (woken P g g' w')).setIfInBounds i g').size = gs.size:=by simp
 refine ⟨_,_,upd q i n,runT_crowd_go (sl:=sl) hi (by rw [hi0]; exact hst),hsz,fun g0 h0=>?_,⟨?_,C.grp,C.empty,fun x y hx hy=>?_,by rw [hsz]; exact hgat,by rw [hsz]; exact hpos,by rw [hsz]; exact Nat.le_trans hcnt C.few⟩,?_⟩
 ·rw [Array.getElem?_setIfInBounds_ne hne,Array.getElem?_map,h0]; rfl
 ·rw [hsz]
  exact C.base.step (fn:=g.frame.fn) (pos:=g.frame.place) (G:=G) C.grp hlt (C.empty i) hes (hu.imp id .inr) hus (fun j hj=>absurd (C.empty j) hj) (by rw [if_neg hne]) hsim hgone
 ·by_cases e:x = i
  ·subst e
   rw [Array.getElem?_setIfInBounds_self_of_lt (by simpa using hlt)] at hy
   obtain rfl:=Option.some.inj hy
   rw [upd_same]; exact hidle
  ·rw [Array.getElem?_setIfInBounds_ne (fun z=>e z.symm),Array.getElem?_map] at hy
   obtain ⟨y₀,hy₀,rfl⟩:=Option.map_eq_some_iff.1 hy
   have h1:=C.idle x y₀ hx hy₀
   rw [woken_of_again (again_of_running h1.status w'),upd_ne q n e]
   exact h1.other (fun z=>e z.symm) ofEvents_op (hl x e) (hm.imp id fun z=>⟨z.1 x e,z.2 x e⟩)
 ·rw [hsz]
  have h2:sumTo gs.size (upd q i n) + (n + 1) = sumTo gs.size q + n:=by
   have:=sumTo_upd q n id hlt
   simpa [hq] using this
  omega
end
end Go.Yc
end
/- The frame of the token: those that leave a group that is waited for: a step of whoever of them. Nothing here speaks of a program. -/
section
namespace Go.Yc
open Go Go.Conc
open Go.ConcN (sumTo upd sumTo_upd upd_ne upd_same sumTo_congr)
attribute [local irreducible] KK
theorem sem_gev {G:Grp} {x:Nat}:∀ e ∈ semEvents (smA G),GEv G x e:=by
 intro e he b hb
 simp only [semEvents,List.mem_toArray,List.mem_cons,List.not_mem_nil,or_false] at he
 rcases he with rfl | rfl | rfl | rfl <;> simp [MemAct.ofEvent,MemAct.touch?] at hb <;> subst hb <;> exact ⟨⟨smA G,rfl,rfl,Nat.le_succ _⟩,by simp,fun _=>rfl⟩
theorem sem_deaf {G:Grp} (d:Nat):deafBehind d (semEvents (smA G)) = d:=by
 simp [deafBehind,semEvents]
theorem sem_deaf_in {G:Grp} {d:Nat} (hd:0 < d):∀ k,k < (semEvents (smA G)).size->deafBehind d ((semEvents (smA G)).extract 0 k) ≠ 0:=by
 intro k hk
 have hk:k < 4:=hk
 rcases k with _ | _ | _ | _ | k <;> first | omega | (simp [semEvents,deafBehind]; try omega)
theorem plain_deaf {d:Nat} {es:Array Event} (h:∀ e ∈ es,e.loc ≠ .mark .disable/\e.loc ≠ .mark .enable) (k:Nat):deafBehind d (es.extract 0 k) = d :=
 deafBehind_still (fun e he=>h e (by
  obtain ⟨j,hj,rfl⟩:=Array.mem_iff_getElem.1 he
  simp only [Array.getElem_extract]
  exact Array.getElem_mem _)) d
theorem rd_gev {G:Grp} {x:Nat}:∀ e ∈ #[rdA (stA G)],GEv G x e:=by
 intro e he b hb
 simp only [List.mem_toArray,List.mem_cons,List.not_mem_nil,or_false] at he
 subst he
 simp [rdA,MemAct.ofEvent,MemAct.touch?] at hb
 subst hb
 exact ⟨⟨stA G,rfl,rfl,Nat.le_refl _⟩,by simp,fun _=>rfl⟩
theorem wr_gev {G:Grp} {x:Nat}:∀ e ∈ #[wrA (stA G)],GEv G x e:=by
 intro e he b hb
 simp only [List.mem_toArray,List.mem_cons,List.not_mem_nil,or_false] at he
 subst he
 simp [wrA,MemAct.ofEvent,MemAct.touch?] at hb
 subst hb
 exact ⟨⟨stA G,rfl,rfl,Nat.le_refl _⟩,by simp,fun _=>rfl⟩
theorem nomark2 {a:Addr}:∀ e ∈ #[rdA a,wrA a],e.loc ≠ .mark .disable/\e.loc ≠ .mark .enable:=by
 intro e he
 simp only [List.mem_toArray,List.mem_cons,List.not_mem_nil,or_false] at he
 rcases he with rfl | rfl <;> exact ⟨by simp [rdA,wrA],by simp [rdA,wrA]⟩
theorem nomark_r {a:Addr}:∀ e ∈ #[rdA a],e.loc ≠ .mark .disable/\e.loc ≠ .mark .enable:=by
 intro e he
 simp only [List.mem_toArray,List.mem_cons,List.not_mem_nil,or_false] at he
 subst he; exact ⟨by simp [rdA],by simp [rdA]⟩
theorem nomark_w {a:Addr}:∀ e ∈ #[wrA a],e.loc ≠ .mark .disable/\e.loc ≠ .mark .enable:=by
 intro e he
 simp only [List.mem_toArray,List.mem_cons,List.not_mem_nil,or_false] at he
 subst he; exact ⟨by simp [wrA],by simp [wrA]⟩
section
variable {P:Program} {X:Gh} {G:Grp} {u:World} {lv:Nat->Bool} {m:Md} {d:Nat} {T:Trace} {gs:Array Goroutine} {w:World} {q:Nat->Nat}
theorem woken_or (P:Program) (g g':Goroutine) (w':World) (g0:Goroutine):woken P g g' w' g0 = g0\/woken P g g' w' g0 = g0.again w':=by
 unfold woken; split
 ·exact .inr rfl
 ·exact .inl rfl
theorem Wr.turnSt (C:Wr P X G u lv m d T gs w q) (v:Int):∃ ρ,Sim ρ (onT u (w.setCell (stA G) (.int .u64 v)).tape (w.setCell (stA G) (.int .u64 v)).drawn) (w.setCell (stA G) (.int .u64 v))/\∀ b,¬ X.low b->ρ b = X.plug b:=by
 obtain ⟨ρ,hs,hlw⟩:=C.base.sim
 obtain ⟨ρ',h1,h2⟩:=Sim.setSt hs (C.base.cut G C.grp) C.gat v
 exact ⟨ρ',h1,fun b hb=>(h2 b fun e=>hb (e ▸ C.base.lowg G C.grp)).trans (hlw b hb)⟩
theorem Wr.turnSm (C:Wr P X G u lv m d T gs w q) (v:Int):∃ ρ,Sim ρ (onT u (w.setCell (smA G) (.int .u32 v)).tape (w.setCell (smA G) (.int .u32 v)).drawn) (w.setCell (smA G) (.int .u32 v))/\∀ b,¬ X.low b->ρ b = X.plug b:=by
 obtain ⟨ρ,hs,hlw⟩:=C.base.sim
 obtain ⟨ρ',h1,h2⟩:=Sim.setSm hs (C.base.cut G C.grp) C.gat v
 exact ⟨ρ',h1,fun b hb=>(h2 b fun e=>hb (e ▸ C.base.lowg G C.grp)).trans (hlw b hb)⟩
def ByOut (P:Program) (X:Gh) (G:Grp) (u:World) (lv:Nat->Bool) (m:Md) (d:Nat) (T:Trace) (gs:Array Goroutine) (w:World) (q:Nat->Nat) (i:Nat) (sl:Option (Nat × Nat)):Prop :=
 ∃ gs' ops q' w' lv' m',runT P (crowd gs w sl) i = (.next (crowd gs' w' sl),ops)/\gs'.size = gs.size/\(∀ g0,gs[0]? = some g0->gs'[0]? = some g0\/gs'[0]? = some (g0.again w'))/\Wr P X G u lv' m' d (T ++ ops) gs' w' q'/\sumTo gs'.size q' < sumTo gs.size q /\
   count lv' gs'.size <= count lv gs.size/\(m = .free ↔ m' = .free)/\(m' = .done->m = .done\/∀ g0,gs[0]? = some g0->gs'[0]? = some (g0.again w'))
theorem Wr.by (C:Wr P X G u lv m d T gs w q) {i:Nat} {g:Goroutine} {sl:Option (Nat × Nat)} (hi:gs[i]? = some g) (hne:i ≠ 0) (hrun:g.status = .running) :
  ByOut P X G u lv m d T gs w q i sl:=by
 have hlt:i < gs.size:=(Array.getElem?_eq_some_iff.1 hi).1
 have hid:=C.idle i g hne hi
 have pack:∀ {g':Goroutine} {w':World} {lv':Nat->Bool} {m':Md} {es:Array Event},(∃ gs' ops q',runT P (crowd gs w sl) i = (.next (crowd gs' w' sl),ops)/\gs'.size = gs.size/\(∀ g0,gs[0]? = some g0->gs'[0]? = some (woken P g g' w' g0))/\Wr P X G u lv' m' d (T ++ ops) gs' w' q'/\sumTo gs'.size q' < sumTo gs.size q) ->
   count lv' gs.size <= count lv gs.size->(m = .free ↔ m' = .free)->(m' = .done->m = .done\/∀ g0,woken P g g' w' g0 = g0.again w')->ByOut P X G u lv m d T gs w q i sl:=by
  rintro g' w' lv' m' es ⟨gs',ops,q',h1,h2,h3,h4,h5⟩ hc hf hd
  refine ⟨gs',ops,q',w',lv',m',h1,h2,fun g0 h0=>?_,h4,h5,by rw [h2]; exact hc,hf,fun e=>(hd e).imp id fun z g0 h0=>?_⟩
  ·rw [h3 g0 h0]
   rcases woken_or P g g' w' g0 with e | e <;> rw [e]
   ·exact .inl rfl
   ·exact .inr rfl
  ·rw [h3 g0 h0,z g0]
 unfold WIdle at hid
 cases hl:lv i with
 | true =>
  rw [hl] at hid
  simp only [if_true] at hid
  have hpos:=count_le hlt hl
  cases hq:q i with
  | zero=>rw [hq] at hid; exact hid.elim
  | succ k =>
   rw [hq] at hid
   unfold Lt at hid
   rcases hid with ⟨g',es,⟨_,hsy,hstp⟩,hL⟩ | ⟨_,hd0,hadd⟩
   ·refine pack (es:=es) (C.move (sl:=sl) hi hne (hstp w _ _ C.gat) (fun e he=>says_gev (hsy e he)) (.inl fun e he=>says_touch (hsy e he)) (fun _ h=>h) C.base.sim (fun _ _=>rfl) hq ?_ (fun _ _=>rfl) (.inl rfl) C.gat C.pos (Nat.le_refl _)) (Nat.le_refl _) Iff.rfl fun e=>.inl e
    unfold WIdle
    rw [hl,if_pos rfl,Deaf_own]; exact hL
   ·have hcnt:=count_upd hl hlt
    generalize hv:count (upd lv i false) gs.size = v at hcnt
    have hvb:v < 2147483647:=by have:=C.few; omega
    have hdf:useOf lv m i = true/\∀ j,j < #[rdA (stA G),wrA (stA G)].size->deafBehind (Deaf T i) (#[rdA (stA G),wrA (stA G)].extract 0 j) ≠ 0:=⟨by unfold useOf; rw [hl]; rfl,fun j _=>by rw [plain_deaf nomark2]; omega⟩
    have hdd:Deaf (T ++ MemOp.ofEvents i g.frame.fn g.frame.place #[rdA (stA G),wrA (stA G)]) i = Deaf T i:=by rw [Deaf_own]; exact deafBehind_still nomark2 _
    have hus:∀ (m':Md),(∀ j s,m' = .last j s->j = i)->(∀ j s,m ≠ .last j s)->∀ j,useOf (upd lv i false) m' j = true->useOf lv m j = true:=fun m' hm1 hm2 j hj=>by
     unfold useOf at hj ⊢
     by_cases e:j = i
     ·subst e; rw [hl]; rfl
     ·rw [upd_ne lv false e] at hj
      cases h2:lv j with
      | true=>rfl
      | false =>
       rw [h2] at hj
       cases m' with
       | last j' s'=>have:=hm1 j' s' rfl; subst this; simp [e] at hj
       | _=>simp at hj
    cases m with
    | free =>
     obtain ⟨g',hstp,hquit,_⟩:=hadd v 0 (by omega) hvb
     have hg:GAt G (((v + 1) * KK + 0:Nat):Int) 0 w:=by have:=C.gat; rw [hcnt] at this; exact this
     have hst:=hstp w hg
     rw [Nat.add_zero] at hst
     refine pack (es:=#[rdA (stA G),wrA (stA G)]) (C.move (sl:=sl) (m':=.free) (lv':=upd lv i false) hi hne hst rdwr_gev (.inr hdf) (hus .free (fun _ _ e=>by cases e) (fun _ _ e=>by cases e)) (C.turnSt _) (fun b hb=>heap_setCell_ne _ _ hb) hq ?_ (fun j hj=>upd_ne lv false hj) (.inl rfl) ?_ trivial (by omega)) (by omega) Iff.rfl fun e=>.inl e
     ·unfold WIdle; rw [upd_same,if_neg (by simp),hdd]; exact hquit (by omega)
     ·have:=C.gat.setSt ((v * KK:Nat):Int); rw [hv]; exact this
    | wait =>
     obtain ⟨g',hstp,hquit,hlast⟩:=hadd v 1 (by omega) hvb
     have hg:GAt G (((v + 1) * KK + 1:Nat):Int) 0 w:=by have:=C.gat; rw [hcnt] at this; exact this
     have hst:=hstp w hg
     by_cases hv0:v = 0
     ·subst hv0
      refine pack (es:=#[rdA (stA G),wrA (stA G)]) (C.move (sl:=sl) (m':=.last i 2) (lv':=upd lv i false) hi hne hst rdwr_gev (.inr hdf) (hus (.last i 2) (fun j s e=>by cases e; rfl) (fun _ _ e=>by cases e)) (C.turnSt _) (fun b hb=>heap_setCell_ne _ _ hb) hq ?_ (fun j hj=>upd_ne lv false hj)
       (.inr ⟨fun j _ s e=>(by cases e),fun j hj s e=>(by cases e; exact hj rfl)⟩) ?_ ⟨hv,hne,hlt,upd_same _ _ _,Nat.le_refl _⟩ (by omega)) (by omega) ⟨fun e=>(by cases e),fun e=>(by cases e)⟩ fun e=>by cases e
      ·unfold WIdle; rw [upd_same,if_neg (by simp)]; simp only [if_true]; rw [hdd]; exact hlast ⟨rfl,rfl⟩
      ·have:=C.gat.setSt ((0 * KK + 1:Nat):Int)
       have e1:((0 * KK + 1:Nat):Int) = 1:=by rw [Nat.zero_mul]; rfl
       rw [e1] at this ⊢
       exact this
     ·refine pack (es:=#[rdA (stA G),wrA (stA G)]) (C.move (sl:=sl) (m':=.wait) (lv':=upd lv i false) hi hne hst rdwr_gev (.inr hdf) (hus .wait (fun _ _ e=>by cases e) (fun _ _ e=>by cases e)) (C.turnSt _) (fun b hb=>heap_setCell_ne _ _ hb) hq ?_ (fun j hj=>upd_ne lv false hj) (.inl rfl) ?_ (by show 0 < count _ _; omega) (by omega)) (by omega) Iff.rfl fun e=>.inl e
      ·unfold WIdle; rw [upd_same,if_neg (by simp),hdd]; exact hquit (by omega)
      ·have:=C.gat.setSt ((v * KK + 1:Nat):Int); rw [hv]; exact this
    | last j s=>have:=C.pos.1; omega
    | done=>have:count lv gs.size = 0:=C.pos; omega
 | false =>
  rw [hl] at hid
  simp only [Bool.false_eq_true,if_false] at hid
  have quit:QuitsD P (q i) (Deaf T i) g->(∀ s,m ≠ .last i s)->ByOut P X G u lv m d T gs w q i sl:=fun hQ hml=>by
   cases hq:q i with
   | zero=>rw [hq] at hQ; rw [hQ.1] at hrun; cases hrun
   | succ k =>
    rw [hq] at hQ
    rcases hQ with ⟨hf,_⟩ | ⟨_,g',es,hm,hstp,hQ⟩
    ·rw [hf] at hrun; cases hrun
    ·refine pack (es:=es) (C.move (sl:=sl) hi hne (hstp w) (fun e he b hb=>by rw [touch_mute (hm e he)] at hb; cases hb) (.inl fun e he=>touch_mute (hm e he)) (fun _ h=>h) C.base.sim (fun _ _=>rfl) hq ?_ (fun _ _=>rfl) (.inl rfl) C.gat C.pos (Nat.le_refl _)) (Nat.le_refl _) Iff.rfl fun e=>.inl e
     unfold WIdle
     rw [hl,if_neg (by simp),Deaf_own]
     cases m with
     | last j s=>simp only; rw [if_neg (fun e=>hml s (by rw [e]))]; exact hQ
     | _=>exact hQ
  cases m with
  | last j s =>
   simp only at hid
   by_cases hij:i = j
   ·subst hij
    rw [if_pos rfl] at hid
    obtain ⟨hc0,_,_,_,hs2⟩:=C.pos
    have huse:useOf lv (.last i s) i = true:=by unfold useOf; simp
    cases hq:q i with
    | zero=>rw [hq] at hid; exact hid.elim
    | succ k =>
     rw [hq] at hid
     unfold Lst at hid
     obtain ⟨hd0,hid⟩:=hid
     rcases hid with ⟨g',es,⟨_,hsy,hstp⟩,hnm,hL⟩ | ⟨_,hid⟩
     ·refine pack (es:=es) (C.move (sl:=sl) hi hne (hstp w _ _ C.gat) (fun e he=>says_gev (hsy e he)) (.inl fun e he=>says_touch (hsy e he)) (fun _ h=>h) C.base.sim (fun _ _=>rfl) hq ?_ (fun _ _=>rfl) (.inl rfl) C.gat C.pos (Nat.le_refl _)) (Nat.le_refl _) Iff.rfl fun e=>.inl e
      unfold WIdle
      rw [hl,if_neg (by simp)]
      simp only [if_true]
      rw [Deaf_own,deafBehind_still hnm]; exact hL
     ·rcases s with _ | _ | _ | s
      ·
       simp only at hid
       obtain ⟨hwk,g',hstp,hQ⟩:=hid
       have hst:=hstp w C.gat
       refine pack (es:=semEvents (smA G)) (C.move (sl:=sl) (m':=.done) (lv':=lv) hi hne hst sem_gev (.inr ⟨huse,sem_deaf_in hd0⟩) (fun j hj=>by unfold useOf at hj ⊢; simp at hj; rw [hj]; rfl) (C.turnSm _) (fun b hb=>heap_setCell_ne _ _ hb) hq ?_ (fun _ _=>rfl) (.inr ⟨fun j hj s e=>(by cases e; exact hj rfl),fun j _ s e=>(by cases e)⟩) (C.gat.setSm _) hc0 (Nat.le_refl _)) (Nat.le_refl _) ⟨fun e=>(by cases e),fun e=>(by cases e)⟩ fun _=>.inr fun g0=>?_
       ·unfold WIdle
        rw [hl,if_neg (by simp),Deaf_own,sem_deaf]; exact hQ
       ·unfold woken
        rw [if_pos]
        rw [hwk]
        rcases hQ.status with e | e <;> rw [e] <;> rfl
      ·simp only at hid
       obtain ⟨g',hstp,hL⟩:=hid
       have hst:=hstp w C.gat
       refine pack (es:=#[wrA (stA G)]) (C.move (sl:=sl) (m':=.last i 0) (lv':=lv) hi hne hst wr_gev (.inr ⟨huse,fun j _=>by rw [plain_deaf nomark_w]; omega⟩) (fun j hj=>hj) (C.turnSt _) (fun b hb=>heap_setCell_ne _ _ hb) hq ?_ (fun _ _=>rfl) (.inr ⟨fun j hj s e=>(by cases e; exact hj rfl),fun j hj s e=>(by cases e; exact hj rfl)⟩) (C.gat.setSt _) ⟨hc0,hne,hlt,hl,by omega⟩ (Nat.le_refl _)) (Nat.le_refl _) ⟨fun e=>(by cases e),fun e=>(by cases e)⟩ fun e=>by cases e
       unfold WIdle
       rw [hl,if_neg (by simp)]
       simp only [if_true]
       rw [Deaf_own,deafBehind_still nomark_w]; exact hL
      ·simp only at hid
       obtain ⟨g',hstp,hL⟩:=hid
       have hst:=hstp w C.gat
       refine pack (es:=#[rdA (stA G)]) (C.move (sl:=sl) (m':=.last i 1) (lv':=lv) hi hne hst rd_gev (.inr ⟨huse,fun j _=>by rw [plain_deaf nomark_r]; omega⟩) (fun j hj=>hj) C.base.sim (fun b hb=>rfl) hq ?_ (fun _ _=>rfl) (.inr ⟨fun j hj s e=>(by cases e; exact hj rfl),fun j hj s e=>(by cases e; exact hj rfl)⟩) C.gat ⟨hc0,hne,hlt,hl,by omega⟩ (Nat.le_refl _)) (Nat.le_refl _) ⟨fun e=>(by cases e),fun e=>(by cases e)⟩ fun e=>by cases e
       unfold WIdle
       rw [hl,if_neg (by simp)]
       simp only [if_true]
       rw [Deaf_own,deafBehind_still nomark_r]; exact hL
      ·omega
   ·rw [if_neg hij] at hid
    exact quit hid fun s' e=>by cases e; exact hij rfl
  | free=>exact quit hid fun s e=>by cases e
  | wait=>exact quit hid fun s e=>by cases e
  | done=>exact quit hid fun s e=>by cases e
end
end Go.Yc
end
/- The frame of the token: goroutine 0 waits for its group to the end. Nothing here speaks of a program. -/
section
namespace Go.Yc
open Go Go.Conc
open Go.ConcN (sumTo upd sumTo_upd upd_ne upd_same sumTo_congr)
attribute [local irreducible] KK
theorem count_some {lv:Nat->Bool}:∀ {n:Nat},0 < count lv n->∃ i,i < n/\lv i = true
 | 0,h=>by simp [count,sumTo] at h
 | n + 1,h=>by
  cases e:lv n with
  | true=>exact ⟨n,by omega,e⟩
  | false =>
   have:count lv (n + 1) = count lv n:=by
    show sumTo n _ + (if lv n then 1 else 0) = _
    rw [e]; rfl
   obtain ⟨i,h1,h2⟩:=count_some (n:=n) (by rw [<- this]; exact h)
   exact ⟨i,by omega,h2⟩
theorem useOf_free (lv:Nat->Bool):useOf lv .free = lv:=funext fun i=>by unfold useOf; simp
section
variable {P:Program} {Post:Value->World->Prop} {X:Gh} {G:Grp} {u:World} {lv:Nat->Bool} {m:Md} {d:Nat} {T:Trace} {gs:Array Goroutine} {w:World} {q:Nat->Nat} {K:Goroutine->Prop}
theorem Fin.we (hG:X.grp = some G) (hK:∀ g,K g->Fin P Post { X with pend:=0,cap:=0,dn:=0 } 0 g u):∀ (n d:Nat) (g:Goroutine),WE P G K n d g->Fin P Post { X with pend:=0,cap:=0,dn:=d } 0 g u
 | 0,d,g,h=>by obtain ⟨rfl,h⟩:=h; exact hK g h
 | n + 1,d,g,h=>by
  rcases h with ⟨rfl,h⟩ | ⟨g',es,hr,hes,hst,h⟩
  ·exact hK g h
  ·refine Fin.of_step hr fun live T gs w sl dd sl' q hg hstp C=>?_
   have hat:=(C.grp G hG).2
   have hfew:=C.few
   have hc:count live gs.size = 0:=by have h1:count live gs.size + 0 <= 0:=hfew.1; omega
   have hz:(((count live gs.size + 0) * KK:Nat):Int) = 0:=by rw [hc,Nat.zero_add,Nat.zero_mul]; rfl
   have hat':GAt G 0 0 (w.at dd):=by have h2:GAt G (((count live gs.size + 0) * KK:Nat):Int) 0 (w.at dd):=hat; rw [hz] at h2; exact h2
   obtain ⟨C',hself⟩:=C.main hG (g:=g) (g':=g') (pend:=0) (cap:=0) hes (w':=w.at dd) C.sim (fun _ _=>rfl) hat hfew
   exact Ends.step (hstp.trans (runT_crowd_go (sl:=sl') (i:=0) hg (hst _ hat'))) (Fin.we hG hK n _ g' h _ _ _ _ _ _ hself C')
theorem Wr.toRing (C:Wr P X G u lv .free d T gs w q) (hc:count lv gs.size = 0):Ring P { X with pend:=0,cap:=0,dn:=d } 0 u lv T gs w q:=by
 have B:=C.base
 rw [useOf_free] at B
 refine B.ring (fun i g hi hg=>?_) (fun G' e=>?_) ⟨?_,by show (0:Nat) <= 65536; omega⟩
 ·have:=C.idle i g hi hg
  have hlt:i < gs.size:=(Array.getElem?_eq_some_iff.1 hg).1
  have hl:lv i = false:=by
   cases e:lv i with
   | false=>rfl
   | true=>have:=count_le hlt e; omega
  unfold WIdle at this
  unfold Idle
  rw [show ({ X with pend:=0,cap:=0,dn:=d }:Gh).seat i = none from C.empty i]
  rw [hl] at this ⊢
  simp only [Bool.false_eq_true,if_false] at this ⊢
  exact ⟨by omega,this⟩
 ·have e':X.grp = some G':=e
  rw [C.grp] at e'
  obtain rfl:=Option.some.inj e'
  have:=C.gat
  exact this
 ·show count lv gs.size + 0 <= 0; omega
theorem Wr.at (C:Wr P X G u lv m d T gs w q) (k:Nat):Wr P X G u lv m d T gs (w.at k) q :=
 ⟨⟨let ⟨ρ,hs,hl⟩:=C.base.sim; ⟨ρ,Sim.at hs k,hl⟩,C.base.free,C.base.size,C.base.num,C.base.stays,C.base.chans,C.base.seats,C.base.inj,C.base.hid,C.base.lowg,C.base.lowc,C.base.cut,C.base.old,C.base.above,C.base.livg,C.base.livs,C.base.dfn,C.base.past⟩,C.grp,C.empty,C.idle,C.gat,C.pos,C.few⟩
theorem Wr.awake (C:Wr P X G u lv m d T gs w q) {a:Goroutine} (ha:gs[0]? = some a) (hs:a.status = .running\/a.status = .blocked):∀ g ∈ gs,awake g:=by
 intro g hg
 obtain ⟨i,hi,rfl⟩:=Array.mem_iff_getElem.1 hg
 by_cases e:i = 0
 ·subst e
  have:gs[0] = a:=by simpa [Array.getElem?_eq_getElem hi] using ha
  rw [this]; exact awake_of (hs.elim .inl fun x=>.inr (.inl x))
 ·exact awake_of ((C.idle i _ e (Array.getElem?_eq_getElem hi)).status.elim .inl fun x=>.inr (.inr x))
theorem Wr.main (C:Wr P X G u lv m d T gs w q) {g g':Goroutine} {es:Array Event} {w':World} {m':Md} (hes:∀ e ∈ es,GEv G 0 e) (hsim:∃ ρ,Sim ρ (onT u w'.tape w'.drawn) w'/\∀ b,¬ X.low b->ρ b = X.plug b) (hgone:∀ b,b ≠ G.blk->w'.heap[b]? = w.heap[b]?)
  (hm:m' = m\/((∀ j s,m ≠ .last j s)/\∀ j s,m' ≠ .last j s)) (hgat:GAt G (stOf m' (count lv gs.size)).1 (stOf m' (count lv gs.size)).2 w') (hpos:posOf m' lv gs.size) :
  Wr P X G u lv m' (deafBehind d es) (T ++ MemOp.ofEvents 0 g.frame.fn g.frame.place es) ((gs.map (woken P g g' w')).setIfInBounds 0 g') w' q/\((gs.map (woken P g g' w')).setIfInBounds 0 g')[0]? = some g':=by
 have hsz:((gs.map (woken P g g' w')).setIfInBounds 0 g').size = gs.size:=by simp
 have hus:∀ j,useOf lv m' j = true->useOf lv m j = true:=fun j hj=>by
  rcases hm with rfl | ⟨h1,h2⟩
  ·exact hj
  ·unfold useOf at hj ⊢
   cases m' with
   | last j s=>exact absurd rfl (h2 j s)
   | _=>simp at hj; rw [hj]; rfl
 refine ⟨⟨?_,C.grp,C.empty,fun x y hx hy=>?_,by rw [hsz]; exact hgat,by rw [hsz]; exact hpos,by rw [hsz]; exact C.few⟩,Array.getElem?_setIfInBounds_self_of_lt (by simpa using C.base.size)⟩
 ·rw [hsz]
  exact C.base.step (fn:=g.frame.fn) (pos:=g.frame.place) (G:=G) C.grp C.base.size (C.empty 0) hes (.inr (.inl rfl)) hus (fun j hj=>absurd (C.empty j) hj) (by rw [if_pos rfl]) hsim hgone
 ·rw [Array.getElem?_setIfInBounds_ne (fun z=>hx z.symm),Array.getElem?_map] at hy
  obtain ⟨y₀,hy₀,rfl⟩:=Option.map_eq_some_iff.1 hy
  have h1:=C.idle x y₀ hx hy₀
  rw [woken_of_again (again_of_running h1.status w')]
  exact h1.other (fun z=>hx z.symm) ofEvents_op rfl (hm.imp id fun z=>⟨z.1 x,z.2 x⟩)
theorem again_blocked {g:Goroutine} (hr:g.status = .running) (ho:g.offers = none) (w:World):({ g with status:=.blocked }:Goroutine).again w = g:=by
 cases g
 simp only at hr ho
 subst hr; subst ho
 rfl
theorem Fin.sem (hG:X.grp = some G) (hK:∀ g,K g->Fin P Post { X with pend:=0,cap:=0,dn:=0 } 0 g u):∀ (μ n d:Nat) (g:Goroutine) (b:Bool) lv m T gs w sl q,μ = 3 * sumTo gs.size q + 3 * n + (if b then 1 else 0)->Wr P X G u lv m d T gs w q->m ≠ .free ->
  (if b then gs[0]? = some g/\WS P G K n d g else m ≠ .done/\gs[0]? = some { g with status:=.blocked }/\∃ k,n = k + 1/\0 < d/\SemAt P G K k d g)->Ends P Post (crowd gs w sl) T:=by
 intro μ
 induction μ using Nat.strongRecOn with
 | _ μ ih =>
  intro n d g b lv m T gs w sl q hμ C hmf hb
  have hsome:(∃ (i:Nat) (g:Goroutine),gs[i]? = some g/\g.status = .running)/\∀ g ∈ gs,awake g:=by
   cases b with
   | true =>
    obtain ⟨h0,hW⟩:=hb
    have hr:g.status = .running:=by
     cases n with
     | zero=>exact hW.elim
     | succ n =>
      rcases hW with ⟨_,_,hh,_⟩ | ⟨_,hh⟩
      ·exact hh.1
      ·exact hh.1
    exact ⟨⟨0,g,h0,hr⟩,C.awake h0 (.inl hr)⟩
   | false =>
    obtain ⟨hmd,h0,k,_,_,_⟩:=hb
    refine ⟨?_,C.awake h0 (.inr rfl)⟩
    cases m with
    | free=>exact absurd rfl hmf
    | done=>exact absurd rfl hmd
    | wait =>
     obtain ⟨i,hi,hl⟩:=count_some (show 0 < count lv gs.size from C.pos)
     have hi0:i ≠ 0:=(C.base.livg i (by unfold useOf; rw [hl]; rfl)).1
     have:=C.idle i gs[i] hi0 (Array.getElem?_eq_getElem hi)
     unfold WIdle at this
     rw [hl,if_pos rfl] at this
     exact ⟨i,gs[i],Array.getElem?_eq_getElem hi,this.running⟩
    | last i s =>
     obtain ⟨_,hi0,hi,hl,_⟩:=C.pos
     have:=C.idle i gs[i] hi0 (Array.getElem?_eq_getElem hi)
     unfold WIdle at this
     rw [hl,if_neg (by simp)] at this
     simp only [if_true] at this
     exact ⟨i,gs[i],Array.getElem?_eq_getElem hi,this.running⟩
  obtain ⟨i,gi,dd,sl',hi,hgi,hst⟩:=crowd_pick (P:=P) (w:=w) (sl:=sl) hsome.2 hsome.1
  have Cd:=C.at dd
  by_cases e:i = 0
  ·subst e
   cases b with
   | false=>obtain ⟨_,h0,_⟩:=hb; rw [h0] at hi; obtain rfl:=Option.some.inj hi; cases hgi
   | true =>
    obtain ⟨h0,hW⟩:=hb
    rw [h0] at hi
    obtain rfl:=Option.some.inj hi
    cases n with
    | zero=>exact hW.elim
    | succ n =>
     rcases hW with ⟨g',es,⟨_,_,hes,hstp⟩,hW⟩ | ⟨hd0,hr,ho,hblk,g',hacq,hE⟩
     ·obtain ⟨C',hself⟩:=Cd.main (g:=g) (g':=g') (m':=m) hes Cd.base.sim (fun _ _=>rfl) (.inl rfl) Cd.gat Cd.pos
      exact Ends.step (hst.trans (runT_crowd_go (sl:=sl') (i:=0) h0 (hstp _ _ _ Cd.gat))) (ih _ (by simp only [Array.size_setIfInBounds,Array.size_map]; rw [hμ]; simp only [if_true]; omega) n _ g' true lv m _ _ _ sl' q rfl C' hmf ⟨hself,hW⟩)
     ·have blk:m ≠ .done->(∃ st,GAt G st 0 (w.at dd))->Ends P Post (crowd gs w sl) T:=fun hmd ⟨st,hat⟩=>by
       have hgo:=hblk _ _ hat
       have hrt:=runT_crowd_go (P:=P) (sl:=sl') (i:=0) h0 hgo
       rw [show (MemOp.ofEvents 0 g.frame.fn g.frame.place #[]:Array MemOp) = #[] from rfl] at hrt
       obtain ⟨C',hself⟩:=Cd.main (g:=g) (g':={ g with status:=.blocked }) (es:=#[]) (m':=m) (fun e he=>by simp at he) Cd.base.sim (fun _ _=>rfl) (.inl rfl) Cd.gat Cd.pos
       rw [show (MemOp.ofEvents 0 g.frame.fn g.frame.place #[]:Array MemOp) = #[] from rfl] at C'
       exact Ends.step (hst.trans hrt) (ih _ (by simp only [Array.size_setIfInBounds,Array.size_map]; rw [hμ]; simp) (n + 1) d g false lv m _ _ _ sl' q rfl C' hmf ⟨hmd,hself,n,rfl,hd0,hr,ho,hblk,g',hacq,hE⟩)
      cases m with
      | free=>exact absurd rfl hmf
      | wait=>exact blk (fun e=>by cases e) ⟨_,Cd.gat⟩
      | last i s=>exact blk (fun e=>by cases e) (by
        have:=Cd.gat
        cases s with
        | zero=>exact ⟨_,this⟩
        | succ s=>exact ⟨_,this⟩)
      | done =>
       obtain ⟨C',hself⟩:=Cd.main (g:=g) (g':=g') (es:=semEvents (smA G)) (m':=.free) (w':=(w.at dd).setCell (smA G) (.int .u32 0)) sem_gev (Cd.turnSm 0) (fun b hb=>heap_setCell_ne _ _ hb) (.inr ⟨fun j s e=>(by cases e),fun j s e=>(by cases e)⟩)
        (by
         have h1:count lv gs.size = 0:=Cd.pos
         have h2:GAt G 0 0 _:=Cd.gat.setSm 0
         have h3:(((count lv gs.size) * KK:Nat):Int) = 0:=by rw [h1,Nat.zero_mul]; rfl
         show GAt G (((count lv gs.size) * KK:Nat):Int) 0 _
         rw [h3]; exact h2) trivial
       rw [sem_deaf] at C'
       have R:=C'.toRing (by simp only [Array.size_setIfInBounds,Array.size_map]; exact Cd.pos)
       exact Ends.step (hst.trans (runT_crowd_go (sl:=sl') (i:=0) h0 (hacq _ Cd.gat))) (Fin.we hG hK n d g' hE _ _ _ _ sl' _ hself R)
  ·obtain ⟨gs',ops,q',w',lv',m',hrt,hsz,h0',C',hlt,_,hfree,hdone⟩:=Cd.by (sl:=sl') hi e hgi
   have hmf':m' ≠ .free:=fun e=>hmf (hfree.2 e)
   refine Ends.step (hst.trans hrt) ?_
   cases b with
   | true =>
    obtain ⟨h0,hW⟩:=hb
    have hr:g.status = .running:=by
     cases n with
     | zero=>exact hW.elim
     | succ n =>
      rcases hW with ⟨_,_,hh,_⟩ | ⟨_,hh⟩
      ·exact hh.1
      ·exact hh.1
    refine ih _ (by rw [hμ]; simp only [if_true]; omega) n d g true lv' m' _ gs' w' sl' q' rfl C' hmf' ⟨?_,hW⟩
    rcases h0' g h0 with z | z
    ·exact z
    ·rw [again_of_running (.inl hr)] at z; exact z
   | false =>
    obtain ⟨hmd,h0,k,hk,hd0,hsem⟩:=hb
    have hA:gs'[0]? = some (({ g with status:=.blocked }:Goroutine).again w')->Ends P Post (crowd gs' w' sl') (T ++ ops):=fun z=>by
     rw [again_blocked hsem.1 hsem.2.1] at z
     exact ih _ (by rw [hμ]; simp only [if_true]; simp; omega) n d g true lv' m' _ gs' w' sl' q' rfl C' hmf' ⟨z,by rw [hk]; exact .inr ⟨hd0,hsem⟩⟩
    by_cases hdn:m' = .done
    ·exact hA ((hdone hdn).resolve_left hmd _ h0)
    ·rcases h0' _ h0 with z | z
     ·exact ih _ (by rw [hμ]; simp; omega) n d g false lv' m' _ gs' w' sl' q' rfl C' hmf' ⟨hdn,z,k,hk,hd0,hsem⟩
     ·exact hA z
end
end Go.Yc
end
/- The frame of the token: goroutine 0 waits for its group, from the first. Nothing here speaks of a program. -/
section
namespace Go.Yc
open Go Go.Conc
open Go.ConcN (sumTo upd sumTo_upd upd_ne upd_same sumTo_congr)
attribute [local irreducible] KK
section
variable {P:Program} {Post:Value->World->Prop} {X:Gh} {G:Grp} {u:World} {K:Goroutine->Prop}
theorem Fin.head (hG:X.grp = some G) (hK:∀ g,K g->Fin P Post { X with pend:=0,cap:=0,dn:=0 } 0 g u):∀ (μ n:Nat) (o:Option Nat) (V d:Nat) (g:Goroutine) lv T gs w sl q,μ = n + sumTo gs.size q->Wr P X G u lv .free d T gs w q->gs[0]? = some g->WH P G K n o V d g->0 < d\/True ->
  (match o with | none=>count lv gs.size <= V | some vs=>0 < vs/\count lv gs.size <= vs)->Ends P Post (crowd gs w sl) T:=by
 intro μ
 induction μ using Nat.strongRecOn with
 | _ μ ih =>
  intro n o V d g lv T gs w sl q hμ C h0 hW _ hV
  cases n with
  | zero=>exact hW.elim
  | succ n =>
   have hr:g.status = .running:=by
    unfold WH at hW
    rcases hW with ⟨_,_,hh,_⟩ | hh
    ·exact hh.1
    ·exact hh.1
   obtain ⟨i,gi,dd,sl',hi,hgi,hst⟩:=crowd_pick (P:=P) (w:=w) (sl:=sl) (C.awake h0 (.inl hr)) ⟨0,g,h0,hr⟩
   have Cd:=C.at dd
   by_cases e:i = 0
   ·subst e
    rw [h0] at hi
    obtain rfl:=Option.some.inj hi
    have hat:GAt G ((count lv gs.size * KK:Nat):Int) 0 (w.at dd):=Cd.gat
    unfold WH at hW
    rcases hW with ⟨g',es,⟨_,_,hes,hstp⟩,hW⟩ | ⟨_,hW⟩
    ·obtain ⟨C',hself⟩:=Cd.main (g:=g) (g':=g') (m':=.free) hes Cd.base.sim (fun _ _=>rfl) (.inl rfl) Cd.gat Cd.pos
     exact Ends.step (hst.trans (runT_crowd_go (sl:=sl') (i:=0) h0 (hstp _ _ _ Cd.gat))) (ih _ (by simp only [Array.size_setIfInBounds,Array.size_map]; omega) n o V _ g' lv _ _ _ sl' q rfl C' hself hW (.inr trivial) (by simpa using hV))
    ·have rdstep:∀ g',stepG P true g (w.at dd) = .go g' (w.at dd) #[rdA (stA G)]->(∀ T' gs',Wr P X G u lv .free d T' gs' (w.at dd) q->gs'.size = gs.size->gs'[0]? = some g'->Ends P Post (crowd gs' (w.at dd) sl') T')->Ends P Post (crowd gs w sl) T:=fun g' hgo hk=>by
      obtain ⟨C',hself⟩:=Cd.main (g:=g) (g':=g') (es:=#[rdA (stA G)]) (m':=.free) rd_gev Cd.base.sim (fun _ _=>rfl) (.inl rfl) Cd.gat Cd.pos
      rw [deafBehind_still nomark_r] at C'
      exact Ends.step (hst.trans (runT_crowd_go (sl:=sl') (i:=0) h0 hgo)) (hk _ _ C' (by simp) hself)
     cases o with
     | none =>
      have hV':count lv gs.size <= V:=hV
      obtain ⟨g',hstp,hz,hnz⟩:=hW (count lv gs.size) hV'
      refine rdstep g' (hstp _ hat) fun T' gs' C' hsz hself=>?_
      by_cases hc:count lv gs.size = 0
      ·exact Fin.we hG hK n d g' (hz hc) _ _ _ _ sl' _ hself (C'.toRing (by rw [hsz]; exact hc))
      ·exact ih _ (by rw [hsz]; omega) n (some (count lv gs.size)) V d g' lv T' gs' _ sl' q rfl C' hself (hnz hc) (.inr trivial) ⟨by omega,by rw [hsz]; exact Nat.le_refl _⟩
     | some vs =>
      obtain ⟨hvs,hle⟩:=hV
      obtain ⟨⟨g1,hset,hS⟩,hmiss⟩:=hW
      by_cases hc:count lv gs.size = vs
      ·subst hc
       obtain ⟨C',hself⟩:=Cd.main (g:=g) (g':=g1) (es:=#[rdA (stA G),wrA (stA G)]) (m':=.wait) rdwr_gev (Cd.turnSt ((count lv gs.size * KK + 1:Nat):Int)) (fun b hb=>heap_setCell_ne _ _ hb) (.inr ⟨fun j s e=>(by cases e),fun j s e=>(by cases e)⟩) (Cd.gat.setSt _) hvs
       rw [rdwr_deaf] at C'
       exact Ends.step (hst.trans (runT_crowd_go (sl:=sl') (i:=0) h0 (hset _ hat))) (Fin.sem hG hK _ n d g1 true lv .wait _ _ _ sl' q rfl C' (fun e=>(by cases e)) ⟨hself,hS⟩)
      ·obtain ⟨g',hstp,hH⟩:=hmiss (count lv gs.size) (by omega)
       refine rdstep g' (hstp _ hat) fun T' gs' C' hsz hself=>?_
       exact ih _ (by rw [hsz]; omega) n none (count lv gs.size) d g' lv T' gs' _ sl' q rfl C' hself hH (.inr trivial) (by rw [hsz]; exact Nat.le_refl _)
   ·obtain ⟨gs',ops,q',w',lv',m',hrt,hsz,h0',C',hlt,hcl,hfree,_⟩:=Cd.by (sl:=sl') hi e hgi
    have hmf:m' = .free:=hfree.1 rfl
    subst hmf
    refine Ends.step (hst.trans hrt) (ih _ (by omega) (n + 1) o V d g lv' _ gs' w' sl' q' rfl C' ?_ hW (.inr trivial) ?_)
    ·rcases h0' g h0 with z | z
     ·exact z
     ·rw [again_of_running (.inl hr)] at z; exact z
    ·cases o with
     | none=>exact Nat.le_trans hcl hV
     | some vs=>exact ⟨hV.1,Nat.le_trans hcl hV.2⟩
theorem Fin.wait {g:Goroutine} {n:Nat} (hG:X.grp = some G) (hno:∀ i,X.seat i = none) (hp:X.pend = 0) (hd:X.dn = 0) (hW:WH P G K n none X.cap 0 g) (hK:∀ g,K g->Fin P Post { X with pend:=0,cap:=0,dn:=0 } 0 g u):Fin P Post X 0 g u:=by
 intro live T gs w sl q hg C
 have hat:=(C.grp G hG).2
 have hfew:=C.few
 rw [hp,Nat.add_zero] at hat hfew
 have B:=C.base
 refine Fin.head hG hK _ n none X.cap 0 g live T gs w sl q rfl ⟨?_,hG,hno,fun i y hi hy=>?_,hat,trivial,by omega⟩ hg hW (.inr trivial) hfew.1
 ·rw [useOf_free]
  exact ⟨B.sim,B.free,B.size,B.num,B.stays,B.chans,B.seats,B.inj,B.hid,B.lowg,B.lowc,B.cut,B.old,B.above,B.livg,B.livs,B.dfn.trans hd,by
   have:=B.past
   refine this.fewer fun x hx=>?_
   rcases hx with ⟨e,_⟩ | hx
   ·exact .inl ⟨e,hd⟩
   ·exact .inr hx⟩
 ·have:=C.idle i y hi hy
  unfold Idle at this
  rw [hno i] at this
  unfold WIdle
  obtain ⟨_,this⟩:=this
  cases e:live i with
  | true =>
   rw [e] at this
   simp only [if_true] at this ⊢
   obtain ⟨G',hG',hL⟩:=this
   rw [hG] at hG'
   obtain rfl:=Option.some.inj hG'
   exact hL
  | false =>
   rw [e] at this
   simp only [Bool.false_eq_true,if_false] at this ⊢
   exact this
end
end Go.Yc
end
/- The frame of the token: the start. Nothing here speaks of a program. -/
section
namespace Go.Yc
open Go Go.Conc
open Go.ConcN (sumTo upd sumTo_upd upd_ne upd_same sumTo_congr)
attribute [local irreducible] KK
def veil (w:World):World:={ w with heap:=w.heap.map fun o=>if isView o then nothing else o }
def X0 (w:World):Gh where
 seat:=fun _=>none
 stay:=fun _=>[]
 grp:=none
 old:=[]
 hid:=fun _=>none
 chs:=fun _=>False
 low:=fun _=>False
 plug:=fun b=>match w.heap[b]? with
  | some o=>if isView o then .gone o else .all
  | none=>.all
 cap:=0
 pend:=0
 dn:=0
 n:=1
theorem X0_under (w:World) (n:Nat):(X0 w).Under n :=
 ⟨fun _ _ h=>(by cases h),fun _ _ h=>(by cases h),fun _ h=>h.elim,fun _ h=>h.elim (fun z=>(by cases z)) fun z=>(by cases z),fun _ h=>h.elim⟩
theorem X0_plug {w:World} {b:Nat} (h:w.heap.size <= b):(X0 w).plug b = .all:=by
 show (match w.heap[b]? with | some o=>if isView o then Plug.gone o else .all | none=>.all) = _
 rw [Array.getElem?_eq_none h]
theorem veil_get {w:World} {b:Nat} {o:Obj} (h:w.heap[b]? = some o) (hv:isView o = false):(veil w).heap[b]? = some o:=by
 show (w.heap.map _)[b]? = _
 rw [Array.getElem?_map,h]; simp [hv]
theorem veil_sim (w:World):Sim (X0 w).plug (onT (veil w) w.tape w.drawn) w:=by
 refine ⟨rfl,rfl,rfl,rfl,by simp [onT,veil],fun b x hx=>?_,fun b hb=>X0_plug (by simpa [onT,veil] using hb),fun b x hx=>?_⟩
 ·have hx':(w.heap.map fun o=>if isView o then nothing else o)[b]? = some x:=hx
  rw [Array.getElem?_map] at hx'
  obtain ⟨o,ho,rfl⟩:=Option.map_eq_some_iff.1 hx'
  refine ⟨o,ho,?_⟩
  show Like (match w.heap[b]? with | some o=>if isView o then Plug.gone o else .all | none=>.all) _ _
  rw [ho]
  cases hv:isView o
  ·simp only [hv,Bool.false_eq_true,if_false]; exact .same o
  ·simp only [hv,if_true]; exact .gone _ _ _
 ·have hx':(w.heap.map fun o=>if isView o then nothing else o)[b]? = some x:=hx
  rw [Array.getElem?_map] at hx'
  obtain ⟨o,ho,rfl⟩:=Option.map_eq_some_iff.1 hx'
  cases hv:isView o
  ·simp [hv]
  ·simp [nothing,isView]
theorem Fin.start {P:Program} {Post:Value->World->Prop} {g:Goroutine} {w:World} (hF:Fin P Post (X0 w) 0 g (veil w)):Ends P Post (solo g w) #[]:=by
 rw [solo_eq_crowd]
 have hno:∀ i a,touchAt (#[]:Trace) i = some a->False:=fun i a h=>by simp [touchAt,Trace.act?] at h
 refine hF (fun _=>false) #[] #[g] w none (fun _=>0) rfl ⟨⟨_,veil_sim w,fun _ _=>rfl⟩,fun i y hi hy=>?_,rfl,by simp,rfl,fun _ _ h=>(by cases h),fun _ h=>h.elim,fun _ _ h=>(by cases h),fun _ _ _ _ h=>(by cases h),fun _ _ h=>(by cases h),fun _ h=>(by cases h),fun _ h=>h.elim,fun _ h=>(by cases h),fun _ h=>(by cases h),
  fun j hj=>⟨rfl,rfl,rfl,rfl⟩,⟨Nat.le_refl _,by show (0:Nat) <= 65536; omega⟩,fun _ h=>(by cases h),fun i hi h=>h.elim (fun z=>absurd rfl z) fun z=>absurd z hi,rfl,⟨fun said=>?_,fun i a h=>(hno i a h).elim,fun i a h=>(hno i a h).elim,fun g' hg'=>rfl,fun i a g' h=>(hno i a h).elim⟩⟩
 ·have:i = 0:=by
   have:=(Array.getElem?_eq_some_iff.1 hy).1
   simp at this; omega
  exact absurd this hi
 ·rintro ⟨i,j,_,⟨a,b,ha,_⟩,_⟩
  exact hno i a ha
end Go.Yc
end
/- A walk for one goroutine among others: conditions on its record and the world that are closed under its own steps; the rules of the walk over them. Nothing here speaks of a program. -/
section
namespace Go.Vy
open Go Go.Conc Go.Yc
inductive Out where
 | val (v:Value)
 | skip
 | enter (f:FuncId) (args:Array Value)
 | panic (v:Value)
def Out.res:Out->World->Result Next
 | .val v,w=>.ok (.value v) w
 | .skip,w=>.ok .skip w
 | .enter f args,w=>.ok (.enter f args) w
 | .panic v,w=>.halt (.panic v) w
def DoesR (P:Program) (S:Sem Next) (u:World) (r:Out) (u':World):Prop :=
 ∀ ρ x,Sim ρ u x->Evo u u'/\∃ x' es,S.runT P x #[] = (r.res x',es)/\Sim ρ u' x'/\∀ e ∈ es,EvOk u e
structure Does (P:Program) (S:Sem Next) (u:World) (r:Out) (u':World):Prop where
 tape:u'.tape = u.tape
 drawn:u'.drawn = u.drawn
 go:∀ τ d,DoesR P S (onT u τ d) r (onT u' τ d)
theorem Out.fine (r:Out) (w:World):fine (r.res w):=by cases r <;> trivial
theorem atW_res (r:Out) (w w':World):atW (r.res w) w' = r.res w':=by cases r <;> rfl
theorem world_res (r:Out) (w:World):worldOf (r.res w) = w:=by cases r <;> rfl
theorem doesR_of_tame {P:Program} {S:Sem Next} {u u':World} {r:Out} (ht:tame P S) (hr:S.run P u = r.res u'):DoesR P S u r u':=by
 intro ρ x hs
 have h1:(S.runT P u #[]).1 = r.res u':=by rw [Sem.runT_eq]; exact hr
 have hf:Yc.fine (S.runT P u #[]).1:=by rw [h1]; exact r.fine u'
 obtain ⟨⟨x',h2,h3⟩,h4,h5⟩:=sim_runT ht hs hf
 rw [h1,world_res] at h3 h4
 rw [h1,atW_res] at h2
 exact ⟨h4,x',_,h2,h3,fun e he=>(h5 e he).resolve_left (by simp)⟩
theorem Does.of_tame {P:Program} {S:Sem Next} {u u':World} {r:Out} (ht:tame P S) (h1:u'.tape = u.tape) (h2:u'.drawn = u.drawn) (hr:∀ τ d,S.run P (onT u τ d) = r.res (onT u' τ d)):Does P S u r u':=⟨h1,h2,fun τ d=>doesR_of_tame ht (hr τ d)⟩
structure Cl (P:Program) (main:Bool) (Z:Goroutine->World->Prop):Prop where
 own:∀ g u,g.status = .running->(∀ τ d,∃ g' u' d',Follows P main g (onT u τ d) g' u'/\Z g' (onT u' u.tape d'))->Z g u
class Ctx (P:Program) where
 main:Bool
 Zs:(Goroutine->World->Prop)->Prop
 cl:∀ Z,Zs Z->Cl P main Z
theorem fin_onT {P:Program} {Post:Value->World->Prop} {X:Gh} {h:Nat} {g:Goroutine} {u:World} {τ:Tape} {d:Nat} (hF:Fin P Post X h g (onT u τ d)):Fin P Post X h g u :=
 fun live T gs w sl q hg C=>hF live T gs w sl q hg ⟨C.sim,C.idle,C.free,C.size,C.num,C.stays,C.chans,C.seats,C.inj,C.hid,C.lowg,C.lowc,C.grp,C.old,C.above,C.few,C.livg,C.livs,C.dfn,C.past⟩
theorem fin_cl (P:Program) (Post:Value->World->Prop) (X:Gh) (h:Nat):Cl P (h == 0) (Fin P Post X h) :=
 ⟨fun _ _ hr hs=>Fin.own hr fun τ d=>by
  obtain ⟨g',u',d',hF,hZ⟩:=hs τ d
  exact ⟨g',u',hF,fin_onT hZ⟩⟩
section
variable {P:Program} {main:Bool} {Z:Goroutine->World->Prop}
theorem Cl.ctl (hZ:Cl P main Z) {g g':Goroutine} {u:World} (hr:g.status = .running) (hr':g'.status = .running) (hs:∀ w,stepG P main g w = .go g' w #[]) (h:Z g' u):Z g u :=
 hZ.own g u hr fun τ d=>⟨g',onT u τ d,u.drawn,⟨hr',fun ρ w hw=>⟨Evo.refl _,w,#[],hs w,hw,fun e he=>by simp at he⟩⟩,h⟩
end
def ArrZ (Z:Goroutine->World->Prop) (b:Frame) (k:List Item) (cs:List Frame):Exit->Act->World->Prop
 | .normal,a,w=>Z (G (b.at a k) cs) w
 | .exit id,a,w=>∃ k',exitTo id k = some k'/\Z (G (b.at a k') cs) w
 | .goto l,a,w=>∃ k',gotoIn l k = some k'/\Z (G (b.at a k') cs) w
 | .ret,a,w=>∀ todo,Z (G { b.at a todo with mode:=.returning } cs) w
 | .panic ch,a,w=>∀ todo,Z (G { b.at a todo with mode:=.panicking ch } cs) w
 | .outgrown,_,_=>False
theorem ArrZ.push {Z:Goroutine->World->Prop} {b:Frame} {x:Item} {k:List Item} {cs:List Frame} {e:Exit} {a:Act} {w:World} (hx:x.plain = true) (he:e ≠ .normal) (h:ArrZ Z b k cs e a w):ArrZ Z b (x :: k) cs e a w:=by
 cases e with
 | normal=>exact absurd rfl he
 | exit id=>obtain ⟨k',hk,h⟩:=h; exact ⟨k',by cases x <;> simp_all [exitTo,Item.plain],h⟩
 | goto l=>obtain ⟨k',hk,h⟩:=h; exact ⟨k',by cases x <;> simp_all [gotoIn,Item.plain],h⟩
 | ret=>exact h
 | panic ch=>exact h
 | outgrown=>exact h
def ResDoes (P:Program) (fn:Func) (tmps:Array Value) (w:World) (v:Value):Prop:=∀ τ d ρ x,Sim ρ (onT w τ d) x->∃ x' es,(results fn tmps).runT P x #[] = (.ok v x',es)/\Sim ρ (onT w τ d) x'/\∀ e ∈ es,EvOk (onT w τ d) e
def Leaves (P:Program) (fr:Frame) (w:World):Ending->Prop
 | .returned v=>fr.mode = .returning/\fr.defers = []/\fr.kind = .normal/\∃ fn,P.funcs[fr.fn]? = some fn/\ResDoes P fn fr.tmps w v
 | .panicked chain=>fr.mode = .panicking chain/\fr.defers = []/\fr.catches P = false
 | .outgrown=>False
def Calls (P:Program) [Ctx P] (f:FuncId) (args:Array Value) (w:World) (R:Ending->World->Prop):Prop :=
 ∀ Z,Ctx.Zs P Z->∀ cs,(∀ e w' fr,R e w'->fr.fn = f->Leaves P fr w' e->Z (G fr cs) w')->Z (G (Frame.enter P f args .normal) cs) w
theorem Calls.mono {P:Program} [Ctx P] {f:FuncId} {args:Array Value} {w:World} {R R':Ending->World->Prop} (h:Calls P f args w R) (hr:∀ e w',R e w'->R' e w'):Calls P f args w R' :=
 fun Z hZ cs hk=>h Z hZ cs fun e w' fr he hf hl=>hk e w' fr (hr e w' he) hf hl
theorem leave_returned {P:Program} {main:Bool} {Z:Goroutine->World->Prop} (hZ:Cl P main Z) {fr c:Frame} {cs:List Frame} {w:World} {v:Value} (h:Leaves P fr w (.returned v)) (hk:Z (G (c.finish v) cs) w):Z (G fr (c :: cs)) w:=by
 obtain ⟨hm,hd,hn,fn,hf,hr⟩:=h
 refine hZ.own _ _ rfl fun τ d=>⟨G (c.finish v) cs,onT w τ d,w.drawn,⟨rfl,fun ρ x hx=>?_⟩,hk⟩
 obtain ⟨x',es,hrun,hx',hev⟩:=hr τ d ρ x hx
 rw [Sem.runT_eq] at hrun
 obtain ⟨h1,h2⟩:=Prod.mk.inj hrun
 refine ⟨Evo.refl _,x',seen P fr.fn es ++ #[],?_,hx',fun e he=>?_⟩
 ·simp [G,stepG,unwind,doReturn,hm,hd,hn,hf,h1,h2,GStep.after]
 ·have he':e ∈ seen P fr.fn es:=by simpa using he
  exact hev e (mem_seen he')
theorem leave_panicked {P:Program} {main:Bool} {Z:Goroutine->World->Prop} (hZ:Cl P main Z) {fr c:Frame} {cs:List Frame} {w:World} {chain:List PanicEntry} (h:Leaves P fr w (.panicked chain)) (hk:Z (G (c.raise chain) cs) w):Z (G fr (c :: cs)) w:=by
 obtain ⟨hm,hd,hc⟩:=h
 exact hZ.ctl rfl rfl (fun w=>by simp [G,stepG,unwind,hm,hd,hc]) hk
end Go.Vy
end
/- A walk for one goroutine among others: the rules of operations and of code. Nothing here speaks of a program. -/
section
namespace Go.Vy
open Go Go.Conc Go.Yc
section
variable {P:Program} [Ctx P]
def outK (P:Program) [Ctx P] (o:Oper) (a:Act) (next:Act->World->Prop) (Q:Exit->Act->World->Prop) (r:Out) (w:World):Prop:=match r with
 | .val v=>next (a.put o.dst v) w
 | .skip=>next (a.put o.dst undef) w
 | .enter f args=>Calls P f args w fun
  | .returned v,w''=>next (a.put o.dst v) w''
  | .panicked chain,w''=>Q (.panic chain) a w''
  | .outgrown,_=>False
 | .panic v=>Q (.panic [{ v,recovered:=false }]) a w
def opwp (P:Program) [Ctx P] (o:Oper) (a:Act) (w:World) (next:Act->World->Prop) (Q:Exit->Act->World->Prop):Prop :=
 ∀ τ d,∃ r w',DoesR P (execOp a.eval o) (onT w τ d) r w'/\outK P o a next Q r (onT w' w.tape w.drawn)
def wpOps (P:Program) [Ctx P] (ops:Array Oper) (Q:Exit->Act->World->Prop):List Nat->Act->World->Prop
 | [],a,w=>Q .normal a w
 | i :: rest,a,w=>match ops[i]? with
  | none=>False
  | some o=>if Region.wanted o (yielded ops a.tmps) then opwp P o a w (wpOps P ops Q rest) Q else wpOps P ops Q rest (a.put o.dst undef) w
def wpList (P:Program) [Ctx P] (ops:Array Oper) (Q:Exit->Act->World->Prop):List Oper->Act->World->Prop
 | [],a,w=>Q .normal a w
 | o :: rest,a,w=>if Region.wanted o (yielded ops a.tmps) then opwp P o a w (wpList P ops Q rest) Q else wpList P ops Q rest (a.put o.dst undef) w
def cwp (P:Program) [Ctx P] (c:Code) (Q:Exit->Act->World->Prop) (a:Act) (w:World):Prop :=
 ∀ Z,Ctx.Zs P Z->∀ b k cs,b.kind ≠ .early->(∀ e a' w',Q e a' w'->ArrZ Z b k cs e a' w')->Z (G (b.at a (.code c :: k)) cs) w
variable {Q Q':Exit->Act->World->Prop} {a:Act} {w:World} {ops:Array Oper}
theorem opwp_mono {o:Oper} {next next':Act->World->Prop} (hn:∀ a w,next a w->next' a w) (hq:∀ e a w,Q e a w->Q' e a w) (h:opwp P o a w next Q):opwp P o a w next' Q':=by
 intro τ d
 obtain ⟨r,w',h1,h2⟩:=h τ d
 refine ⟨r,w',h1,?_⟩
 cases r with
 | val v=>exact hn _ _ h2
 | skip=>exact hn _ _ h2
 | enter f args=>exact Calls.mono h2 fun e w'' he=>by cases e <;> first | exact hn _ _ he | exact hq _ _ _ he | exact he
 | panic v=>exact hq _ _ _ h2
theorem opwp_does {o:Oper} {next:Act->World->Prop} {r:Out} {w':World} (h:Does P (execOp a.eval o) w r w') (hk:outK P o a next Q r w'):opwp P o a w next Q:=by
 intro τ d
 refine ⟨r,onT w' τ d,h.go τ d,?_⟩
 have:onT (onT w' τ d) w.tape w.drawn = w':=by rw [<- h.tape,<- h.drawn]; rfl
 rw [this]
 exact hk
theorem wp_ops:∀ (l:List Nat) (a:Act) (w:World),wpOps P ops Q l a w->∀ Z,Ctx.Zs P Z->∀ b k cs,b.kind ≠ .early->(∀ e a' w',Q e a' w'->ArrZ Z b k cs e a' w')->Z (G (b.at a (.inRegion ops l :: k)) cs) w
 | [],a,w,h,Z,hZ,b,k,cs,hb,hk=>(Ctx.cl Z hZ).ctl rfl rfl (fun w=>stepG_region_end) (hk _ _ _ h)
 | i :: rest,a,w,h,Z,hZ,b,k,cs,hb,hk=>by
  unfold wpOps at h
  cases ho:ops[i]? with
  | none=>rw [ho] at h; exact h.elim
  | some o =>
   rw [ho] at h
   simp only at h
   cases hw:Region.wanted o (yielded ops a.tmps) with
   | false =>
    rw [hw] at h
    exact (Ctx.cl Z hZ).ctl rfl rfl (fun w=>stepG_unwanted ho hw) (wp_ops rest _ _ h Z hZ b k cs hb hk)
   | true =>
    rw [hw,if_pos rfl] at h
    have hfin:∀ v,(b.at a (.inRegion ops (i :: rest) :: k)).finish v = b.at (a.put o.dst v) (.inRegion ops rest :: k):=by
     intro v; rw [Frame.finish_at,ho]; rfl
    have hkind:(b.kind == CallKind.early) = false:=by simpa using hb
    refine (Ctx.cl Z hZ).own _ _ rfl fun τ d=>?_
    obtain ⟨r,w',hr,hK⟩:=h τ d
    have fol:∀ g',g'.status = .running->(∀ x x' es,(execOp a.eval o).runT P x #[] = (r.res x',es)->stepG P (Ctx.main P) (G (b.at a (.inRegion ops (i :: rest) :: k)) cs) x = .go g' x' (seen P b.fn es))->Follows P (Ctx.main P) (G (b.at a (.inRegion ops (i :: rest) :: k)) cs) (onT w τ d) g' w':=by
     intro g' hg' hs
     refine ⟨hg',fun ρ x hx=>?_⟩
     obtain ⟨h1,x',es,h2,h3,h4⟩:=hr ρ x hx
     exact ⟨h1,x',_,hs x x' es h2,h3,fun e he=>h4 e (mem_seen he)⟩
    have split:∀ x x' es,(execOp a.eval o).runT P x #[] = (r.res x',es)->(execOp a.eval o).run P x = r.res x'/\(execOp a.eval o).events P x #[] = es:=fun x x' es h=>by
     rw [Sem.runT_eq] at h
     exact Prod.mk.inj h
    cases r with
    | val v =>
     refine ⟨G (b.at (a.put o.dst v) (.inRegion ops rest :: k)) cs,w',w.drawn,fol _ rfl fun x x' es h=>?_,wp_ops rest _ _ hK Z hZ b k cs hb hk⟩
     obtain ⟨h1,h2⟩:=split x x' es h
     rw [stepG_value ho hw hb h1,listed,h2]
    | skip =>
     refine ⟨G (b.at (a.put o.dst undef) (.inRegion ops rest :: k)) cs,w',w.drawn,fol _ rfl fun x x' es h=>?_,wp_ops rest _ _ hK Z hZ b k cs hb hk⟩
     obtain ⟨h1,h2⟩:=split x x' es h
     rw [stepG_none ho hw hb h1,listed,h2]
    | enter f args =>
     refine ⟨G (Frame.enter P f args .normal) (b.at a (.inRegion ops (i :: rest) :: k) :: cs),w',w.drawn,fol _ rfl fun x x' es h=>?_,hK Z hZ _ fun e w'' fr he hf hl=>?_⟩
     ·obtain ⟨h1,h2⟩:=split x x' es h
      rw [stepG_enter ho hw hb h1,listed,h2]
     ·cases e with
      | returned v =>
       refine leave_returned (Ctx.cl Z hZ) hl ?_
       rw [hfin]
       exact wp_ops rest _ _ he Z hZ b k cs hb hk
      | panicked chain =>
       refine leave_panicked (Ctx.cl Z hZ) hl ?_
       rw [Frame.raise_at]
       exact hk _ _ _ he _
      | outgrown=>exact he.elim
    | panic v =>
     refine ⟨G { b.at a (.inRegion ops (i :: rest) :: k) with mode:=.panicking [{ v,recovered:=false }] } cs,w',w.drawn,fol _ rfl fun x x' es h=>?_,hk _ _ _ hK _⟩
     obtain ⟨h1,h2⟩:=split x x' es h
     have h1':(execOp a.eval o).run P x = .halt (.panic v) x':=h1
     rw [stepG_oper ho hw]
     simp [stepG.apply,h1',h2,G,Frame.at,hkind,GStep.after,Frame.raise]
theorem wp_mono {c:Code} (h:cwp P c Q a w) (hq:∀ e a w,Q e a w->Q' e a w):cwp P c Q' a w:=fun Z hZ b k cs hb hk=>h Z hZ b k cs hb fun e a' w' he=>hk e a' w' (hq e a' w' he)
theorem wp_skip (h:Q .normal a w):cwp P .skip Q a w:=fun Z hZ _b _k _cs _hb hk=>(Ctx.cl Z hZ).ctl rfl rfl (fun _=>stepG_skip) (hk _ _ _ h)
theorem wp_exit {id:Nat} (h:Q (.exit id) a w):cwp P (.exit id) Q a w:=fun Z hZ b k cs hb hk=>by
 obtain ⟨k',h1,h2⟩:=hk _ _ _ h
 exact (Ctx.cl Z hZ).ctl rfl rfl (fun _=>stepG_exit h1) h2
theorem wp_ret (h:Q .ret a w):cwp P .ret Q a w:=fun Z hZ _b _k _cs _hb hk=>(Ctx.cl Z hZ).ctl rfl rfl (fun _=>stepG_ret') (hk _ _ _ h _)
theorem wp_seq {x y:Code} (h:cwp P x (Exit.then (cwp P y Q) Q) a w):cwp P (.seq x y) Q a w:=by
 intro Z hZ b k cs hb hk
 refine (Ctx.cl Z hZ).ctl rfl rfl (fun _=>stepG_seq) (h Z hZ b (.code y :: k) cs hb fun e a' w' he=>?_)
 cases e with
 | normal=>exact he Z hZ b k cs hb hk
 | exit id=>exact (hk _ _ _ he).push rfl (by simp)
 | goto l=>exact (hk _ _ _ he).push rfl (by simp)
 | ret=>exact (hk _ _ _ he).push rfl (by simp)
 | panic ch=>exact (hk _ _ _ he).push rfl (by simp)
 | outgrown=>exact (hk _ _ _ he).push rfl (by simp)
theorem wp_cond {c:Operand} {x y:Code} {t:Bool} (hc:a.eval c = .bool t) (h:cwp P (if t then x else y) Q a w):cwp P (.cond c x y) Q a w :=
 fun Z hZ b k cs hb hk=>(Ctx.cl Z hZ).ctl rfl rfl (fun _=>stepG_cond hc) (h Z hZ b k cs hb hk)
theorem wp_cond_true {c:Operand} {x y:Code} (hc:a.eval c = .bool true) (h:cwp P x Q a w):cwp P (.cond c x y) Q a w:=wp_cond hc h
theorem wp_cond_false {c:Operand} {x y:Code} (hc:a.eval c = .bool false) (h:cwp P y Q a w):cwp P (.cond c x y) Q a w:=wp_cond hc h
theorem wp_block {id:Nat} {c:Code} (h:cwp P c (Exit.inBlock id Q) a w):cwp P (.block id c) Q a w:=by
 intro Z hZ b k cs hb hk
 refine (Ctx.cl Z hZ).ctl rfl rfl (fun _=>stepG_block) (h Z hZ b (.inBlock id :: k) cs hb fun e a' w' he=>?_)
 cases e with
 | normal=>exact (Ctx.cl Z hZ).ctl rfl rfl (fun _=>stepG_inBlock) (hk _ _ _ he)
 | exit id' =>
  by_cases hid:id' = id
  ·simp only [Exit.inBlock,hid,if_true] at he
   exact ⟨k,by simp [exitTo,hid],hk _ _ _ he⟩
  ·simp only [Exit.inBlock,hid,if_false] at he
   obtain ⟨k',h1,h2⟩:=hk _ _ _ he
   have:(id == id') = false:=by simp; exact fun h=>hid h.symm
   exact ⟨k',by simp [exitTo,this,h1],h2⟩
 | goto l =>
  obtain ⟨k',h1,h2⟩:=hk _ _ _ he
  exact ⟨k',by simp [gotoIn,h1],h2⟩
 | ret=>exact hk _ _ _ he
 | panic ch=>exact hk _ _ _ he
 | outgrown=>exact hk _ _ _ he
theorem wp_loop_ghost {c:Code} (I:Nat->Act->World->Prop) (k₀:Nat) (h₀:I k₀ a w) (round:∀ n a w,I n a w->cwp P c (Exit.then (fun a' w'=>∃ n',n' < n/\I n' a' w') Q) a w):cwp P (.loop c) Q a w:=by
 intro Z hZ b k cs hb hk
 have key:∀ n a w,I n a w->Z (G (b.at a (.code c :: .inLoop c :: k)) cs) w:=by
  intro n
  induction n using Nat.strongRecOn with
  | _ n ih =>
   intro a w hI
   refine round n a w hI Z hZ b (.inLoop c :: k) cs hb fun e a' w' he=>?_
   cases e with
   | normal =>
    obtain ⟨n',hn,hI'⟩:=he
    exact (Ctx.cl Z hZ).ctl rfl rfl (fun _=>stepG_inLoop) (ih n' hn a' w' hI')
   | exit id=>exact (hk _ _ _ he).push rfl (by simp)
   | goto l=>exact (hk _ _ _ he).push rfl (by simp)
   | ret=>exact (hk _ _ _ he).push rfl (by simp)
   | panic ch=>exact (hk _ _ _ he).push rfl (by simp)
   | outgrown=>exact (hk _ _ _ he).push rfl (by simp)
 exact (Ctx.cl Z hZ).ctl rfl rfl (fun _=>stepG_loop) (key k₀ a w h₀)
theorem wpOps_list (pre:List Oper):∀ (l:List Oper) (a:Act) (w:World),wpList P (pre ++ l).toArray Q l a w->wpOps P (pre ++ l).toArray Q ((List.range l.length).map (pre.length + ·)) a w
 | [],_,_,h=>h
 | o :: l,a,w,h=>by
  have h0:(pre ++ o :: l).toArray[pre.length]? = some o:=by simp
  have e:(List.range (o :: l).length).map (pre.length + ·) = pre.length :: (List.range l.length).map ((pre ++ [o]).length + ·):=by
   simp [List.range_succ_eq_map,List.map_map]
   intro x _; omega
  rw [e]
  unfold wpOps
  rw [h0]
  simp only
  unfold wpList at h
  have key:∀ a w,wpList P (pre ++ o :: l).toArray Q l a w->wpOps P (pre ++ o :: l).toArray Q ((List.range l.length).map ((pre ++ [o]).length + ·)) a w:=fun a w hh=>by
   have:=wpOps_list (pre ++ [o]) l a w
   rw [List.append_assoc] at this
   exact this hh
  split
  ·rename_i hw
   rw [if_pos hw] at h
   exact opwp_mono key (fun _ _ _ z=>z) h
  ·rename_i hw
   rw [if_neg hw] at h
   exact key _ _ h
theorem wp_region_lit {id:Nat} {l:List Oper} (h:wpList P l.toArray Q l a w):cwp P (.region id l.toArray false) Q a w:=by
 intro Z hZ b k cs hb hk
 refine (Ctx.cl Z hZ).ctl rfl rfl (fun _=>stepG_region) (wp_ops _ _ _ ?_ Z hZ b k cs hb hk)
 have:=wpOps_list (P:=P) (Q:=Q) [] l a w
 simp only [List.nil_append,List.length_nil,Nat.zero_add,List.map_id'] at this
 simpa using this h
theorem wp_region_draw {id:Nat} (h:∀ t,wpOps P ops Q (Region.schedule (P.follows .mixedOrders) ops t) a { w with drawn:=w.drawn + 1 }):cwp P (.region id ops true) Q a w:=by
 intro Z hZ b k cs hb hk
 refine (Ctx.cl Z hZ).own _ _ rfl fun τ d=>?_
 refine ⟨G (b.at a (.inRegion ops (Region.schedule (P.follows .mixedOrders) ops (τ d (.order b.fn id))) :: k)) cs,{ onT w τ d with drawn:=d + 1 },w.drawn + 1,⟨rfl,fun ρ x hx=>⟨⟨Nat.le_refl _,fun _ o ho=>⟨o,ho,keepsObj.refl o⟩⟩,{ x with drawn:=x.drawn + 1 },#[],?_,?_,fun e he=>by simp at he⟩⟩,wp_ops _ _ _ (h _) Z hZ b k cs hb hk⟩
 ·rw [stepG_region_draw,hx.tape,hx.drawn]; rfl
 ·exact ⟨hx.os,hx.output,hx.tape,by show x.drawn + 1 = d + 1; rw [hx.drawn]; rfl,hx.size,hx.obj,hx.new,hx.noview⟩
def bodyPost (P:Program) [Ctx P] (fn:Func) (R:Ending->World->Prop):Exit->Act->World->Prop
 | .normal,a,w | .ret,a,w=>a.defers = []/\∃ v,ResDoes P fn a.tmps w v/\R (.returned v) w
 | .panic chain,a,w=>a.defers = []/\R (.panicked chain) w
 | _,_,_=>False
theorem calls_of_wp {f:FuncId} {fn:Func} {c:Code} {args:Array Value} {R:Ending->World->Prop} (hf:P.funcs[f]? = some fn) (hb:fn.body = some c)
  (h:cwp P c (bodyPost P fn R) { tmps:=args ++ Array.replicate (fn.ntmps - args.size) undef,defers:=[] } w):Calls P f args w R:=by
 intro Z hZ cs hk
 rw [enter_at args hf hb]
 refine h Z hZ (base f) [] cs (by simp [base]) fun e a' w' he=>?_
 have hret:∀ a' w' todo,(a'.defers = []/\∃ v,ResDoes P fn a'.tmps w' v/\R (.returned v) w')->Z (G { (base f).at a' todo with mode:=.returning } cs) w':=fun a' w' todo ⟨hd,v,hr,hR⟩ =>
  hk _ _ _ hR rfl ⟨rfl,hd,rfl,fn,hf,hr⟩
 cases e with
 | normal=>exact (Ctx.cl Z hZ).ctl rfl rfl (fun _=>stepG_end) (hret a' w' [] he)
 | ret=>exact fun todo=>hret a' w' todo he
 | panic chain=>exact fun todo=>hk _ _ _ he.2 rfl ⟨rfl,he.1,by simp [Frame.catches,Frame.at,base,hf]⟩
 | exit id=>exact he.elim
 | goto l=>exact he.elim
 | outgrown=>exact he.elim
end
end Go.Vy
end
/- The model's operations are tame. -/
section
namespace Go.Yc
open Go
theorem t_pure {α:Type} {P:Program} (a:α):tame P (pure a:Sem α):=trivial
theorem t_bind {α β:Type} {P:Program} {s:Sem α} {f:α->Sem β} (h:tame P s) (hf:∀ a,tame P (f a)):tame P (s >>= f):=tame_bind hf h
theorem t_map {α β:Type} {P:Program} {s:Sem α} {f:α->β} (h:tame P s):tame P (f <$> s):=tame_bind (f:=fun a=>pure (f a)) (fun _=>trivial) h
theorem t_halt {α:Type} {P:Program} (h:Halt):tame P (.halt h:Sem α):=trivial
theorem t_load {P:Program} (a:Addr) (m:Mode):tame P (load a m):=fun _=>trivial
theorem t_store {P:Program} (a:Addr) (v:Value) (m:Mode):tame P (store a v m):=trivial
theorem t_new {P:Program} {o:Obj} (h:isView o = false):tame P (newObj o):=⟨h,fun _=>trivial⟩
theorem t_choose {P:Program} (q:Question):tame P (choose q):=fun _=>trivial
theorem t_program {P:Program}:tame P program:=trivial
theorem t_getObj {P:Program} (r:Nat):tame P (getObj r):=fun _=>trivial
theorem t_stuck {α:Type} {P:Program} (s:String):tame P (stuck s:Sem α):=trivial
theorem t_unsupported {α:Type} {P:Program} (s:Unsupported):tame P (unsupported s:Sem α):=trivial
theorem t_goPanic {α:Type} {P:Program} (v:Value):tame P (goPanic v:Sem α):=trivial
theorem t_askRoom {P:Program} (n:Nat):tame P (askRoom n):=by
 unfold askRoom
 split
 ·show (if mild Mark.noRoom = true then tame P (Sem.pure ()) else dead P (Sem.pure ()))
  exact trivial
 ·trivial
theorem t_mapM {α β:Type} {P:Program} {f:α->Sem β} (hf:∀ a,tame P (f a)):∀ (l:List α),tame P (l.mapM f)
 | []=>by rw [List.mapM_nil]; trivial
 | x :: l=>by
  rw [List.mapM_cons]
  exact t_bind (hf x) fun _=>t_bind (t_mapM hf l) fun _=>trivial
theorem t_mapMA {α β:Type} {P:Program} {f:α->Sem β} (hf:∀ a,tame P (f a)) (l:Array α):tame P (l.mapM f):=by
 rw [Array.mapM_eq_mapM_toList]
 exact t_map (t_mapM hf _)
attribute [local irreducible] tame dead
theorem t_typeInfo {P:Program} (t:TypeId):tame P (typeInfo t):=by
 unfold typeInfo
 repeat' (first | exact t_pure _ | exact t_halt _ | exact t_askRoom _ | exact t_goPanic _ | exact t_unsupported _ | exact t_stuck _ | exact t_getObj _ | exact t_program | exact t_choose _ | exact t_new rfl | exact t_store _ _ _ | exact t_load _ _ | (refine t_bind ?_ (fun _=>?_)) | (refine t_mapMA (fun _=>?_) _) | split | (dsimp only))
theorem t_underlying {P:Program} (t:TypeId):tame P (underlying t):=by
 unfold underlying
 repeat' (first | exact t_pure _ | exact t_halt _ | exact t_typeInfo _ | exact t_askRoom _ | exact t_goPanic _ | exact t_unsupported _ | exact t_stuck _ | exact t_getObj _ | exact t_program | exact t_choose _ | exact t_new rfl | exact t_store _ _ _ | exact t_load _ _ | (refine t_bind ?_ (fun _=>?_)) | (refine t_mapMA (fun _=>?_) _) | split | (dsimp only))
theorem t_typeStr {P:Program} (t:TypeId):tame P (typeStr t):=by
 unfold typeStr
 repeat' (first | exact t_pure _ | exact t_halt _ | exact t_underlying _ | exact t_typeInfo _ | exact t_askRoom _ | exact t_goPanic _ | exact t_unsupported _ | exact t_stuck _ | exact t_getObj _ | exact t_program | exact t_choose _ | exact t_new rfl | exact t_store _ _ _ | exact t_load _ _ | (refine t_bind ?_ (fun _=>?_)) | (refine t_mapMA (fun _=>?_) _) | split | (dsimp only))
theorem t_zeroValue {P:Program} (t:TypeId):tame P (zeroValue t):=by
 unfold zeroValue
 repeat' (first | exact t_pure _ | exact t_halt _ | exact t_typeStr _ | exact t_underlying _ | exact t_typeInfo _ | exact t_askRoom _ | exact t_goPanic _ | exact t_unsupported _ | exact t_stuck _ | exact t_getObj _ | exact t_program | exact t_choose _ | exact t_new rfl | exact t_store _ _ _ | exact t_load _ _ | (refine t_bind ?_ (fun _=>?_)) | (refine t_mapMA (fun _=>?_) _) | split | (dsimp only))
theorem t_sizeOf {P:Program} (t:TypeId):tame P (sizeOf t):=by
 unfold sizeOf
 repeat' (first | exact t_pure _ | exact t_halt _ | exact t_zeroValue _ | exact t_typeStr _ | exact t_underlying _ | exact t_typeInfo _ | exact t_askRoom _ | exact t_goPanic _ | exact t_unsupported _ | exact t_stuck _ | exact t_getObj _ | exact t_program | exact t_choose _ | exact t_new rfl | exact t_store _ _ _ | exact t_load _ _ | (refine t_bind ?_ (fun _=>?_)) | (refine t_mapMA (fun _=>?_) _) | split | (dsimp only))
theorem t_isAgg {P:Program} (t:TypeId):tame P (isAgg t):=by
 unfold isAgg
 repeat' (first | exact t_pure _ | exact t_halt _ | exact t_sizeOf _ | exact t_zeroValue _ | exact t_typeStr _ | exact t_underlying _ | exact t_typeInfo _ | exact t_askRoom _ | exact t_goPanic _ | exact t_unsupported _ | exact t_stuck _ | exact t_getObj _ | exact t_program | exact t_choose _ | exact t_new rfl | exact t_store _ _ _ | exact t_load _ _ | (refine t_bind ?_ (fun _=>?_)) | (refine t_mapMA (fun _=>?_) _) | split | (dsimp only))
theorem t_loadCellsFrom {P:Program} (a:Addr):∀ (n i:Nat) (acc:Array Value),tame P (loadCellsFrom a i n acc)
 | 0,_,_=>by unfold loadCellsFrom; exact t_pure _
 | n + 1,i,acc=>by
  unfold loadCellsFrom
  exact t_bind (t_load _ _) fun _=>t_loadCellsFrom a n _ _
theorem t_loadCells {P:Program} (a:Addr) (n:Nat):tame P (loadCells a n):=by
 unfold loadCells
 repeat' (first | exact t_pure _ | exact t_halt _ | exact t_loadCellsFrom _ _ _ _ | exact t_isAgg _ | exact t_sizeOf _ | exact t_zeroValue _ | exact t_typeStr _ | exact t_underlying _ | exact t_typeInfo _ | exact t_askRoom _ | exact t_goPanic _ | exact t_unsupported _ | exact t_stuck _ | exact t_getObj _ | exact t_program | exact t_choose _ | exact t_new rfl | exact t_store _ _ _ | exact t_load _ _ | (refine t_bind ?_ (fun _=>?_)) | (refine t_mapMA (fun _=>?_) _) | split | (dsimp only))
theorem t_storeCells {P:Program} (a:Addr):∀ (vs:List Value) (i:Nat),tame P (storeCells a vs i)
 | [],_=>by unfold storeCells; exact t_pure _
 | v :: vs,i=>by
  unfold storeCells
  exact t_bind (t_store _ _ _) fun _=>t_storeCells a vs _
theorem t_loadVar {P:Program} (t:TypeId) (a:Addr):tame P (loadVar t a):=by
 unfold loadVar
 repeat' (first | exact t_pure _ | exact t_halt _ | exact t_storeCells _ _ _ | exact t_loadCells _ _ | exact t_loadCellsFrom _ _ _ _ | exact t_isAgg _ | exact t_sizeOf _ | exact t_zeroValue _ | exact t_typeStr _ | exact t_underlying _ | exact t_typeInfo _ | exact t_askRoom _ | exact t_goPanic _ | exact t_unsupported _ | exact t_stuck _ | exact t_getObj _ | exact t_program | exact t_choose _ | exact t_new rfl | exact t_store _ _ _ | exact t_load _ _ | (refine t_bind ?_ (fun _=>?_)) | (refine t_mapMA (fun _=>?_) _) | split | (dsimp only))
theorem t_storeVar {P:Program} (t:TypeId) (a:Addr) (v:Value):tame P (storeVar t a v):=by
 unfold storeVar
 repeat' (first | exact t_pure _ | exact t_halt _ | exact t_loadVar _ _ | exact t_storeCells _ _ _ | exact t_loadCells _ _ | exact t_loadCellsFrom _ _ _ _ | exact t_isAgg _ | exact t_sizeOf _ | exact t_zeroValue _ | exact t_typeStr _ | exact t_underlying _ | exact t_typeInfo _ | exact t_askRoom _ | exact t_goPanic _ | exact t_unsupported _ | exact t_stuck _ | exact t_getObj _ | exact t_program | exact t_choose _ | exact t_new rfl | exact t_store _ _ _ | exact t_load _ _ | (refine t_bind ?_ (fun _=>?_)) | (refine t_mapMA (fun _=>?_) _) | split | (dsimp only))
theorem t_newRow {P:Program} (t:TypeId) (c:Array Value):tame P (newRow t c):=by
 unfold newRow
 repeat' (first | exact t_pure _ | exact t_halt _ | exact t_storeVar _ _ _ | exact t_loadVar _ _ | exact t_storeCells _ _ _ | exact t_loadCells _ _ | exact t_loadCellsFrom _ _ _ _ | exact t_isAgg _ | exact t_sizeOf _ | exact t_zeroValue _ | exact t_typeStr _ | exact t_underlying _ | exact t_typeInfo _ | exact t_askRoom _ | exact t_goPanic _ | exact t_unsupported _ | exact t_stuck _ | exact t_getObj _ | exact t_program | exact t_choose _ | exact t_new rfl | exact t_store _ _ _ | exact t_load _ _ | (refine t_bind ?_ (fun _=>?_)) | (refine t_mapMA (fun _=>?_) _) | split | (dsimp only))
theorem t_newVar {P:Program} (t:TypeId) (v:Value):tame P (newVar t v):=by
 unfold newVar
 repeat' (first | exact t_pure _ | exact t_halt _ | exact t_newRow _ _ | exact t_storeVar _ _ _ | exact t_loadVar _ _ | exact t_storeCells _ _ _ | exact t_loadCells _ _ | exact t_loadCellsFrom _ _ _ _ | exact t_isAgg _ | exact t_sizeOf _ | exact t_zeroValue _ | exact t_typeStr _ | exact t_underlying _ | exact t_typeInfo _ | exact t_askRoom _ | exact t_goPanic _ | exact t_unsupported _ | exact t_stuck _ | exact t_getObj _ | exact t_program | exact t_choose _ | exact t_new rfl | exact t_store _ _ _ | exact t_load _ _ | (refine t_bind ?_ (fun _=>?_)) | (refine t_mapMA (fun _=>?_) _) | split | (dsimp only))
theorem t_elemOf {P:Program} (t:TypeId):tame P (elemOf t):=by
 unfold elemOf
 repeat' (first | exact t_pure _ | exact t_halt _ | exact t_newVar _ _ | exact t_newRow _ _ | exact t_storeVar _ _ _ | exact t_loadVar _ _ | exact t_storeCells _ _ _ | exact t_loadCells _ _ | exact t_loadCellsFrom _ _ _ _ | exact t_isAgg _ | exact t_sizeOf _ | exact t_zeroValue _ | exact t_typeStr _ | exact t_underlying _ | exact t_typeInfo _ | exact t_askRoom _ | exact t_goPanic _ | exact t_unsupported _ | exact t_stuck _ | exact t_getObj _ | exact t_program | exact t_choose _ | exact t_new rfl | exact t_store _ _ _ | exact t_load _ _ | (refine t_bind ?_ (fun _=>?_)) | (refine t_mapMA (fun _=>?_) _) | split | (dsimp only))
theorem t_part {P:Program} (t:TypeId) (c:Array Value) (o:Nat):tame P (part t c o):=by
 unfold part
 repeat' (first | exact t_pure _ | exact t_halt _ | exact t_elemOf _ | exact t_newVar _ _ | exact t_newRow _ _ | exact t_storeVar _ _ _ | exact t_loadVar _ _ | exact t_storeCells _ _ _ | exact t_loadCells _ _ | exact t_loadCellsFrom _ _ _ _ | exact t_isAgg _ | exact t_sizeOf _ | exact t_zeroValue _ | exact t_typeStr _ | exact t_underlying _ | exact t_typeInfo _ | exact t_askRoom _ | exact t_goPanic _ | exact t_unsupported _ | exact t_stuck _ | exact t_getObj _ | exact t_program | exact t_choose _ | exact t_new rfl | exact t_store _ _ _ | exact t_load _ _ | (refine t_bind ?_ (fun _=>?_)) | (refine t_mapMA (fun _=>?_) _) | split | (dsimp only))
theorem t_runtimePanic {α:Type} {P:Program} (e:RuntimeError):tame P (runtimePanic e:Sem α):=by
 unfold runtimePanic
 repeat' (first | exact t_pure _ | exact t_halt _ | exact t_part _ _ _ | exact t_elemOf _ | exact t_newVar _ _ | exact t_newRow _ _ | exact t_storeVar _ _ _ | exact t_loadVar _ _ | exact t_storeCells _ _ _ | exact t_loadCells _ _ | exact t_loadCellsFrom _ _ _ _ | exact t_isAgg _ | exact t_sizeOf _ | exact t_zeroValue _ | exact t_typeStr _ | exact t_underlying _ | exact t_typeInfo _ | exact t_askRoom _ | exact t_goPanic _ | exact t_unsupported _ | exact t_stuck _ | exact t_getObj _ | exact t_program | exact t_choose _ | exact t_new rfl | exact t_store _ _ _ | exact t_load _ _ | (refine t_bind ?_ (fun _=>?_)) | (refine t_mapMA (fun _=>?_) _) | split | (dsimp only))
theorem t_boundsPanic {α:Type} {P:Program} (k:IntKind) (x y:Int) (c:BoundsCode):tame P (boundsPanic k x y c:Sem α):=by
 unfold boundsPanic
 repeat' (first | exact t_pure _ | exact t_halt _ | exact t_map (t_choose _) | exact t_runtimePanic _ | exact t_part _ _ _ | exact t_elemOf _ | exact t_newVar _ _ | exact t_newRow _ _ | exact t_storeVar _ _ _ | exact t_loadVar _ _ | exact t_storeCells _ _ _ | exact t_loadCells _ _ | exact t_loadCellsFrom _ _ _ _ | exact t_isAgg _ | exact t_sizeOf _ | exact t_zeroValue _ | exact t_typeStr _ | exact t_underlying _ | exact t_typeInfo _ | exact t_askRoom _ | exact t_goPanic _ | exact t_unsupported _ | exact t_stuck _ | exact t_getObj _ | exact t_program | exact t_choose _ | exact t_new rfl | exact t_store _ _ _ | exact t_load _ _ | (refine t_bind ?_ (fun _=>?_)) | (refine t_mapMA (fun _=>?_) _) | split | (dsimp only))
theorem t_asIntOf {P:Program} (v:Value):tame P (asIntOf v):=by
 unfold asIntOf
 repeat' (first | exact t_pure _ | exact t_halt _ | exact t_boundsPanic _ _ _ _ | exact t_runtimePanic _ | exact t_part _ _ _ | exact t_elemOf _ | exact t_newVar _ _ | exact t_newRow _ _ | exact t_storeVar _ _ _ | exact t_loadVar _ _ | exact t_storeCells _ _ _ | exact t_loadCells _ _ | exact t_loadCellsFrom _ _ _ _ | exact t_isAgg _ | exact t_sizeOf _ | exact t_zeroValue _ | exact t_typeStr _ | exact t_underlying _ | exact t_typeInfo _ | exact t_askRoom _ | exact t_goPanic _ | exact t_unsupported _ | exact t_stuck _ | exact t_getObj _ | exact t_program | exact t_choose _ | exact t_new rfl | exact t_store _ _ _ | exact t_load _ _ | (refine t_bind ?_ (fun _=>?_)) | (refine t_mapMA (fun _=>?_) _) | split | (dsimp only))
theorem t_asInt {P:Program} (v:Value):tame P (asInt v):=by
 unfold asInt
 repeat' (first | exact t_pure _ | exact t_halt _ | exact t_asIntOf _ | exact t_boundsPanic _ _ _ _ | exact t_runtimePanic _ | exact t_part _ _ _ | exact t_elemOf _ | exact t_newVar _ _ | exact t_newRow _ _ | exact t_storeVar _ _ _ | exact t_loadVar _ _ | exact t_storeCells _ _ _ | exact t_loadCells _ _ | exact t_loadCellsFrom _ _ _ _ | exact t_isAgg _ | exact t_sizeOf _ | exact t_zeroValue _ | exact t_typeStr _ | exact t_underlying _ | exact t_typeInfo _ | exact t_askRoom _ | exact t_goPanic _ | exact t_unsupported _ | exact t_stuck _ | exact t_getObj _ | exact t_program | exact t_choose _ | exact t_new rfl | exact t_store _ _ _ | exact t_load _ _ | (refine t_bind ?_ (fun _=>?_)) | (refine t_mapMA (fun _=>?_) _) | split | (dsimp only))
theorem t_asBool {P:Program} (v:Value):tame P (asBool v):=by
 unfold asBool
 repeat' (first | exact t_pure _ | exact t_halt _ | exact t_asInt _ | exact t_asIntOf _ | exact t_boundsPanic _ _ _ _ | exact t_runtimePanic _ | exact t_part _ _ _ | exact t_elemOf _ | exact t_newVar _ _ | exact t_newRow _ _ | exact t_storeVar _ _ _ | exact t_loadVar _ _ | exact t_storeCells _ _ _ | exact t_loadCells _ _ | exact t_loadCellsFrom _ _ _ _ | exact t_isAgg _ | exact t_sizeOf _ | exact t_zeroValue _ | exact t_typeStr _ | exact t_underlying _ | exact t_typeInfo _ | exact t_askRoom _ | exact t_goPanic _ | exact t_unsupported _ | exact t_stuck _ | exact t_getObj _ | exact t_program | exact t_choose _ | exact t_new rfl | exact t_store _ _ _ | exact t_load _ _ | (refine t_bind ?_ (fun _=>?_)) | (refine t_mapMA (fun _=>?_) _) | split | (dsimp only))
theorem t_asString {P:Program} (v:Value):tame P (asString v):=by
 unfold asString
 repeat' (first | exact t_pure _ | exact t_halt _ | exact t_asBool _ | exact t_asInt _ | exact t_asIntOf _ | exact t_boundsPanic _ _ _ _ | exact t_runtimePanic _ | exact t_part _ _ _ | exact t_elemOf _ | exact t_newVar _ _ | exact t_newRow _ _ | exact t_storeVar _ _ _ | exact t_loadVar _ _ | exact t_storeCells _ _ _ | exact t_loadCells _ _ | exact t_loadCellsFrom _ _ _ _ | exact t_isAgg _ | exact t_sizeOf _ | exact t_zeroValue _ | exact t_typeStr _ | exact t_underlying _ | exact t_typeInfo _ | exact t_askRoom _ | exact t_goPanic _ | exact t_unsupported _ | exact t_stuck _ | exact t_getObj _ | exact t_program | exact t_choose _ | exact t_new rfl | exact t_store _ _ _ | exact t_load _ _ | (refine t_bind ?_ (fun _=>?_)) | (refine t_mapMA (fun _=>?_) _) | split | (dsimp only))
theorem t_asAgg {P:Program} (v:Value):tame P (asAgg v):=by
 unfold asAgg
 repeat' (first | exact t_pure _ | exact t_halt _ | exact t_asString _ | exact t_asBool _ | exact t_asInt _ | exact t_asIntOf _ | exact t_boundsPanic _ _ _ _ | exact t_runtimePanic _ | exact t_part _ _ _ | exact t_elemOf _ | exact t_newVar _ _ | exact t_newRow _ _ | exact t_storeVar _ _ _ | exact t_loadVar _ _ | exact t_storeCells _ _ _ | exact t_loadCells _ _ | exact t_loadCellsFrom _ _ _ _ | exact t_isAgg _ | exact t_sizeOf _ | exact t_zeroValue _ | exact t_typeStr _ | exact t_underlying _ | exact t_typeInfo _ | exact t_askRoom _ | exact t_goPanic _ | exact t_unsupported _ | exact t_stuck _ | exact t_getObj _ | exact t_program | exact t_choose _ | exact t_new rfl | exact t_store _ _ _ | exact t_load _ _ | (refine t_bind ?_ (fun _=>?_)) | (refine t_mapMA (fun _=>?_) _) | split | (dsimp only))
theorem t_asAddr {P:Program} (v:Value):tame P (asAddr v):=by
 unfold asAddr
 repeat' (first | exact t_pure _ | exact t_halt _ | exact t_asAgg _ | exact t_asString _ | exact t_asBool _ | exact t_asInt _ | exact t_asIntOf _ | exact t_boundsPanic _ _ _ _ | exact t_runtimePanic _ | exact t_part _ _ _ | exact t_elemOf _ | exact t_newVar _ _ | exact t_newRow _ _ | exact t_storeVar _ _ _ | exact t_loadVar _ _ | exact t_storeCells _ _ _ | exact t_loadCells _ _ | exact t_loadCellsFrom _ _ _ _ | exact t_isAgg _ | exact t_sizeOf _ | exact t_zeroValue _ | exact t_typeStr _ | exact t_underlying _ | exact t_typeInfo _ | exact t_askRoom _ | exact t_goPanic _ | exact t_unsupported _ | exact t_stuck _ | exact t_getObj _ | exact t_program | exact t_choose _ | exact t_new rfl | exact t_store _ _ _ | exact t_load _ _ | (refine t_bind ?_ (fun _=>?_)) | (refine t_mapMA (fun _=>?_) _) | split | (dsimp only))
theorem t_alloc {P:Program} (t:TypeId) (h:Bool) (o:Value):tame P (Instr.alloc t h o):=by
 unfold Instr.alloc
 repeat' (first | exact t_pure _ | exact t_halt _ | exact t_asAddr _ | exact t_asAgg _ | exact t_asString _ | exact t_asBool _ | exact t_asInt _ | exact t_asIntOf _ | exact t_boundsPanic _ _ _ _ | exact t_runtimePanic _ | exact t_part _ _ _ | exact t_elemOf _ | exact t_newVar _ _ | exact t_newRow _ _ | exact t_storeVar _ _ _ | exact t_loadVar _ _ | exact t_storeCells _ _ _ | exact t_loadCells _ _ | exact t_loadCellsFrom _ _ _ _ | exact t_isAgg _ | exact t_sizeOf _ | exact t_zeroValue _ | exact t_typeStr _ | exact t_underlying _ | exact t_typeInfo _ | exact t_askRoom _ | exact t_goPanic _ | exact t_unsupported _ | exact t_stuck _ | exact t_getObj _ | exact t_program | exact t_choose _ | exact t_new rfl | exact t_store _ _ _ | exact t_load _ _ | (refine t_bind ?_ (fun _=>?_)) | (refine t_mapMA (fun _=>?_) _) | split | (dsimp only))
theorem t_box {P:Program} (t:TypeId) (v:Value):tame P (Instr.box t v):=by
 unfold Instr.box
 repeat' (first | exact t_pure _ | exact t_halt _ | exact t_alloc _ _ _ | exact t_asAddr _ | exact t_asAgg _ | exact t_asString _ | exact t_asBool _ | exact t_asInt _ | exact t_asIntOf _ | exact t_boundsPanic _ _ _ _ | exact t_runtimePanic _ | exact t_part _ _ _ | exact t_elemOf _ | exact t_newVar _ _ | exact t_newRow _ _ | exact t_storeVar _ _ _ | exact t_loadVar _ _ | exact t_storeCells _ _ _ | exact t_loadCells _ _ | exact t_loadCellsFrom _ _ _ _ | exact t_isAgg _ | exact t_sizeOf _ | exact t_zeroValue _ | exact t_typeStr _ | exact t_underlying _ | exact t_typeInfo _ | exact t_askRoom _ | exact t_goPanic _ | exact t_unsupported _ | exact t_stuck _ | exact t_getObj _ | exact t_program | exact t_choose _ | exact t_new rfl | exact t_store _ _ _ | exact t_load _ _ | (refine t_bind ?_ (fun _=>?_)) | (refine t_mapMA (fun _=>?_) _) | split | (dsimp only))
theorem t_build {P:Program} (t:TypeId) (p:Array (Nat × Value)):tame P (Instr.build t p):=by
 unfold Instr.build
 repeat' (first | exact t_pure _ | exact t_halt _ | exact t_box _ _ | exact t_alloc _ _ _ | exact t_asAddr _ | exact t_asAgg _ | exact t_asString _ | exact t_asBool _ | exact t_asInt _ | exact t_asIntOf _ | exact t_boundsPanic _ _ _ _ | exact t_runtimePanic _ | exact t_part _ _ _ | exact t_elemOf _ | exact t_newVar _ _ | exact t_newRow _ _ | exact t_storeVar _ _ _ | exact t_loadVar _ _ | exact t_storeCells _ _ _ | exact t_loadCells _ _ | exact t_loadCellsFrom _ _ _ _ | exact t_isAgg _ | exact t_sizeOf _ | exact t_zeroValue _ | exact t_typeStr _ | exact t_underlying _ | exact t_typeInfo _ | exact t_askRoom _ | exact t_goPanic _ | exact t_unsupported _ | exact t_stuck _ | exact t_getObj _ | exact t_program | exact t_choose _ | exact t_new rfl | exact t_store _ _ _ | exact t_load _ _ | (refine t_bind ?_ (fun _=>?_)) | (refine t_mapMA (fun _=>?_) _) | split | (dsimp only))
theorem t_buildSlice {P:Program} (t:TypeId) (n:Nat) (p:Array (Nat × Value)):tame P (Instr.buildSlice t n p):=by
 unfold Instr.buildSlice
 repeat' (first | exact t_pure _ | exact t_halt _ | exact t_build _ _ | exact t_box _ _ | exact t_alloc _ _ _ | exact t_asAddr _ | exact t_asAgg _ | exact t_asString _ | exact t_asBool _ | exact t_asInt _ | exact t_asIntOf _ | exact t_boundsPanic _ _ _ _ | exact t_runtimePanic _ | exact t_part _ _ _ | exact t_elemOf _ | exact t_newVar _ _ | exact t_newRow _ _ | exact t_storeVar _ _ _ | exact t_loadVar _ _ | exact t_storeCells _ _ _ | exact t_loadCells _ _ | exact t_loadCellsFrom _ _ _ _ | exact t_isAgg _ | exact t_sizeOf _ | exact t_zeroValue _ | exact t_typeStr _ | exact t_underlying _ | exact t_typeInfo _ | exact t_askRoom _ | exact t_goPanic _ | exact t_unsupported _ | exact t_stuck _ | exact t_getObj _ | exact t_program | exact t_choose _ | exact t_new rfl | exact t_store _ _ _ | exact t_load _ _ | (refine t_bind ?_ (fun _=>?_)) | (refine t_mapMA (fun _=>?_) _) | split | (dsimp only))
theorem t_sureAddr {P:Program} (v:Value):tame P (Instr.sureAddr v):=by
 unfold Instr.sureAddr
 repeat' (first | exact t_pure _ | exact t_halt _ | exact t_buildSlice _ _ _ | exact t_build _ _ | exact t_box _ _ | exact t_alloc _ _ _ | exact t_asAddr _ | exact t_asAgg _ | exact t_asString _ | exact t_asBool _ | exact t_asInt _ | exact t_asIntOf _ | exact t_boundsPanic _ _ _ _ | exact t_runtimePanic _ | exact t_part _ _ _ | exact t_elemOf _ | exact t_newVar _ _ | exact t_newRow _ _ | exact t_storeVar _ _ _ | exact t_loadVar _ _ | exact t_storeCells _ _ _ | exact t_loadCells _ _ | exact t_loadCellsFrom _ _ _ _ | exact t_isAgg _ | exact t_sizeOf _ | exact t_zeroValue _ | exact t_typeStr _ | exact t_underlying _ | exact t_typeInfo _ | exact t_askRoom _ | exact t_goPanic _ | exact t_unsupported _ | exact t_stuck _ | exact t_getObj _ | exact t_program | exact t_choose _ | exact t_new rfl | exact t_store _ _ _ | exact t_load _ _ | (refine t_bind ?_ (fun _=>?_)) | (refine t_mapMA (fun _=>?_) _) | split | (dsimp only))
theorem t_loadAt {P:Program} (t:TypeId) (v:Value):tame P (Instr.loadAt t v):=by
 unfold Instr.loadAt
 repeat' (first | exact t_pure _ | exact t_halt _ | exact t_sureAddr _ | exact t_buildSlice _ _ _ | exact t_build _ _ | exact t_box _ _ | exact t_alloc _ _ _ | exact t_asAddr _ | exact t_asAgg _ | exact t_asString _ | exact t_asBool _ | exact t_asInt _ | exact t_asIntOf _ | exact t_boundsPanic _ _ _ _ | exact t_runtimePanic _ | exact t_part _ _ _ | exact t_elemOf _ | exact t_newVar _ _ | exact t_newRow _ _ | exact t_storeVar _ _ _ | exact t_loadVar _ _ | exact t_storeCells _ _ _ | exact t_loadCells _ _ | exact t_loadCellsFrom _ _ _ _ | exact t_isAgg _ | exact t_sizeOf _ | exact t_zeroValue _ | exact t_typeStr _ | exact t_underlying _ | exact t_typeInfo _ | exact t_askRoom _ | exact t_goPanic _ | exact t_unsupported _ | exact t_stuck _ | exact t_getObj _ | exact t_program | exact t_choose _ | exact t_new rfl | exact t_store _ _ _ | exact t_load _ _ | (refine t_bind ?_ (fun _=>?_)) | (refine t_mapMA (fun _=>?_) _) | split | (dsimp only))
theorem t_storeAt {P:Program} (t:TypeId) (v x:Value):tame P (Instr.storeAt t v x):=by
 unfold Instr.storeAt
 repeat' (first | exact t_pure _ | exact t_halt _ | exact t_loadAt _ _ | exact t_sureAddr _ | exact t_buildSlice _ _ _ | exact t_build _ _ | exact t_box _ _ | exact t_alloc _ _ _ | exact t_asAddr _ | exact t_asAgg _ | exact t_asString _ | exact t_asBool _ | exact t_asInt _ | exact t_asIntOf _ | exact t_boundsPanic _ _ _ _ | exact t_runtimePanic _ | exact t_part _ _ _ | exact t_elemOf _ | exact t_newVar _ _ | exact t_newRow _ _ | exact t_storeVar _ _ _ | exact t_loadVar _ _ | exact t_storeCells _ _ _ | exact t_loadCells _ _ | exact t_loadCellsFrom _ _ _ _ | exact t_isAgg _ | exact t_sizeOf _ | exact t_zeroValue _ | exact t_typeStr _ | exact t_underlying _ | exact t_typeInfo _ | exact t_askRoom _ | exact t_goPanic _ | exact t_unsupported _ | exact t_stuck _ | exact t_getObj _ | exact t_program | exact t_choose _ | exact t_new rfl | exact t_store _ _ _ | exact t_load _ _ | (refine t_bind ?_ (fun _=>?_)) | (refine t_mapMA (fun _=>?_) _) | split | (dsimp only))
theorem t_indexAt {P:Program} (t:TypeId) (v x:Value):tame P (Instr.indexAt t v x):=by
 unfold Instr.indexAt
 repeat' (first | exact t_pure _ | exact t_halt _ | exact t_storeAt _ _ _ | exact t_loadAt _ _ | exact t_sureAddr _ | exact t_buildSlice _ _ _ | exact t_build _ _ | exact t_box _ _ | exact t_alloc _ _ _ | exact t_asAddr _ | exact t_asAgg _ | exact t_asString _ | exact t_asBool _ | exact t_asInt _ | exact t_asIntOf _ | exact t_boundsPanic _ _ _ _ | exact t_runtimePanic _ | exact t_part _ _ _ | exact t_elemOf _ | exact t_newVar _ _ | exact t_newRow _ _ | exact t_storeVar _ _ _ | exact t_loadVar _ _ | exact t_storeCells _ _ _ | exact t_loadCells _ _ | exact t_loadCellsFrom _ _ _ _ | exact t_isAgg _ | exact t_sizeOf _ | exact t_zeroValue _ | exact t_typeStr _ | exact t_underlying _ | exact t_typeInfo _ | exact t_askRoom _ | exact t_goPanic _ | exact t_unsupported _ | exact t_stuck _ | exact t_getObj _ | exact t_program | exact t_choose _ | exact t_new rfl | exact t_store _ _ _ | exact t_load _ _ | (refine t_bind ?_ (fun _=>?_)) | (refine t_mapMA (fun _=>?_) _) | split | (dsimp only))
theorem t_extract {P:Program} (v:Value) (n:Nat):tame P (Instr.extract v n):=by
 unfold Instr.extract
 repeat' (first | exact t_pure _ | exact t_halt _ | exact t_indexAt _ _ _ | exact t_storeAt _ _ _ | exact t_loadAt _ _ | exact t_sureAddr _ | exact t_buildSlice _ _ _ | exact t_build _ _ | exact t_box _ _ | exact t_alloc _ _ _ | exact t_asAddr _ | exact t_asAgg _ | exact t_asString _ | exact t_asBool _ | exact t_asInt _ | exact t_asIntOf _ | exact t_boundsPanic _ _ _ _ | exact t_runtimePanic _ | exact t_part _ _ _ | exact t_elemOf _ | exact t_newVar _ _ | exact t_newRow _ _ | exact t_storeVar _ _ _ | exact t_loadVar _ _ | exact t_storeCells _ _ _ | exact t_loadCells _ _ | exact t_loadCellsFrom _ _ _ _ | exact t_isAgg _ | exact t_sizeOf _ | exact t_zeroValue _ | exact t_typeStr _ | exact t_underlying _ | exact t_typeInfo _ | exact t_askRoom _ | exact t_goPanic _ | exact t_unsupported _ | exact t_stuck _ | exact t_getObj _ | exact t_program | exact t_choose _ | exact t_new rfl | exact t_store _ _ _ | exact t_load _ _ | (refine t_bind ?_ (fun _=>?_)) | (refine t_mapMA (fun _=>?_) _) | split | (dsimp only))
theorem t_field {P:Program} (t:TypeId) (v:Value) (n:Nat):tame P (Instr.field t v n):=by
 unfold Instr.field
 repeat' (first | exact t_pure _ | exact t_halt _ | exact t_extract _ _ | exact t_indexAt _ _ _ | exact t_storeAt _ _ _ | exact t_loadAt _ _ | exact t_sureAddr _ | exact t_buildSlice _ _ _ | exact t_build _ _ | exact t_box _ _ | exact t_alloc _ _ _ | exact t_asAddr _ | exact t_asAgg _ | exact t_asString _ | exact t_asBool _ | exact t_asInt _ | exact t_asIntOf _ | exact t_boundsPanic _ _ _ _ | exact t_runtimePanic _ | exact t_part _ _ _ | exact t_elemOf _ | exact t_newVar _ _ | exact t_newRow _ _ | exact t_storeVar _ _ _ | exact t_loadVar _ _ | exact t_storeCells _ _ _ | exact t_loadCells _ _ | exact t_loadCellsFrom _ _ _ _ | exact t_isAgg _ | exact t_sizeOf _ | exact t_zeroValue _ | exact t_typeStr _ | exact t_underlying _ | exact t_typeInfo _ | exact t_askRoom _ | exact t_goPanic _ | exact t_unsupported _ | exact t_stuck _ | exact t_getObj _ | exact t_program | exact t_choose _ | exact t_new rfl | exact t_store _ _ _ | exact t_load _ _ | (refine t_bind ?_ (fun _=>?_)) | (refine t_mapMA (fun _=>?_) _) | split | (dsimp only))
theorem t_makeInterface {P:Program} (t:TypeId) (v:Value):tame P (Instr.makeInterface t v):=by
 unfold Instr.makeInterface
 repeat' (first | exact t_pure _ | exact t_halt _ | exact t_field _ _ _ | exact t_extract _ _ | exact t_indexAt _ _ _ | exact t_storeAt _ _ _ | exact t_loadAt _ _ | exact t_sureAddr _ | exact t_buildSlice _ _ _ | exact t_build _ _ | exact t_box _ _ | exact t_alloc _ _ _ | exact t_asAddr _ | exact t_asAgg _ | exact t_asString _ | exact t_asBool _ | exact t_asInt _ | exact t_asIntOf _ | exact t_boundsPanic _ _ _ _ | exact t_runtimePanic _ | exact t_part _ _ _ | exact t_elemOf _ | exact t_newVar _ _ | exact t_newRow _ _ | exact t_storeVar _ _ _ | exact t_loadVar _ _ | exact t_storeCells _ _ _ | exact t_loadCells _ _ | exact t_loadCellsFrom _ _ _ _ | exact t_isAgg _ | exact t_sizeOf _ | exact t_zeroValue _ | exact t_typeStr _ | exact t_underlying _ | exact t_typeInfo _ | exact t_askRoom _ | exact t_goPanic _ | exact t_unsupported _ | exact t_stuck _ | exact t_getObj _ | exact t_program | exact t_choose _ | exact t_new rfl | exact t_store _ _ _ | exact t_load _ _ | (refine t_bind ?_ (fun _=>?_)) | (refine t_mapMA (fun _=>?_) _) | split | (dsimp only))
theorem t_makeSlice {P:Program} (t:TypeId) (a b:Value):tame P (Instr.makeSlice t a b):=by
 unfold Instr.makeSlice
 repeat' (first | exact t_pure _ | exact t_halt _ | exact t_asInt _ | exact t_runtimePanic _ | exact t_newRow _ _ | exact t_sizeOf _ | exact t_zeroValue _ | exact t_underlying _ | exact t_typeInfo _ | exact t_askRoom _ | exact t_stuck _ | exact t_choose _ | (refine t_bind ?_ (fun _=>?_)) | (refine t_mapMA (fun _=>?_) _) | split | (dsimp only))
theorem t_makeChan {P:Program} (t:TypeId) (a:Value):tame P (Instr.makeChan t a):=by
 unfold Instr.makeChan
 repeat' (first | exact t_pure _ | exact t_halt _ | exact t_asInt _ | exact t_runtimePanic _ | exact t_underlying _ | exact t_typeInfo _ | exact t_stuck _ | exact t_new rfl | (refine t_bind ?_ (fun _=>?_)) | (refine t_mapMA (fun _=>?_) _) | split | (dsimp only))
theorem t_sliceBound {P:Program} (x:Value) (y:Nat) (c:BoundsCode):tame P (Instr.sliceBound x y c):=by
 unfold Instr.sliceBound
 repeat' (first | exact t_pure _ | exact t_halt _ | exact t_makeChan _ _ | exact t_makeSlice _ _ _ | exact t_makeInterface _ _ | exact t_field _ _ _ | exact t_extract _ _ | exact t_indexAt _ _ _ | exact t_storeAt _ _ _ | exact t_loadAt _ _ | exact t_sureAddr _ | exact t_buildSlice _ _ _ | exact t_build _ _ | exact t_box _ _ | exact t_alloc _ _ _ | exact t_asAddr _ | exact t_asAgg _ | exact t_asString _ | exact t_asBool _ | exact t_asInt _ | exact t_asIntOf _ | exact t_boundsPanic _ _ _ _ | exact t_runtimePanic _ | exact t_part _ _ _ | exact t_elemOf _ | exact t_newVar _ _ | exact t_newRow _ _ | exact t_storeVar _ _ _ | exact t_loadVar _ _ | exact t_storeCells _ _ _ | exact t_loadCells _ _ | exact t_loadCellsFrom _ _ _ _ | exact t_isAgg _ | exact t_sizeOf _ | exact t_zeroValue _ | exact t_typeStr _ | exact t_underlying _ | exact t_typeInfo _ | exact t_askRoom _ | exact t_goPanic _ | exact t_unsupported _ | exact t_stuck _ | exact t_getObj _ | exact t_program | exact t_choose _ | exact t_new rfl | exact t_store _ _ _ | exact t_load _ _ | (refine t_bind ?_ (fun _=>?_)) | (refine t_mapMA (fun _=>?_) _) | split | (dsimp only))
theorem t_sliceBounds {P:Program} (b:Bool) (l c:Nat) (x y z:Option Value):tame P (Instr.sliceBounds b l c x y z):=by
 unfold Instr.sliceBounds
 repeat' (first | exact t_pure _ | exact t_halt _ | exact t_sliceBound _ _ _ | exact t_makeChan _ _ | exact t_makeSlice _ _ _ | exact t_makeInterface _ _ | exact t_field _ _ _ | exact t_extract _ _ | exact t_indexAt _ _ _ | exact t_storeAt _ _ _ | exact t_loadAt _ _ | exact t_sureAddr _ | exact t_buildSlice _ _ _ | exact t_build _ _ | exact t_box _ _ | exact t_alloc _ _ _ | exact t_asAddr _ | exact t_asAgg _ | exact t_asString _ | exact t_asBool _ | exact t_asInt _ | exact t_asIntOf _ | exact t_boundsPanic _ _ _ _ | exact t_runtimePanic _ | exact t_part _ _ _ | exact t_elemOf _ | exact t_newVar _ _ | exact t_newRow _ _ | exact t_storeVar _ _ _ | exact t_loadVar _ _ | exact t_storeCells _ _ _ | exact t_loadCells _ _ | exact t_loadCellsFrom _ _ _ _ | exact t_isAgg _ | exact t_sizeOf _ | exact t_zeroValue _ | exact t_typeStr _ | exact t_underlying _ | exact t_typeInfo _ | exact t_askRoom _ | exact t_goPanic _ | exact t_unsupported _ | exact t_stuck _ | exact t_getObj _ | exact t_program | exact t_choose _ | exact t_new rfl | exact t_store _ _ _ | exact t_load _ _ | (refine t_bind ?_ (fun _=>?_)) | (refine t_mapMA (fun _=>?_) _) | split | (dsimp only))
theorem t_slice {P:Program} (t:TypeId) (v:Value) (x y z:Option Value):tame P (Instr.slice t v x y z):=by
 unfold Instr.slice
 repeat' (first | exact t_pure _ | exact t_halt _ | exact t_sliceBounds _ _ _ _ _ _ | exact t_sliceBound _ _ _ | exact t_makeChan _ _ | exact t_makeSlice _ _ _ | exact t_makeInterface _ _ | exact t_field _ _ _ | exact t_extract _ _ | exact t_indexAt _ _ _ | exact t_storeAt _ _ _ | exact t_loadAt _ _ | exact t_sureAddr _ | exact t_buildSlice _ _ _ | exact t_build _ _ | exact t_box _ _ | exact t_alloc _ _ _ | exact t_asAddr _ | exact t_asAgg _ | exact t_asString _ | exact t_asBool _ | exact t_asInt _ | exact t_asIntOf _ | exact t_boundsPanic _ _ _ _ | exact t_runtimePanic _ | exact t_part _ _ _ | exact t_elemOf _ | exact t_newVar _ _ | exact t_newRow _ _ | exact t_storeVar _ _ _ | exact t_loadVar _ _ | exact t_storeCells _ _ _ | exact t_loadCells _ _ | exact t_loadCellsFrom _ _ _ _ | exact t_isAgg _ | exact t_sizeOf _ | exact t_zeroValue _ | exact t_typeStr _ | exact t_underlying _ | exact t_typeInfo _ | exact t_askRoom _ | exact t_goPanic _ | exact t_unsupported _ | exact t_stuck _ | exact t_getObj _ | exact t_program | exact t_choose _ | exact t_new rfl | exact t_store _ _ _ | exact t_load _ _ | (refine t_bind ?_ (fun _=>?_)) | (refine t_mapMA (fun _=>?_) _) | split | (dsimp only))
theorem t_sliceAt {P:Program} (t:TypeId) (v:Value) (x y z:Option Value):tame P (Instr.sliceAt t v x y z):=by
 unfold Instr.sliceAt
 repeat' (first | exact t_pure _ | exact t_halt _ | exact t_slice _ _ _ _ _ | exact t_sliceBounds _ _ _ _ _ _ | exact t_sliceBound _ _ _ | exact t_makeChan _ _ | exact t_makeSlice _ _ _ | exact t_makeInterface _ _ | exact t_field _ _ _ | exact t_extract _ _ | exact t_indexAt _ _ _ | exact t_storeAt _ _ _ | exact t_loadAt _ _ | exact t_sureAddr _ | exact t_buildSlice _ _ _ | exact t_build _ _ | exact t_box _ _ | exact t_alloc _ _ _ | exact t_asAddr _ | exact t_asAgg _ | exact t_asString _ | exact t_asBool _ | exact t_asInt _ | exact t_asIntOf _ | exact t_boundsPanic _ _ _ _ | exact t_runtimePanic _ | exact t_part _ _ _ | exact t_elemOf _ | exact t_newVar _ _ | exact t_newRow _ _ | exact t_storeVar _ _ _ | exact t_loadVar _ _ | exact t_storeCells _ _ _ | exact t_loadCells _ _ | exact t_loadCellsFrom _ _ _ _ | exact t_isAgg _ | exact t_sizeOf _ | exact t_zeroValue _ | exact t_typeStr _ | exact t_underlying _ | exact t_typeInfo _ | exact t_askRoom _ | exact t_goPanic _ | exact t_unsupported _ | exact t_stuck _ | exact t_getObj _ | exact t_program | exact t_choose _ | exact t_new rfl | exact t_store _ _ _ | exact t_load _ _ | (refine t_bind ?_ (fun _=>?_)) | (refine t_mapMA (fun _=>?_) _) | split | (dsimp only))
theorem t_intArith {P:Program} (o:BinOp) (k:IntKind) (x y:Int):tame P (Op.intArith o k x y):=by
 unfold Op.intArith
 repeat' (first | exact t_pure _ | exact t_halt _ | exact t_sliceAt _ _ _ _ _ | exact t_slice _ _ _ _ _ | exact t_sliceBounds _ _ _ _ _ _ | exact t_sliceBound _ _ _ | exact t_makeChan _ _ | exact t_makeSlice _ _ _ | exact t_makeInterface _ _ | exact t_field _ _ _ | exact t_extract _ _ | exact t_indexAt _ _ _ | exact t_storeAt _ _ _ | exact t_loadAt _ _ | exact t_sureAddr _ | exact t_buildSlice _ _ _ | exact t_build _ _ | exact t_box _ _ | exact t_alloc _ _ _ | exact t_asAddr _ | exact t_asAgg _ | exact t_asString _ | exact t_asBool _ | exact t_asInt _ | exact t_asIntOf _ | exact t_boundsPanic _ _ _ _ | exact t_runtimePanic _ | exact t_part _ _ _ | exact t_elemOf _ | exact t_newVar _ _ | exact t_newRow _ _ | exact t_storeVar _ _ _ | exact t_loadVar _ _ | exact t_storeCells _ _ _ | exact t_loadCells _ _ | exact t_loadCellsFrom _ _ _ _ | exact t_isAgg _ | exact t_sizeOf _ | exact t_zeroValue _ | exact t_typeStr _ | exact t_underlying _ | exact t_typeInfo _ | exact t_askRoom _ | exact t_goPanic _ | exact t_unsupported _ | exact t_stuck _ | exact t_getObj _ | exact t_program | exact t_choose _ | exact t_new rfl | exact t_store _ _ _ | exact t_load _ _ | (refine t_bind ?_ (fun _=>?_)) | (refine t_mapMA (fun _=>?_) _) | split | (dsimp only))
theorem t_intDiv {P:Program} (o:BinOp) (k:IntKind) (x y:Int):tame P (Op.intDiv o k x y):=by
 unfold Op.intDiv
 repeat' (first | exact t_pure _ | exact t_halt _ | exact t_intArith _ _ _ _ | exact t_sliceAt _ _ _ _ _ | exact t_slice _ _ _ _ _ | exact t_sliceBounds _ _ _ _ _ _ | exact t_sliceBound _ _ _ | exact t_makeChan _ _ | exact t_makeSlice _ _ _ | exact t_makeInterface _ _ | exact t_field _ _ _ | exact t_extract _ _ | exact t_indexAt _ _ _ | exact t_storeAt _ _ _ | exact t_loadAt _ _ | exact t_sureAddr _ | exact t_buildSlice _ _ _ | exact t_build _ _ | exact t_box _ _ | exact t_alloc _ _ _ | exact t_asAddr _ | exact t_asAgg _ | exact t_asString _ | exact t_asBool _ | exact t_asInt _ | exact t_asIntOf _ | exact t_boundsPanic _ _ _ _ | exact t_runtimePanic _ | exact t_part _ _ _ | exact t_elemOf _ | exact t_newVar _ _ | exact t_newRow _ _ | exact t_storeVar _ _ _ | exact t_loadVar _ _ | exact t_storeCells _ _ _ | exact t_loadCells _ _ | exact t_loadCellsFrom _ _ _ _ | exact t_isAgg _ | exact t_sizeOf _ | exact t_zeroValue _ | exact t_typeStr _ | exact t_underlying _ | exact t_typeInfo _ | exact t_askRoom _ | exact t_goPanic _ | exact t_unsupported _ | exact t_stuck _ | exact t_getObj _ | exact t_program | exact t_choose _ | exact t_new rfl | exact t_store _ _ _ | exact t_load _ _ | (refine t_bind ?_ (fun _=>?_)) | (refine t_mapMA (fun _=>?_) _) | split | (dsimp only))
theorem t_intBits {P:Program} (o:BinOp) (k:IntKind) (x y:Int):tame P (Op.intBits o k x y):=by
 unfold Op.intBits
 repeat' (first | exact t_pure _ | exact t_halt _ | exact t_intDiv _ _ _ _ | exact t_intArith _ _ _ _ | exact t_sliceAt _ _ _ _ _ | exact t_slice _ _ _ _ _ | exact t_sliceBounds _ _ _ _ _ _ | exact t_sliceBound _ _ _ | exact t_makeChan _ _ | exact t_makeSlice _ _ _ | exact t_makeInterface _ _ | exact t_field _ _ _ | exact t_extract _ _ | exact t_indexAt _ _ _ | exact t_storeAt _ _ _ | exact t_loadAt _ _ | exact t_sureAddr _ | exact t_buildSlice _ _ _ | exact t_build _ _ | exact t_box _ _ | exact t_alloc _ _ _ | exact t_asAddr _ | exact t_asAgg _ | exact t_asString _ | exact t_asBool _ | exact t_asInt _ | exact t_asIntOf _ | exact t_boundsPanic _ _ _ _ | exact t_runtimePanic _ | exact t_part _ _ _ | exact t_elemOf _ | exact t_newVar _ _ | exact t_newRow _ _ | exact t_storeVar _ _ _ | exact t_loadVar _ _ | exact t_storeCells _ _ _ | exact t_loadCells _ _ | exact t_loadCellsFrom _ _ _ _ | exact t_isAgg _ | exact t_sizeOf _ | exact t_zeroValue _ | exact t_typeStr _ | exact t_underlying _ | exact t_typeInfo _ | exact t_askRoom _ | exact t_goPanic _ | exact t_unsupported _ | exact t_stuck _ | exact t_getObj _ | exact t_program | exact t_choose _ | exact t_new rfl | exact t_store _ _ _ | exact t_load _ _ | (refine t_bind ?_ (fun _=>?_)) | (refine t_mapMA (fun _=>?_) _) | split | (dsimp only))
theorem t_intCmp {P:Program} (o:BinOp) (x y:Int):tame P (Op.intCmp o x y):=by
 unfold Op.intCmp
 repeat' (first | exact t_pure _ | exact t_halt _ | exact t_intBits _ _ _ _ | exact t_intDiv _ _ _ _ | exact t_intArith _ _ _ _ | exact t_sliceAt _ _ _ _ _ | exact t_slice _ _ _ _ _ | exact t_sliceBounds _ _ _ _ _ _ | exact t_sliceBound _ _ _ | exact t_makeChan _ _ | exact t_makeSlice _ _ _ | exact t_makeInterface _ _ | exact t_field _ _ _ | exact t_extract _ _ | exact t_indexAt _ _ _ | exact t_storeAt _ _ _ | exact t_loadAt _ _ | exact t_sureAddr _ | exact t_buildSlice _ _ _ | exact t_build _ _ | exact t_box _ _ | exact t_alloc _ _ _ | exact t_asAddr _ | exact t_asAgg _ | exact t_asString _ | exact t_asBool _ | exact t_asInt _ | exact t_asIntOf _ | exact t_boundsPanic _ _ _ _ | exact t_runtimePanic _ | exact t_part _ _ _ | exact t_elemOf _ | exact t_newVar _ _ | exact t_newRow _ _ | exact t_storeVar _ _ _ | exact t_loadVar _ _ | exact t_storeCells _ _ _ | exact t_loadCells _ _ | exact t_loadCellsFrom _ _ _ _ | exact t_isAgg _ | exact t_sizeOf _ | exact t_zeroValue _ | exact t_typeStr _ | exact t_underlying _ | exact t_typeInfo _ | exact t_askRoom _ | exact t_goPanic _ | exact t_unsupported _ | exact t_stuck _ | exact t_getObj _ | exact t_program | exact t_choose _ | exact t_new rfl | exact t_store _ _ _ | exact t_load _ _ | (refine t_bind ?_ (fun _=>?_)) | (refine t_mapMA (fun _=>?_) _) | split | (dsimp only))
theorem t_shift {P:Program} (o:BinOp) (k:IntKind) (x:Int) (l:IntKind) (y:Int):tame P (Op.shift o k x l y):=by
 unfold Op.shift
 repeat' (first | exact t_pure _ | exact t_halt _ | exact t_intCmp _ _ _ | exact t_intBits _ _ _ _ | exact t_intDiv _ _ _ _ | exact t_intArith _ _ _ _ | exact t_sliceAt _ _ _ _ _ | exact t_slice _ _ _ _ _ | exact t_sliceBounds _ _ _ _ _ _ | exact t_sliceBound _ _ _ | exact t_makeChan _ _ | exact t_makeSlice _ _ _ | exact t_makeInterface _ _ | exact t_field _ _ _ | exact t_extract _ _ | exact t_indexAt _ _ _ | exact t_storeAt _ _ _ | exact t_loadAt _ _ | exact t_sureAddr _ | exact t_buildSlice _ _ _ | exact t_build _ _ | exact t_box _ _ | exact t_alloc _ _ _ | exact t_asAddr _ | exact t_asAgg _ | exact t_asString _ | exact t_asBool _ | exact t_asInt _ | exact t_asIntOf _ | exact t_boundsPanic _ _ _ _ | exact t_runtimePanic _ | exact t_part _ _ _ | exact t_elemOf _ | exact t_newVar _ _ | exact t_newRow _ _ | exact t_storeVar _ _ _ | exact t_loadVar _ _ | exact t_storeCells _ _ _ | exact t_loadCells _ _ | exact t_loadCellsFrom _ _ _ _ | exact t_isAgg _ | exact t_sizeOf _ | exact t_zeroValue _ | exact t_typeStr _ | exact t_underlying _ | exact t_typeInfo _ | exact t_askRoom _ | exact t_goPanic _ | exact t_unsupported _ | exact t_stuck _ | exact t_getObj _ | exact t_program | exact t_choose _ | exact t_new rfl | exact t_store _ _ _ | exact t_load _ _ | (refine t_bind ?_ (fun _=>?_)) | (refine t_mapMA (fun _=>?_) _) | split | (dsimp only))
theorem t_stringOp {P:Program} (o:BinOp) (x y:ByteArray):tame P (Op.stringOp o x y):=by
 unfold Op.stringOp
 repeat' (first | exact t_pure _ | exact t_halt _ | exact t_shift _ _ _ _ _ | exact t_intCmp _ _ _ | exact t_intBits _ _ _ _ | exact t_intDiv _ _ _ _ | exact t_intArith _ _ _ _ | exact t_sliceAt _ _ _ _ _ | exact t_slice _ _ _ _ _ | exact t_sliceBounds _ _ _ _ _ _ | exact t_sliceBound _ _ _ | exact t_makeChan _ _ | exact t_makeSlice _ _ _ | exact t_makeInterface _ _ | exact t_field _ _ _ | exact t_extract _ _ | exact t_indexAt _ _ _ | exact t_storeAt _ _ _ | exact t_loadAt _ _ | exact t_sureAddr _ | exact t_buildSlice _ _ _ | exact t_build _ _ | exact t_box _ _ | exact t_alloc _ _ _ | exact t_asAddr _ | exact t_asAgg _ | exact t_asString _ | exact t_asBool _ | exact t_asInt _ | exact t_asIntOf _ | exact t_boundsPanic _ _ _ _ | exact t_runtimePanic _ | exact t_part _ _ _ | exact t_elemOf _ | exact t_newVar _ _ | exact t_newRow _ _ | exact t_storeVar _ _ _ | exact t_loadVar _ _ | exact t_storeCells _ _ _ | exact t_loadCells _ _ | exact t_loadCellsFrom _ _ _ _ | exact t_isAgg _ | exact t_sizeOf _ | exact t_zeroValue _ | exact t_typeStr _ | exact t_underlying _ | exact t_typeInfo _ | exact t_askRoom _ | exact t_goPanic _ | exact t_unsupported _ | exact t_stuck _ | exact t_getObj _ | exact t_program | exact t_choose _ | exact t_new rfl | exact t_store _ _ _ | exact t_load _ _ | (refine t_bind ?_ (fun _=>?_)) | (refine t_mapMA (fun _=>?_) _) | split | (dsimp only))
theorem t_unary {P:Program} (o:UnOp) (x:Value):tame P (Op.unary o x):=by
 unfold Op.unary
 repeat' (first | exact t_pure _ | exact t_halt _ | exact t_stringOp _ _ _ | exact t_shift _ _ _ _ _ | exact t_intCmp _ _ _ | exact t_intBits _ _ _ _ | exact t_intDiv _ _ _ _ | exact t_intArith _ _ _ _ | exact t_sliceAt _ _ _ _ _ | exact t_slice _ _ _ _ _ | exact t_sliceBounds _ _ _ _ _ _ | exact t_sliceBound _ _ _ | exact t_makeChan _ _ | exact t_makeSlice _ _ _ | exact t_makeInterface _ _ | exact t_field _ _ _ | exact t_extract _ _ | exact t_indexAt _ _ _ | exact t_storeAt _ _ _ | exact t_loadAt _ _ | exact t_sureAddr _ | exact t_buildSlice _ _ _ | exact t_build _ _ | exact t_box _ _ | exact t_alloc _ _ _ | exact t_asAddr _ | exact t_asAgg _ | exact t_asString _ | exact t_asBool _ | exact t_asInt _ | exact t_asIntOf _ | exact t_boundsPanic _ _ _ _ | exact t_runtimePanic _ | exact t_part _ _ _ | exact t_elemOf _ | exact t_newVar _ _ | exact t_newRow _ _ | exact t_storeVar _ _ _ | exact t_loadVar _ _ | exact t_storeCells _ _ _ | exact t_loadCells _ _ | exact t_loadCellsFrom _ _ _ _ | exact t_isAgg _ | exact t_sizeOf _ | exact t_zeroValue _ | exact t_typeStr _ | exact t_underlying _ | exact t_typeInfo _ | exact t_askRoom _ | exact t_goPanic _ | exact t_unsupported _ | exact t_stuck _ | exact t_getObj _ | exact t_program | exact t_choose _ | exact t_new rfl | exact t_store _ _ _ | exact t_load _ _ | (refine t_bind ?_ (fun _=>?_)) | (refine t_mapMA (fun _=>?_) _) | split | (dsimp only))
theorem t_lenOf {P:Program} (x:Value):tame P (Builtin.lenOf x):=by
 unfold Builtin.lenOf
 repeat' (first | exact t_pure _ | exact t_halt _ | exact t_unary _ _ | exact t_stringOp _ _ _ | exact t_shift _ _ _ _ _ | exact t_intCmp _ _ _ | exact t_intBits _ _ _ _ | exact t_intDiv _ _ _ _ | exact t_intArith _ _ _ _ | exact t_sliceAt _ _ _ _ _ | exact t_slice _ _ _ _ _ | exact t_sliceBounds _ _ _ _ _ _ | exact t_sliceBound _ _ _ | exact t_makeChan _ _ | exact t_makeSlice _ _ _ | exact t_makeInterface _ _ | exact t_field _ _ _ | exact t_extract _ _ | exact t_indexAt _ _ _ | exact t_storeAt _ _ _ | exact t_loadAt _ _ | exact t_sureAddr _ | exact t_buildSlice _ _ _ | exact t_build _ _ | exact t_box _ _ | exact t_alloc _ _ _ | exact t_asAddr _ | exact t_asAgg _ | exact t_asString _ | exact t_asBool _ | exact t_asInt _ | exact t_asIntOf _ | exact t_boundsPanic _ _ _ _ | exact t_runtimePanic _ | exact t_part _ _ _ | exact t_elemOf _ | exact t_newVar _ _ | exact t_newRow _ _ | exact t_storeVar _ _ _ | exact t_loadVar _ _ | exact t_storeCells _ _ _ | exact t_loadCells _ _ | exact t_loadCellsFrom _ _ _ _ | exact t_isAgg _ | exact t_sizeOf _ | exact t_zeroValue _ | exact t_typeStr _ | exact t_underlying _ | exact t_typeInfo _ | exact t_askRoom _ | exact t_goPanic _ | exact t_unsupported _ | exact t_stuck _ | exact t_getObj _ | exact t_program | exact t_choose _ | exact t_new rfl | exact t_store _ _ _ | exact t_load _ _ | (refine t_bind ?_ (fun _=>?_)) | (refine t_mapMA (fun _=>?_) _) | split | (dsimp only))
theorem t_firstCells {P:Program} (s n:Nat) (x:Value):tame P (Builtin.firstCells s n x):=by
 unfold Builtin.firstCells
 repeat' (first | exact t_pure _ | exact t_halt _ | exact t_lenOf _ | exact t_unary _ _ | exact t_stringOp _ _ _ | exact t_shift _ _ _ _ _ | exact t_intCmp _ _ _ | exact t_intBits _ _ _ _ | exact t_intDiv _ _ _ _ | exact t_intArith _ _ _ _ | exact t_sliceAt _ _ _ _ _ | exact t_slice _ _ _ _ _ | exact t_sliceBounds _ _ _ _ _ _ | exact t_sliceBound _ _ _ | exact t_makeChan _ _ | exact t_makeSlice _ _ _ | exact t_makeInterface _ _ | exact t_field _ _ _ | exact t_extract _ _ | exact t_indexAt _ _ _ | exact t_storeAt _ _ _ | exact t_loadAt _ _ | exact t_sureAddr _ | exact t_buildSlice _ _ _ | exact t_build _ _ | exact t_box _ _ | exact t_alloc _ _ _ | exact t_asAddr _ | exact t_asAgg _ | exact t_asString _ | exact t_asBool _ | exact t_asInt _ | exact t_asIntOf _ | exact t_boundsPanic _ _ _ _ | exact t_runtimePanic _ | exact t_part _ _ _ | exact t_elemOf _ | exact t_newVar _ _ | exact t_newRow _ _ | exact t_storeVar _ _ _ | exact t_loadVar _ _ | exact t_storeCells _ _ _ | exact t_loadCells _ _ | exact t_loadCellsFrom _ _ _ _ | exact t_isAgg _ | exact t_sizeOf _ | exact t_zeroValue _ | exact t_typeStr _ | exact t_underlying _ | exact t_typeInfo _ | exact t_askRoom _ | exact t_goPanic _ | exact t_unsupported _ | exact t_stuck _ | exact t_getObj _ | exact t_program | exact t_choose _ | exact t_new rfl | exact t_store _ _ _ | exact t_load _ _ | (refine t_bind ?_ (fun _=>?_)) | (refine t_mapMA (fun _=>?_) _) | split | (dsimp only))
theorem t_len {P:Program} (a:Array TypeId) (t:TypeId) (x:Array Value):tame P (Builtin.len_ a t x):=by
 unfold Builtin.len_
 repeat' (first | exact t_pure _ | exact t_halt _ | exact t_firstCells _ _ _ | exact t_lenOf _ | exact t_unary _ _ | exact t_stringOp _ _ _ | exact t_shift _ _ _ _ _ | exact t_intCmp _ _ _ | exact t_intBits _ _ _ _ | exact t_intDiv _ _ _ _ | exact t_intArith _ _ _ _ | exact t_sliceAt _ _ _ _ _ | exact t_slice _ _ _ _ _ | exact t_sliceBounds _ _ _ _ _ _ | exact t_sliceBound _ _ _ | exact t_makeChan _ _ | exact t_makeSlice _ _ _ | exact t_makeInterface _ _ | exact t_field _ _ _ | exact t_extract _ _ | exact t_indexAt _ _ _ | exact t_storeAt _ _ _ | exact t_loadAt _ _ | exact t_sureAddr _ | exact t_buildSlice _ _ _ | exact t_build _ _ | exact t_box _ _ | exact t_alloc _ _ _ | exact t_asAddr _ | exact t_asAgg _ | exact t_asString _ | exact t_asBool _ | exact t_asInt _ | exact t_asIntOf _ | exact t_boundsPanic _ _ _ _ | exact t_runtimePanic _ | exact t_part _ _ _ | exact t_elemOf _ | exact t_newVar _ _ | exact t_newRow _ _ | exact t_storeVar _ _ _ | exact t_loadVar _ _ | exact t_storeCells _ _ _ | exact t_loadCells _ _ | exact t_loadCellsFrom _ _ _ _ | exact t_isAgg _ | exact t_sizeOf _ | exact t_zeroValue _ | exact t_typeStr _ | exact t_underlying _ | exact t_typeInfo _ | exact t_askRoom _ | exact t_goPanic _ | exact t_unsupported _ | exact t_stuck _ | exact t_getObj _ | exact t_program | exact t_choose _ | exact t_new rfl | exact t_store _ _ _ | exact t_load _ _ | (refine t_bind ?_ (fun _=>?_)) | (refine t_mapMA (fun _=>?_) _) | split | (dsimp only))
theorem t_cap {P:Program} (a:Array TypeId) (t:TypeId) (x:Array Value):tame P (Builtin.cap_ a t x):=by
 unfold Builtin.cap_
 repeat' (first | exact t_pure _ | exact t_halt _ | exact t_len _ _ _ | exact t_firstCells _ _ _ | exact t_lenOf _ | exact t_unary _ _ | exact t_stringOp _ _ _ | exact t_shift _ _ _ _ _ | exact t_intCmp _ _ _ | exact t_intBits _ _ _ _ | exact t_intDiv _ _ _ _ | exact t_intArith _ _ _ _ | exact t_sliceAt _ _ _ _ _ | exact t_slice _ _ _ _ _ | exact t_sliceBounds _ _ _ _ _ _ | exact t_sliceBound _ _ _ | exact t_makeChan _ _ | exact t_makeSlice _ _ _ | exact t_makeInterface _ _ | exact t_field _ _ _ | exact t_extract _ _ | exact t_indexAt _ _ _ | exact t_storeAt _ _ _ | exact t_loadAt _ _ | exact t_sureAddr _ | exact t_buildSlice _ _ _ | exact t_build _ _ | exact t_box _ _ | exact t_alloc _ _ _ | exact t_asAddr _ | exact t_asAgg _ | exact t_asString _ | exact t_asBool _ | exact t_asInt _ | exact t_asIntOf _ | exact t_boundsPanic _ _ _ _ | exact t_runtimePanic _ | exact t_part _ _ _ | exact t_elemOf _ | exact t_newVar _ _ | exact t_newRow _ _ | exact t_storeVar _ _ _ | exact t_loadVar _ _ | exact t_storeCells _ _ _ | exact t_loadCells _ _ | exact t_loadCellsFrom _ _ _ _ | exact t_isAgg _ | exact t_sizeOf _ | exact t_zeroValue _ | exact t_typeStr _ | exact t_underlying _ | exact t_typeInfo _ | exact t_askRoom _ | exact t_goPanic _ | exact t_unsupported _ | exact t_stuck _ | exact t_getObj _ | exact t_program | exact t_choose _ | exact t_new rfl | exact t_store _ _ _ | exact t_load _ _ | (refine t_bind ?_ (fun _=>?_)) | (refine t_mapMA (fun _=>?_) _) | split | (dsimp only))
theorem t_copy {P:Program} (a:Array TypeId) (t:TypeId) (x:Array Value):tame P (Builtin.copy_ a t x):=by
 unfold Builtin.copy_
 repeat' (first | exact t_pure _ | exact t_halt _ | exact t_cap _ _ _ | exact t_len _ _ _ | exact t_firstCells _ _ _ | exact t_lenOf _ | exact t_unary _ _ | exact t_stringOp _ _ _ | exact t_shift _ _ _ _ _ | exact t_intCmp _ _ _ | exact t_intBits _ _ _ _ | exact t_intDiv _ _ _ _ | exact t_intArith _ _ _ _ | exact t_sliceAt _ _ _ _ _ | exact t_slice _ _ _ _ _ | exact t_sliceBounds _ _ _ _ _ _ | exact t_sliceBound _ _ _ | exact t_makeChan _ _ | exact t_makeSlice _ _ _ | exact t_makeInterface _ _ | exact t_field _ _ _ | exact t_extract _ _ | exact t_indexAt _ _ _ | exact t_storeAt _ _ _ | exact t_loadAt _ _ | exact t_sureAddr _ | exact t_buildSlice _ _ _ | exact t_build _ _ | exact t_box _ _ | exact t_alloc _ _ _ | exact t_asAddr _ | exact t_asAgg _ | exact t_asString _ | exact t_asBool _ | exact t_asInt _ | exact t_asIntOf _ | exact t_boundsPanic _ _ _ _ | exact t_runtimePanic _ | exact t_part _ _ _ | exact t_elemOf _ | exact t_newVar _ _ | exact t_newRow _ _ | exact t_storeVar _ _ _ | exact t_loadVar _ _ | exact t_storeCells _ _ _ | exact t_loadCells _ _ | exact t_loadCellsFrom _ _ _ _ | exact t_isAgg _ | exact t_sizeOf _ | exact t_zeroValue _ | exact t_typeStr _ | exact t_underlying _ | exact t_typeInfo _ | exact t_askRoom _ | exact t_goPanic _ | exact t_unsupported _ | exact t_stuck _ | exact t_getObj _ | exact t_program | exact t_choose _ | exact t_new rfl | exact t_store _ _ _ | exact t_load _ _ | (refine t_bind ?_ (fun _=>?_)) | (refine t_mapMA (fun _=>?_) _) | split | (dsimp only))
end Go.Yc
end
/- A walk by rules over frames that are functions: what a Go text does is stepped through one operation a rule, no simplifier in between. Nothing here speaks of a program. -/
section
namespace Go.Vc
open Go
abbrev Env:=Nat->Value
def upd (e:Env) (d:Nat) (v:Value):Env:=fun t=>if t = d then v else e t
def updO (e:Env) (d:Option Nat) (v:Value):Env:=match d with | some d=>upd e d v | none=>e
def ev (e:Env) (x:Operand):Value:=match x with
 | .tmp t=>e t
 | .const v=>v
 | .global g=>.pointer (some ⟨g,0,none⟩)
 | .func f=>.func (.func f) #[] #[]
theorem upd_same (e:Env) (d:Nat) (v:Value):upd e d v d = v:=if_pos rfl
theorem upd_ne (e:Env) {d t:Nat} (v:Value) (h:t ≠ d):upd e d v t = e t:=if_neg h
theorem upd_id {e:Env} {t:Nat} {v:Value} (h:e t = v):e = upd e t v:=by
 funext s
 unfold upd
 split
 ·rename_i hs; rw [hs,h]
 ·rfl
structure Rep (n:Nat) (a:Act) (e:Env):Prop where
 size:a.tmps.size = n
 defers:a.defers = []
 get:∀ t,a.tmps.getD t undef = e t
theorem Rep.eval {n:Nat} {a:Act} {e:Env} (h:Rep n a e):a.eval = ev e:=by
 funext x
 cases x <;> simp [Act.eval,ev,h.get]
def dstB (n:Nat) (d:Option Nat):Bool:=match d with | some d=>Nat.blt d n | none=>true
theorem Rep.put {n:Nat} {a:Act} {e:Env} (h:Rep n a e) {d:Option Nat} (hd:dstB n d = true) (v:Value):Rep n (a.put d v) (updO e d v):=by
 cases d with
 | none=>exact h
 | some d =>
  have hd':d < n:=by simpa [dstB,Nat.blt_eq] using hd
  refine ⟨by simp [Act.put,h.size],by simp [Act.put,h.defers],fun t=>?_⟩
  have hg:=h.get t
  simp only [Act.put,updO,upd,Array.getD_eq_getD_getElem?,Array.getElem?_setIfInBounds] at hg ⊢
  by_cases htd:t = d
  ·subst htd; simp [h.size,hd']
  ·simp only [htd,if_false,Ne.symm htd]
   exact hg
def lift (n:Nat) (Q:Exit->Env->World->Prop):Exit->Act->World->Prop:=fun x a w=>∃ e,Rep n a e/\Q x e w
def W (P:Program) (n:Nat) (c:Code) (Q:Exit->Env->World->Prop) (e:Env) (w:World):Prop :=
 ∀ a,Rep n a e->c.wp P (lift n Q) a w
def thenE (next:Env->World->Prop) (Q:Exit->Env->World->Prop):Exit->Env->World->Prop
 | .normal,e,w=>next e w
 | x,e,w=>Q x e w
def inBlockE (id:Nat) (Q:Exit->Env->World->Prop):Exit->Env->World->Prop
 | .exit id',e,w=>if id' = id then Q .normal e w else Q (.exit id') e w
 | x,e,w=>Q x e w
section
variable {P:Program} {n:Nat} {Q Q':Exit->Env->World->Prop} {e:Env} {w:World}
theorem W.seq {x y:Code} (h:W P n x (thenE (W P n y Q) Q) e w):W P n (.seq x y) Q e w:=by
 intro a ha
 refine wp_seq (wp_mono (h a ha) ?_)
 rintro ex a' w' ⟨e',r,q⟩
 cases ex with
 | normal=>exact q a' r
 | exit id=>exact ⟨e',r,q⟩
 | goto l=>exact ⟨e',r,q⟩
 | ret=>exact ⟨e',r,q⟩
 | panic ch=>exact ⟨e',r,q⟩
 | outgrown=>exact ⟨e',r,q⟩
theorem W.skip (h:Q .normal e w):W P n .skip Q e w:=fun _ ha=>wp_skip ⟨e,ha,h⟩
theorem W.exit {id:Nat} (h:Q (.exit id) e w):W P n (.exit id) Q e w:=fun _ ha=>wp_exit ⟨e,ha,h⟩
theorem W.ret (h:Q .ret e w):W P n .ret Q e w:=fun _ ha=>wp_ret ⟨e,ha,h⟩
theorem W.cond {c:Operand} {x y:Code} {b:Bool} (hc:ev e c = .bool b) (ht:b = true->W P n x Q e w) (hf:b = false->W P n y Q e w) :
  W P n (.cond c x y) Q e w:=by
 intro a ha
 have hc':a.eval c = .bool b:=by rw [ha.eval]; exact hc
 cases b
 ·exact wp_cond_false hc' (hf rfl a ha)
 ·exact wp_cond_true hc' (ht rfl a ha)
theorem W.condP {c:Operand} {x y:Code} {p:Prop} [Decidable p] (hc:ev e c = .bool (decide p)) (ht:p->W P n x Q e w) (hf:¬p->W P n y Q e w) :
  W P n (.cond c x y) Q e w :=
 W.cond hc (fun h=>ht (of_decide_eq_true h)) (fun h=>hf (of_decide_eq_false h))
theorem W.condT {c:Operand} {x y:Code} (hc:ev e c = .bool true) (ht:W P n x Q e w):W P n (.cond c x y) Q e w :=
 W.cond hc (fun _=>ht) (fun h=>by cases h)
theorem W.condF {c:Operand} {x y:Code} (hc:ev e c = .bool false) (hf:W P n y Q e w):W P n (.cond c x y) Q e w :=
 W.cond hc (fun h=>by cases h) (fun _=>hf)
theorem W.block {id:Nat} {c:Code} (h:W P n c (inBlockE id Q) e w):W P n (.block id c) Q e w:=by
 intro a ha
 refine wp_block (wp_mono (h a ha) ?_)
 rintro ex a' w' ⟨e',r,q⟩
 cases ex with
 | normal=>exact ⟨e',r,q⟩
 | exit id' =>
  simp only [inBlockE] at q
  simp only [Exit.inBlock]
  split
  ·rename_i h; rw [if_pos h] at q; exact ⟨e',r,q⟩
  ·rename_i h; rw [if_neg h] at q; exact ⟨e',r,q⟩
 | goto l=>exact ⟨e',r,q⟩
 | ret=>exact ⟨e',r,q⟩
 | panic ch=>exact ⟨e',r,q⟩
 | outgrown=>exact ⟨e',r,q⟩
theorem W.loop {c:Code} (I:Nat->Env->World->Prop) (k₀:Nat) (h₀:I k₀ e w)
  (round:∀ k e w,I k e w->W P n c (thenE (fun e' w'=>∃ k',k' < k/\I k' e' w') Q) e w):W P n (.loop c) Q e w:=by
 intro a ha
 refine wp_loop_ghost (fun k a w=>∃ e,Rep n a e/\I k e w) k₀ ⟨e,ha,h₀⟩ ?_
 rintro k a w ⟨e,ha,hI⟩
 refine wp_mono (round k e w hI a ha) ?_
 rintro ex a' w' ⟨e',r,q⟩
 cases ex with
 | normal=>obtain ⟨k',hk,hI'⟩:=q; exact ⟨k',hk,e',r,hI'⟩
 | exit id=>exact ⟨e',r,q⟩
 | goto l=>exact ⟨e',r,q⟩
 | ret=>exact ⟨e',r,q⟩
 | panic ch=>exact ⟨e',r,q⟩
 | outgrown=>exact ⟨e',r,q⟩
def L (P:Program) (n:Nat) (ops:Array Oper) (Q:Exit->Env->World->Prop) (l:List Oper) (e:Env) (w:World):Prop :=
 (∀ o ∈ l,dstB n o.dst = true)->∀ a,Rep n a e->wpList P ops (lift n Q) l a w
def regB (n:Nat) (l:List Oper):Bool:=l.all fun o=>dstB n o.dst
theorem W.region {id:Nat} {l:List Oper} (hB:regB n l = true) (h:L P n l.toArray Q l e w):W P n (.region id l.toArray false) Q e w :=
 fun a ha=>wp_region_lit (h (fun o ho=>List.all_eq_true.1 hB o ho) a ha)
variable {ops:Array Oper} {o:Oper} {rest:List Oper} {w':World} {v:Value}
theorem L.nil (h:Q .normal e w):L P n ops Q [] e w:=fun _ _ ha=>wpList_nil ⟨e,ha,h⟩
def yieldE (ops:Array Oper) (e:Env) (j:Nat):Option Bool :=
 match (ops[j]?).bind (·.dst) with
 | some t=>match e t with | .bool b=>some b | _=>none
 | none=>none
theorem yielded_rep {a:Act} (ha:Rep n a e) (j:Nat):yielded ops a.tmps j = yieldE ops e j:=by
 unfold yielded yieldE
 cases h:(ops[j]?).bind (·.dst) with
 | none=>simp
 | some t =>
  have hg:=ha.get t
  simp only [Option.bind_some,Array.getD_eq_getD_getElem?] at hg ⊢
  cases h2:a.tmps[t]? with
  | none=>rw [h2] at hg; simp only [Option.getD_none] at hg; rw [<- hg]; rfl
  | some u=>rw [h2] at hg; simp only [Option.getD_some] at hg; rw [<- hg]; cases u <;> rfl
theorem wanted_rep {a:Act} (ha:Rep n a e) (o:Oper):Region.wanted o (yielded ops a.tmps) = Region.wanted o (yieldE ops e):=by
 have:yielded ops a.tmps = yieldE ops e:=funext (yielded_rep ha)
 rw [this]
theorem L.val' (hw:Region.wanted o (yieldE ops e) = true) (hr:(execOp (ev e) o).run P w = .ok (.value v) w') (k:L P n ops Q rest (updO e o.dst v) w'):L P n ops Q (o :: rest) e w:=by
 intro hd a ha
 unfold wpList
 rw [wanted_rep ha,if_pos hw]
 refine .inl ?_
 unfold Oper.wp
 rw [ha.eval,hr,Oper.upon_value]
 exact k (fun o' ho'=>hd o' (List.mem_cons_of_mem _ ho')) _ (ha.put (hd o List.mem_cons_self) v)
theorem L.skip' (hw:Region.wanted o (yieldE ops e) = true) (hr:(execOp (ev e) o).run P w = .ok .skip w') (k:L P n ops Q rest (updO e o.dst undef) w'):L P n ops Q (o :: rest) e w:=by
 intro hd a ha
 unfold wpList
 rw [wanted_rep ha,if_pos hw]
 refine .inl ?_
 unfold Oper.wp
 rw [ha.eval,hr,Oper.upon_skip]
 exact k (fun o' ho'=>hd o' (List.mem_cons_of_mem _ ho')) _ (ha.put (hd o List.mem_cons_self) undef)
theorem L.off (hw:Region.wanted o (yieldE ops e) = false) (k:L P n ops Q rest (updO e o.dst undef) w):L P n ops Q (o :: rest) e w:=by
 intro hd a ha
 unfold wpList
 rw [wanted_rep ha,hw]
 exact k (fun o' ho'=>hd o' (List.mem_cons_of_mem _ ho')) _ (ha.put (hd o List.mem_cons_self) undef)
def Ret (R:Value->World->Prop):Ending->World->Prop
 | .returned v,w=>R v w
 | _,_=>False
def C (P:Program) (f:FuncId) (args:Array Value) (w:World) (R:Value->World->Prop):Prop:=Calls P f args w (Ret R)
theorem C.mono {f:FuncId} {args:Array Value} {R R':Value->World->Prop} (h:C P f args w R) (hr:∀ v w,R v w->R' v w):C P f args w R' :=
 Calls.mono h fun e w' he=>by cases e <;> first | exact hr _ _ he | exact he
theorem L.call' {f:FuncId} {args:Array Value} {R:Value->World->Prop} (hw:Region.wanted o (yieldE ops e) = true) (hr:(execOp (ev e) o).run P w = .ok (.enter f args) w)
  (hc:C P f args w R) (k:∀ v w',R v w'->L P n ops Q rest (updO e o.dst v) w'):L P n ops Q (o :: rest) e w:=by
 intro hd a ha
 unfold wpList
 rw [wanted_rep ha,if_pos hw]
 refine .inl ?_
 unfold Oper.wp
 rw [ha.eval,hr,Oper.upon_enter]
 refine Calls.mono hc fun x w' hx=>?_
 cases x with
 | returned v=>exact k v w' hx (fun o' ho'=>hd o' (List.mem_cons_of_mem _ ho')) _ (ha.put (hd o List.mem_cons_self) v)
 | panicked ch=>exact hx.elim
 | outgrown=>exact hx.elim
end
section
variable {P:Program} {n:Nat} {Q:Exit->Env->World->Prop} {e:Env} {w w':World} {ops:Array Oper} {rest:List Oper} {v:Value}
variable {d:Nat} {op:Op} {ty:TypeId} {ps:String} {af:Array Edge}
theorem L.va (hr:(execOp (ev e) ⟨some d,op,ty,ps,af,none⟩).run P w = .ok (.value v) w') (k:L P n ops Q rest (upd e d v) w'):L P n ops Q (⟨some d,op,ty,ps,af,none⟩ :: rest) e w :=
 L.val' rfl hr k
theorem L.st (hr:(execOp (ev e) ⟨none,op,ty,ps,af,none⟩).run P w = .ok .skip w') (k:L P n ops Q rest e w'):L P n ops Q (⟨none,op,ty,ps,af,none⟩ :: rest) e w :=
 L.skip' rfl hr k
theorem L.call {f:FuncId} {args:Array Value} {R:Value->World->Prop} (hr:(execOp (ev e) ⟨some d,op,ty,ps,af,none⟩).run P w = .ok (.enter f args) w)
  (hc:C P f args w R) (k:∀ v w',R v w'->L P n ops Q rest (upd e d v) w'):L P n ops Q (⟨some d,op,ty,ps,af,none⟩ :: rest) e w :=
 L.call' rfl hr hc k
variable {dst:Option Nat} {j:Nat} {want:Bool}
theorem L.on (hw:yieldE ops e j = some want) (k:L P n ops Q (⟨dst,op,ty,ps,af,none⟩ :: rest) e w):L P n ops Q (⟨dst,op,ty,ps,af,some (j,want)⟩ :: rest) e w:=by
 intro hd a ha
 have:=k (fun o ho=>by
  rcases List.mem_cons.1 ho with rfl | ho
  ·exact (hd ⟨dst,op,ty,ps,af,some (j,want)⟩ List.mem_cons_self:dstB n dst = true)
  ·exact hd _ (List.mem_cons_of_mem _ ho)) a ha
 unfold wpList at this ⊢
 rw [wanted_rep ha] at this ⊢
 have h1:Region.wanted ⟨dst,op,ty,ps,af,some (j,want)⟩ (yieldE ops e) = true:=by simp [Region.wanted,hw]
 have h2:Region.wanted ⟨dst,op,ty,ps,af,none⟩ (yieldE ops e) = true:=rfl
 rw [if_pos h1]
 rw [if_pos h2] at this
 exact this
end
def hav (G:List Nat) (f e:Env):Env:=fun t=>if G.contains t then f t else e t
def Agree (G:List Nat) (e' e:Env):Prop:=∀ t,G.contains t = false->e' t = e t
theorem Agree.refl (G:List Nat) (e:Env):Agree G e e:=fun _ _=>rfl
theorem Agree.upd {G:List Nat} {e' e:Env} {d:Nat} {v:Value} (hd:G.contains d = true) (h:Agree G e' e):Agree G (upd e' d v) e:=fun t ht=>by
 have:t ≠ d:=fun h=>by subst h; rw [hd] at ht; cases ht
 rw [upd_ne _ _ this]; exact h t ht
theorem Agree.out {G:List Nat} {e' e:Env} (h:Agree G e' e):∃ f,e' = hav G f e:=⟨e',by
 funext t
 unfold hav
 split
 ·rfl
 ·rename_i ht; exact h t (by simpa using ht)⟩
section
variable {P:Program} {n:Nat} {Q:Exit->Env->World->Prop} {e:Env} {w:World} {ops:Array Oper}
theorem wpList_mono {Q1 Q2:Exit->Act->World->Prop} (hq:∀ x a w,Q1 x a w->Q2 x a w):∀ (l:List Oper) (a:Act) (w:World),wpList P ops Q1 l a w->wpList P ops Q2 l a w
 | [],_,_,h=>hq _ _ _ h
 | o :: l,a,w,h=>by
  unfold wpList at h ⊢
  split
  ·rename_i hw
   rw [if_pos hw] at h
   rcases h with h | ⟨h1,a0,w0,h2⟩
   ·left
    unfold Oper.wp at *
    generalize ((execOp a.eval o).run P w) = r at *
    cases r with
    | ok x w' =>
     cases x <;> simp only [Oper.upon] at h ⊢ <;>
      first
       | exact wpList_mono hq l _ _ h
       | exact h
       | exact Calls.mono h (fun e w'' he=>by cases e <;> first | exact wpList_mono hq l _ _ he | exact hq _ _ _ he | (obtain ⟨a0,w0,h2⟩:=he; exact ⟨a0,w0,hq _ _ _ h2⟩))
       | exact Rows.mono h (fun _ _ he=>wpList_mono hq l _ _ he)
    | halt x w'=>cases x <;> simp only [Oper.upon] at h ⊢ <;> first | exact hq _ _ _ h | exact h
   ·exact .inr ⟨h1,a0,w0,hq _ _ _ h2⟩
  ·rename_i hw
   rw [if_neg hw] at h
   exact wpList_mono hq l _ _ h
theorem wpList_append {Q':Exit->Act->World->Prop}:∀ (l1 l2:List Oper) (a:Act) (w:World),wpList P ops (Exit.then (wpList P ops Q' l2) Q') l1 a w->wpList P ops Q' (l1 ++ l2) a w
 | [],_,_,_,h=>h
 | o :: l1,l2,a,w,h=>by
  show wpList P ops Q' (o :: (l1 ++ l2)) a w
  unfold wpList at h ⊢
  split
  ·rename_i hw
   rw [if_pos hw] at h
   rcases h with h | ⟨h1,h2⟩
   ·left
    unfold Oper.wp at *
    generalize ((execOp a.eval o).run P w) = r at *
    cases r with
    | ok x w' =>
     cases x <;> simp only [Oper.upon] at h ⊢ <;>
      first
       | exact wpList_append l1 l2 _ _ h
       | exact h
       | exact Calls.mono h (fun e w'' he=>by cases e <;> first | exact wpList_append l1 l2 _ _ he | exact he)
       | exact Rows.mono h (fun _ _ he=>wpList_append l1 l2 _ _ he)
    | halt x w'=>cases x <;> simp only [Oper.upon] at h ⊢ <;> exact h
   ·exact .inr ⟨h1,h2⟩
  ·rename_i hw
   rw [if_neg hw] at h
   exact wpList_append l1 l2 _ _ h
theorem L.cut (k:Nat) (R:Env->World->Prop) {l:List Oper} (h1:L P n ops (thenE R Q) (l.take k) e w) (h2:∀ e' w',R e' w'->L P n ops Q (l.drop k) e' w'):L P n ops Q l e w:=by
 intro hd a ha
 rw [<- List.take_append_drop k l] at hd ⊢
 refine wpList_append _ _ _ _ (wpList_mono ?_ _ _ _ (h1 (fun o ho=>hd o (List.mem_append_left _ ho)) a ha))
 rintro x a' w' ⟨e',r,q⟩
 cases x with
 | normal=>exact h2 e' w' q (fun o ho=>hd o (List.mem_append_right _ ho)) a' r
 | exit id=>exact ⟨e',r,q⟩
 | goto l=>exact ⟨e',r,q⟩
 | ret=>exact ⟨e',r,q⟩
 | panic ch=>exact ⟨e',r,q⟩
 | outgrown=>exact ⟨e',r,q⟩
theorem L.meet (k:Nat) (G:List Nat) (d:Nat) (v:Value) {l:List Oper} (h1:L P n ops (thenE (fun e' w'=>w' = w/\e' d = v/\Agree G e' e) Q) (l.take k) e w) (h2:∀ f,L P n ops Q (l.drop k) (upd (hav G f e) d v) w):L P n ops Q l e w:=by
 refine L.cut k _ h1 ?_
 rintro e' w' ⟨rfl,hd,hA⟩
 obtain ⟨f,hf⟩:=hA.out
 rw [upd_id hd,hf]
 exact h2 f
end
end Go.Vc
end
/- A region that leaves its order open: one walk in the order of the text serves every order, where each operation yields one value in every world that may have come about. -/
section
namespace Go.Vc
open Go
def setD (D:Nat->Bool) (i:Nat):Nat->Bool:=fun k=>if k = i then true else D k
def LocRun (P:Program) (J:(Nat->Bool)->World->Prop) (i:Nat) (v:Value) (D:Nat->Bool):Result Next->Prop
 | .ok (.value u) w=>u = v/\J (setD D i) w
 | .ok .skip w=>v = undef/\J (setD D i) w
 | .ok (.enter f args) w=>C P f args w (fun r w'=>r = v/\J (setD D i) w')
 | _=>False
def depsOn (o:Oper) (D:Nat->Bool):Prop:=∀ x ∈ o.after,Region.binds .any x = true->D x.on = true
def Loc (P:Program) (ops:Array Oper) (V:(Nat->Bool)->Prop) (J:(Nat->Bool)->World->Prop) (i:Nat) (o:Oper) (e:Env) (v:Value):Prop :=
 (Region.wanted o (yieldE ops e) = true/\∀ D w,D i = false->(V D/\V (setD D i))->depsOn o D->J D w->LocRun P J i v D ((execOp (ev e) o).run P w)) \/
 (Region.wanted o (yieldE ops e) = false/\v = undef/\∀ D w,D i = false->(V D/\V (setD D i))->depsOn o D->J D w->J (setD D i) w)
def JL (P:Program) (ops:Array Oper) (V:(Nat->Bool)->Prop) (J:(Nat->Bool)->World->Prop) (Q:Env->Prop):Nat->List Oper->Env->Prop
 | _,[],e=>Q e
 | i,o :: rest,e=>∃ v,Loc P ops V J i o e v/\JL P ops V J Q (i + 1) rest (updO e o.dst v)
def ordB (n:Nat) (ops:Array Oper):Bool :=
 (List.range ops.size).all fun i =>
  match ops[i]? with
  | none=>false
  | some o =>
   dstB n o.dst && !(match o.op with | .select ..=>true | _=>false) &&
   (o.after.all fun x=>!Region.binds .any x || Nat.blt x.on i) &&
   (List.range ops.size).all fun j =>
    match ops[j]? with
    | none=>false
    | some p =>
     match p.dst with
     | none=>true
     | some t=>(i == j || o.dst != some t) && (!(o.looksAt ops).contains t || o.after.any fun x=>Region.binds .any x && x.on == j)
structure Ord (n:Nat) (ops:Array Oper):Prop where
 dst:∀ (i:Nat) (o:Oper),ops[i]? = some o->dstB n o.dst = true
 sel:∀ (i:Nat) (o:Oper),ops[i]? = some o->∀ cs b,o.op ≠ .select cs b
 back:∀ (i:Nat) (o:Oper),ops[i]? = some o->∀ x ∈ o.after,Region.binds .any x = true->x.on < i
 one:∀ (i j:Nat) (o p:Oper) (t:Nat),ops[i]? = some o->ops[j]? = some p->o.dst = some t->p.dst = some t->i = j
 look:∀ (i j:Nat) (o p:Oper) (t:Nat),ops[i]? = some o->ops[j]? = some p->p.dst = some t->t ∈ o.looksAt ops->∃ x ∈ o.after,Region.binds .any x = true/\x.on = j
theorem ord_of {n:Nat} {ops:Array Oper} (h:ordB n ops = true):Ord n ops:=by
 unfold ordB at h
 have lt:∀ {i:Nat} {o:Oper},ops[i]? = some o->i < ops.size:=fun h=>(Array.getElem?_eq_some_iff.1 h).1
 have key:∀ (i:Nat) (o:Oper),ops[i]? = some o->(dstB n o.dst = true/\(!(match o.op with | .select ..=>true | _=>false)) = true) /\
   ((o.after.all fun x=>!Region.binds .any x || Nat.blt x.on i) = true)/\∀ (j:Nat) (p:Oper) (t:Nat),ops[j]? = some p->p.dst = some t->(i == j || o.dst != some t) = true/\(!(o.looksAt ops).contains t || o.after.any fun x=>Region.binds .any x && x.on == j) = true:=by
  intro i o ho
  have h1:=List.all_eq_true.1 h i (List.mem_range.2 (lt ho))
  simp only [ho,Bool.and_eq_true] at h1
  refine ⟨h1.1.1,h1.1.2,fun j p t hp ht=>?_⟩
  have h2:=List.all_eq_true.1 h1.2 j (List.mem_range.2 (lt hp))
  simp only [hp,ht,Bool.and_eq_true] at h2
  exact h2
 refine ⟨fun i o ho=>(key i o ho).1.1,fun i o ho cs b he=>?_,fun i o ho x hx hb=>?_,fun i j o p t ho hp h1 h2=>?_,fun i j o p t ho hp ht hl=>?_⟩
 ·have:=(key i o ho).1.2; rw [he] at this; cases this
 ·have:=(key i o ho).2.1
  rw [Array.all_eq_true'] at this
  have:=this x hx
  simp only [hb,Bool.not_true,Bool.false_or,Nat.blt_eq] at this
  exact this
 ·have:=((key i o ho).2.2 j p t hp h2).1
  simp only [h1,bne_self_eq_false,Bool.or_false,beq_iff_eq] at this
  exact this
 ·have:=((key i o ho).2.2 j p t hp ht).2
  have hc:(o.looksAt ops).contains t = true:=by simpa using hl
  rw [hc,Bool.not_true,Bool.false_or] at this
  obtain ⟨x,hx,hb⟩:=Array.any_eq_true'.1 this
  simp only [Bool.and_eq_true,beq_iff_eq] at hb
  exact ⟨x,hx,hb.1,hb.2⟩
section
variable {P:Program} {ops:Array Oper} {V:(Nat->Bool)->Prop} {J:(Nat->Bool)->World->Prop} {n:Nat}
def EE (e:Env) (l:List Oper) (vals:Nat->Value):Nat->Env
 | 0=>e
 | k + 1=>updO (EE e l vals k) ((l[k]?).bind (·.dst)) (vals k)
theorem EE_cons (e:Env) (o:Oper) (l:List Oper) (vals:Nat->Value):∀ k,EE e (o :: l) vals (k + 1) = EE (updO e o.dst (vals 0)) l (fun k=>vals (k + 1)) k
 | 0=>rfl
 | k + 1=>by
  show updO (EE e (o :: l) vals (k + 1)) _ _ = _
  rw [EE_cons e o l vals k]
  rfl
theorem JL.collect {Q:Env->Prop}:∀ (l:List Oper) (i:Nat) (e:Env),JL P ops V J Q i l e ->
  ∃ vals:Nat->Value,(∀ k o,l[k]? = some o->Loc P ops V J (i + k) o (EE e l vals k) (vals k))/\Q (EE e l vals l.length)
 | [],_,_,h=>⟨fun _=>undef,fun k o ho=>by simp at ho,h⟩
 | o :: l,i,e,⟨v,hl,h⟩=>by
  obtain ⟨vals,h1,h2⟩:=JL.collect l (i + 1) _ h
  refine ⟨fun k=>match k with | 0=>v | k + 1=>vals k,?_,?_⟩
  ·intro k p hp
   cases k with
   | zero=>simp at hp; subst hp; exact hl
   | succ k =>
    rw [EE_cons]
    have:=h1 k p (by simpa using hp)
    rw [show i + (k + 1) = i + 1 + k by omega]
    exact this
  ·rw [List.length_cons,EE_cons]; exact h2
theorem EE_miss (e:Env) (l:List Oper) (vals:Nat->Value) (t:Nat):∀ k,(∀ j o,j < k->l[j]? = some o->o.dst ≠ some t)->EE e l vals k t = e t
 | 0,_=>rfl
 | k + 1,h=>by
  have ih:=EE_miss e l vals t k (fun j o hj ho=>h j o (by omega) ho)
  show updO _ _ _ t = _
  cases hk:l[k]? with
  | none=>exact ih
  | some o =>
   simp only [Option.bind_some]
   cases hd:o.dst with
   | none=>exact ih
   | some d =>
    have:t ≠ d:=fun hh=>h k o (by omega) hk (by rw [hd,hh])
    show upd _ _ _ _ = _
    rw [upd_ne _ _ this]; exact ih
theorem EE_hit (e:Env) (l:List Oper) (vals:Nat->Value) (t j:Nat) (o:Oper) (hj:l[j]? = some o) (hd:o.dst = some t) (hone:∀ i p,l[i]? = some p->p.dst = some t->i = j):∀ k,j < k->EE e l vals k t = vals j
 | 0,h=>by omega
 | k + 1,h=>by
  show updO _ _ _ t = _
  by_cases hjk:k = j
  ·subst hjk
   rw [hj]
   simp only [Option.bind_some,hd]
   exact upd_same _ _ _
  ·have ih:=EE_hit e l vals t j o hj hd hone k (by omega)
   cases hk:l[k]? with
   | none=>exact ih
   | some p =>
    simp only [Option.bind_some]
    cases hp:p.dst with
    | none=>exact ih
    | some d =>
     have:t ≠ d:=fun hh=>hjk (hone k p hk (by rw [hp,hh]))
     show upd _ _ _ _ = _
     rw [upd_ne _ _ this]; exact ih
structure Mid (ops:Array Oper) (e0:Env) (vals:Nat->Value) (listed:Array Bool) (e:Env):Prop where
 hit:∀ j o t,ops[j]? = some o->o.dst = some t->listed.getD j false = true->e t = vals j
 miss:∀ t,(∀ j o,ops[j]? = some o->o.dst = some t->listed.getD j false = false)->e t = e0 t
theorem looks_eq (h:Ord n ops) {e0:Env} {vals:Nat->Value} {listed:Array Bool} {e:Env} (hm:Mid ops e0 vals listed e) {i:Nat} {o:Oper} (ho:ops[i]? = some o)
  (hdep:∀ x ∈ o.after,Region.binds .any x = true->listed.getD x.on false = true):∀ t ∈ o.looksAt ops,e t = EE e0 ops.toList vals i t:=by
 intro t ht
 have hl:∀ j:Nat,ops.toList[j]? = ops[j]?:=fun j=>by rw [Array.getElem?_toList]
 by_cases hex:∃ (j:Nat) (p:Oper),ops[j]? = some p/\p.dst = some t
 ·obtain ⟨j,p,hp,hd⟩:=hex
  obtain ⟨x,hx,hb,rfl⟩:=h.look i j o p t ho hp hd ht
  have hji:=h.back i o ho x hx hb
  rw [hm.hit x.on p t hp hd (hdep x hx hb)]
  exact (EE_hit e0 ops.toList vals t x.on p (by rw [hl]; exact hp) hd (fun i' p' hp' hd'=>h.one i' x.on p' p t (by rw [<- hl]; exact hp') hp hd' hd) i hji).symm
 ·have hno:∀ (j:Nat) (p:Oper),ops[j]? = some p->p.dst ≠ some t:=fun j p hp hd=>hex ⟨j,p,hp,hd⟩
  rw [hm.miss t (fun j p hp hd=>absurd hd (hno j p hp))]
  exact (EE_miss e0 ops.toList vals t i (fun j p _ hp=>hno j p (by rw [<- hl]; exact hp))).symm
theorem execOp_looks {e e':Env} {o:Oper} (hs:∀ cs b,o.op ≠ .select cs b) (h:∀ t ∈ o.looksAt ops,e t = e' t):execOp (ev e) o = execOp (ev e') o:=by
 refine execOp_congr o hs fun x hx=>?_
 cases x with
 | tmp t=>exact h t (List.mem_append_left _ (List.mem_filterMap.2 ⟨.tmp t,by simpa using hx,rfl⟩))
 | const v=>rfl
 | global g=>rfl
 | func f=>rfl
theorem wanted_looks {e e':Env} {o:Oper} (h:∀ t ∈ o.looksAt ops,e t = e' t):Region.wanted o (yieldE ops e) = Region.wanted o (yieldE ops e'):=by
 unfold Region.wanted
 cases hg:o.guard with
 | none=>rfl
 | some g =>
  obtain ⟨j,b⟩:=g
  simp only
  have:yieldE ops e j = yieldE ops e' j:=by
   unfold yieldE
   cases hj:(ops[j]?).bind (·.dst) with
   | none=>rfl
   | some t =>
    have:=h t (List.mem_append_right _ (by rw [hg]; simp only [hj]; simp))
    simp only [this]
  rw [this]
theorem ready_all {listed:Array Bool} (h:Ord n ops) (hs:listed.size = ops.size) (hr:Region.ready .any ops listed = []):∀ i,i < ops.size->listed.getD i false = true:=by
 intro i
 induction i using Nat.strongRecOn with
 | _ i ih =>
  intro hi
  cases hl:listed.getD i false with
  | true=>rfl
  | false =>
   exfalso
   have hi':i < listed.size:=by omega
   have hmem:i ∈ Region.ready .any ops listed:=by
    refine mem_ready.2 ⟨?_,ops[i],by simp [hi],fun x hx hb=>?_⟩
    ·simp only [Array.getD_eq_getD_getElem?,hi',Array.getElem?_eq_getElem,Option.getD_some] at hl ⊢; exact hl
    ·have hlt:=h.back i ops[i] (by simp [hi]) x hx hb
     exact ih x.on hlt (by omega)
   rw [hr] at hmem; cases hmem
theorem count_set {l:Array Bool} {i:Nat} (h:l.getD i true = false):(l.setIfInBounds i true).toList.count false + 1 = l.toList.count false:=by
 have hi:i < l.size:=by
  rcases Nat.lt_or_ge i l.size with h' | h'
  ·exact h'
  ·simp [Array.getElem?_eq_none h'] at h
 have hv:l[i] = false:=by simpa [hi] using h
 show List.countP (· == false) _ + 1 = List.countP (· == false) _
 rw [Array.toList_setIfInBounds,List.countP_set (by simpa using hi)]
 have hv':l.toList[i]'(by simpa using hi) = false:=by simpa using hv
 simp only [hv']
 have:0 < l.toList.countP (· == false):=List.countP_pos_iff.2 ⟨false,by rw [<- hv']; exact List.getElem_mem _,rfl⟩
 simp only [beq_self_eq_true,if_true]
 have e2:(if (true == false) = true then 1 else 0) = 0:=rfl
 rw [e2]
 omega
theorem count_zero {l:Array Bool} (h:l.toList.count false = 0):∀ i,i < l.size->l.getD i false = true:=by
 intro i hi
 simp only [Array.getD_eq_getD_getElem?,hi,Array.getElem?_eq_getElem,Option.getD_some]
 cases hv:l[i] with
 | true=>rfl
 | false =>
  exfalso
  have:false ∈ l.toList:=by rw [<- hv]; simp
  have:=List.count_pos_iff.2 this
  omega
theorem setD_eq {l:Array Bool} {i:Nat} (hi:i < l.size):(fun k=>(l.setIfInBounds i true).getD k false) = setD (fun k=>l.getD k false) i:=by
 funext k
 unfold setD
 by_cases hk:k = i
 ·subst hk; simp [hi]
 ·rw [getD_set_ne false (Ne.symm hk),if_neg hk]
theorem Mid.step (h:Ord n ops) {e0:Env} {vals:Nat->Value} {listed:Array Bool} {e:Env} (hm:Mid ops e0 vals listed e) {i:Nat} {o:Oper} (ho:ops[i]? = some o) (hi:i < listed.size) :
  Mid ops e0 vals (listed.setIfInBounds i true) (updO e o.dst (vals i)):=by
 constructor
 ·intro j p t hp ht hl
  by_cases hji:j = i
  ·subst hji
   obtain rfl:p = o:=Option.some.inj (hp.symm.trans ho)
   rw [ht]; exact upd_same _ _ _
  ·rw [getD_set_ne false (Ne.symm hji)] at hl
   have hv:=hm.hit j p t hp ht hl
   cases hd:o.dst with
   | none=>exact hv
   | some d =>
    have:t ≠ d:=fun hh=>hji (h.one j i p o t hp ho ht (by rw [hd,hh]))
    show upd _ _ _ _ = _
    rw [upd_ne _ _ this]; exact hv
 ·intro t hno
  have hv:=hm.miss t (fun j p hp ht=>by
   have:=hno j p hp ht
   by_cases hji:j = i
   ·subst hji; simp [hi] at this
   ·rw [getD_set_ne false (Ne.symm hji)] at this; exact this)
  cases hd:o.dst with
  | none=>exact hv
  | some d =>
   have:t ≠ d:=fun hh=>by
    have:=hno i o ho (by rw [hd,hh])
    simp [hi] at this
   show upd _ _ _ _ = _
   rw [upd_ne _ _ this]; exact hv
inductive Lin (ops:Array Oper):Array Bool->List Nat->Prop
 | nil {listed}:Region.ready .any ops listed = []->Lin ops listed []
 | cons {listed i σ}:i ∈ Region.ready .any ops listed->Lin ops (listed.setIfInBounds i true) σ->Lin ops listed (i :: σ)
theorem lin_go (ops:Array Oper):∀ (fuel t:Nat) (listed:Array Bool),listed.size = ops.size->listed.toList.count false <= fuel->Lin ops listed (Region.linearise.go .any ops fuel t listed []):=by
 intro fuel
 induction fuel with
 | zero =>
  intro t listed hs hc
  have hall:=count_zero (show listed.toList.count false = 0 by omega)
  refine .nil ?_
  cases hr:Region.ready .any ops listed with
  | nil=>rfl
  | cons i r =>
   exfalso
   have hmem:i ∈ Region.ready .any ops listed:=by rw [hr]; exact List.mem_cons_self
   obtain ⟨h1,o,ho,_⟩:=mem_ready.1 hmem
   have hi:i < ops.size:=(Array.getElem?_eq_some_iff.1 ho).1
   have hi':i < listed.size:=by omega
   have:=hall i hi'
   simp only [Array.getD_eq_getD_getElem?,hi',Array.getElem?_eq_getElem,Option.getD_some] at h1 this
   rw [h1] at this; cases this
 | succ fuel ih =>
  intro t listed hs hc
  simp only [Region.linearise.go]
  change Lin ops listed (match (Region.ready .any ops listed)[t % (Region.ready .any ops listed).length]? with
   | some i=>Region.linearise.go .any ops fuel (t / (Region.ready .any ops listed).length) (listed.setIfInBounds i true) [i]
   | none=>[].reverse)
  cases hi:(Region.ready .any ops listed)[t % (Region.ready .any ops listed).length]? with
  | none =>
   have hnil:Region.ready .any ops listed = []:=by
    cases hr:Region.ready .any ops listed with
    | nil=>rfl
    | cons x xs =>
     rw [hr] at hi
     have hlt:t % (x :: xs).length < (x :: xs).length:=Nat.mod_lt _ (by simp)
     simp at hi
     simp at hlt
     omega
   exact .nil hnil
  | some i =>
   simp only []
   rw [linearise_go_acc,List.reverse_singleton,List.singleton_append]
   have hmem:=List.mem_of_getElem? hi
   exact .cons hmem (ih _ _ (by simp [hs]) (by have:=count_set (mem_ready.1 hmem).1; omega))
def Pre (σ:List Nat) (D:Nat->Bool):Prop:=∃ τ ρ,σ = τ ++ ρ/\∀ k,D k = true ↔ k ∈ τ
theorem Pre.chain {σ:List Nat} {D D':Nat->Bool} (h:Pre σ D) (h':Pre σ D'):(∀ k,D k = true->D' k = true)\/(∀ k,D' k = true->D k = true):=by
 obtain ⟨τ,ρ,e1,h1⟩:=h
 obtain ⟨τ',ρ',e2,h2⟩:=h'
 rcases List.append_eq_append_iff.1 (e1.symm.trans e2) with ⟨x,hx,_⟩ | ⟨x,hx,_⟩
 ·left; intro k hk; rw [h2,hx]; exact List.mem_append_left _ ((h1 k).1 hk)
 ·right; intro k hk; rw [h1,hx]; exact List.mem_append_left _ ((h2 k).1 hk)
theorem lin_closed:∀ {listed:Array Bool} {σ:List Nat},Lin ops listed σ->(∀ i o,ops[i]? = some o->listed.getD i false = true->∀ x ∈ o.after,Region.binds .any x = true->listed.getD x.on false = true)->listed.size = ops.size ->
  ∀ (τ ρ:List Nat),σ = τ ++ ρ->∀ i o,ops[i]? = some o->(listed.getD i false = true\/i ∈ τ)->∀ x ∈ o.after,Region.binds .any x = true->(listed.getD x.on false = true\/x.on ∈ τ):=by
 intro listed σ h
 induction h with
 | nil _ =>
  intro hc _ τ ρ hσ i o ho hi x hx hb
  have:τ = []:=(List.append_eq_nil_iff.1 hσ.symm).1
  subst this
  rcases hi with hi | hi
  ·exact .inl (hc i o ho hi x hx hb)
  ·cases hi
 | @cons listed j σ hj _ ih =>
  intro hc hs τ ρ hσ i o ho hi x hx hb
  cases τ with
  | nil =>
   rcases hi with hi | hi
   ·exact .inl (hc i o ho hi x hx hb)
   ·cases hi
  | cons t τ =>
   simp only [List.cons_append,List.cons.injEq] at hσ
   obtain ⟨rfl,hσ⟩:=hσ
   obtain ⟨_,oj,hoj,hdj⟩:=mem_ready.1 hj
   have hjs:j < ops.size:=(Array.getElem?_eq_some_iff.1 hoj).1
   have hc':∀ i o,ops[i]? = some o->(listed.setIfInBounds j true).getD i false = true->∀ x ∈ o.after,Region.binds .any x = true->(listed.setIfInBounds j true).getD x.on false = true:=by
    intro i o ho hi x hx hb
    by_cases hij:j = i
    ·subst hij
     obtain rfl:o = oj:=Option.some.inj (ho.symm.trans hoj)
     exact getD_set_true (hdj x hx hb)
    ·rw [getD_set_ne false hij] at hi
     exact getD_set_true (hc i o ho hi x hx hb)
   have hconv:∀ k,((listed.setIfInBounds j true).getD k false = true\/k ∈ τ) ↔ (listed.getD k false = true\/k ∈ j :: τ):=by
    intro k
    by_cases hk:j = k
    ·subst hk; simp [hs,hjs]
    ·rw [getD_set_ne false hk]; simp [Ne.symm hk]
   exact (hconv _).1 (ih hc' (by simp [hs]) τ ρ hσ i o ho ((hconv _).2 hi) x hx hb)
theorem getD_replicate_false' (m j:Nat):(Array.replicate m false).getD j false = false:=by
 rcases Nat.lt_or_ge j m with h | h <;> simp [h]
end
end Go.Vc
end
