/- What the claim leans on, part 5. The run that is gone through: picks and stops. -/
import Derived.Test.YtfmoeemolgjodaaK4
import Derived.Conc.LeavingOf
import Derived.ProofKit
import Derived.Deep.Slices
import Derived.SizedLaws
import Derived.ChangeKeysEq
set_option linter.unusedVariables false
section
namespace Go.Vy.Sc
open Go Go.Conc Go.Yc Go.RowKit Go.Proofs Go.Proofs.Ytfmoeemolgjodaa
open Go.Vc Go.Wg
attribute [local irreducible] KK
/-- A client that was let go does what it said it would, before it returns from its step. -/
theorem finH_do {Post : Value → World → Prop} {X : Gh} {h : Nat} {H : Hid} {cs : List Frame} {cb : Nat} {df : Value} {me : Goroutine} {u : World} {K : World → Prop} (h0 : (h == 0) = false) (hme : StepMe cs cb df me) (hd : DoOk Try.prog df u K)
    (hk : ∀ u2 fr, Evo u u2 → u2.tape = u.tape → K u2 → fr.fn = 18 → Leaves Try.prog fr u2 (.returned (.tuple #[])) → FinH Try.prog Post X h H (G fr cs) u2) : FinH Try.prog Post X h H (Go.Conc.served me (.bool true)) u := by
  have hcl : Cl Try.prog false (fun g x => Evo u x → x.tape = u.tape → FinH Try.prog Post X h H g x) := ⟨fun g x hr hs he ht => finH_own hr fun τ d => by
    obtain ⟨g', u', d', hF, hz⟩ := hs τ d
    exact ⟨g', u', by rw [h0]; exact hF, fun he' => finH_onT (hz (he.trans ⟨he'.size, he'.obj⟩) ht)⟩⟩
  exact hme.yes (fun g x => Evo u x → x.tape = u.tape → FinH Try.prog Post X h H g x) ⟨hcl, fun g x hz he ht => finH_zs.2 _ _ fun hv => hz hv he ht⟩ u K hd (fun u2 fr h1 h2 h3 he ht => hk u2 fr he ht h1 h2 h3) (Evo.refl u) rfl
section
variable {Y : Sys} {fb : Nat → FuncId} {caps : Nat → Array Value} {fv : Nat → Value} {ba sa : Option Addr} {sn : Nat} {sc : Nat → Int} {Mn : Nat → Option Obj} {w0 : World} {rb0 : Nat}
theorem put_own {Γ : Geo} {i : Nat} {N : Nat → Prop} : (Γ.put i N).pv i = N := by funext b; simp [Geo.put]
/-- What client i may see, nobody leans on. -/
theorem seen_free {q : PR Y} {Γ : Geo} {X : Gh} {R R1 : Rn} {w : World} {ft : Nat → Option (Y.L ⊕ Nat)} {i : Nat} (hF : Fix Y fb q w0 Γ X R w Mn none ft) (hfp : ∀ b, R1.fp b → R.fp b ∨ w.heap.size ≤ b) (hlen : R1.cl.length = R.cl.length) {F : Nat → Prop} (hFf : ∀ b, F b → ¬ R.fp b ∧ ¬ Kept Y Γ R Mn b) (hFs : ∀ b, F b → b < w.heap.size) (b : Nat)
    (hb : R1.fp b ∨ Kept Y (Γ.put i fun _ => False) R1 Mn b) : ¬ (Γ.pv i b ∨ F b) := by
  intro hV
  have hl : b < w.heap.size ∧ ¬ R.fp b := by
    rcases hV with h | h
    · exact ⟨(hF.pv i b h).1, (hF.pv i b h).2.1⟩
    · exact ⟨hFs b h, (hFf b h).1⟩
  rcases hb with hb | hb | ⟨k, hk, hnk, hb⟩ | ⟨j, hb⟩
  · rcases hfp b hb with z | z
    · exact hl.2 z
    · omega
  · rcases hV with h | h
    · exact (hF.pv i b h).2.2.1 hb
    · exact (hFf b h).2 (.inl hb)
  · rw [hlen] at hk
    rcases hV with h | h
    · have := (hF.pv i b h).2.2.2.1 k hk hnk
      rcases hb with hb | hb
      · exact this.1 hb
      · exact this.2 hb
    · exact (hFf b h).2 (.inr (.inl ⟨k, hk, hnk, hb⟩))
  · by_cases hji : j = i
    · subst hji; rw [put_own] at hb; exact hb
    · rw [put_ne hji] at hb
      rcases hV with h | h
      · exact (hF.pv i b h).2.2.2.2 j hji hb
      · exact (hFf b h).2 (.inr (.inr ⟨j, hb⟩))
/-- A client that waits is at its step. -/
theorem Fix.waits {q : PR Y} {Γ : Geo} {X : Gh} {R : Rn} {w : World} {ft : Nat → Option (Y.L ⊕ Nat)} (hF : Fix Y fb q w0 Γ X R w Mn none ft) {i : Nat} {c : CB} (hc : R.cl[i]? = some c) : (c.wt = true ∧ Y.nil i = false ∧ ∃ l, ft i = some (.inl l) ∧ Wt Y fb q w0 Γ X w i c l) ∨ (c.wt = false ∧ ∃ x, ft i = some (.inr x) ∧ (Y.nil i = true ∨ X.seat (Γ.gi i) = none)) := by
  obtain ⟨f, h1, h2⟩ := hF.cl i c hc (by simp)
  rcases h2 with ⟨h3, h4, h5, h6⟩ | ⟨h3, h4⟩
  · exact .inr ⟨h5, 1, by rw [h1, h4], .inl h3⟩
  · cases f with
    | inl l => exact .inl ⟨h4.wt, h3, l, h1, h4⟩
    | inr x => exact .inr ⟨h4.1, x, h1, .inr h4.2.2⟩
/-- What a client that waited leans on. -/
theorem Wt.later (hY : SysOk Y) {q : PR Y} {Γ : Geo} {X : Gh} {R : Rn} {w : World} {i : Nat} {c : CB} {l : Y.L} {F : Nat → Prop} {s : Y.S} {wn : World} {Fn : Nat → Prop} (hpv : ∀ b, Γ.pv i b ↔ b < wn.heap.size ∧ wn.heap[b]? ≠ some nothing ∧ ¬ Fn b) (hkeep : ∀ b, Γ.pv i b → w.heap[b]? = wn.heap[b]?) (hos : wn.os = w0.os) (hout : wn.output = w0.output) (hsz : wn.heap.size ≤ w.heap.size)
    (hinv : Y.Inv s w F) (hFf : ∀ b, F b → ¬ Γ.pv i b) {u : World} (hu : ∀ b, Γ.pv i b ∨ F b → u.heap[b]? = w.heap[b]?) (husz : w.heap.size ≤ u.heap.size) (huos : u.os = w0.os) (huout : u.output = w0.output) (hs : Y.sAt q (gh u 0) = s) {cb : Nat} {top : List Frame} : (Y.cfg fb q w0 i cb top).Later wn Fn u F := by
  refine ⟨Nat.le_trans hsz husz, fun b hb h1 h2 => ?_, ?_, huos.trans hos.symm, huout.trans hout.symm⟩
  · have hp := (hpv b).2 ⟨hb, h1, h2⟩
    exact ⟨(hu b (.inl hp)).trans (hkeep b hp), fun z => hFf b z hp⟩
  · show Y.Inv (Y.sAt q (gh u 0)) u F
    rw [hs]
    exact hY.loc _ w u F hinv fun b hb => hu b (.inr hb)
set_option maxRecDepth 20000 in
/-- A client is picked. -/
theorem pick_ok (hO : RunOk Y fb caps fv ba sa sn sc) {Post : Value → World → Prop} {n : Nat} {X : Gh} {R : Rn} {w : World} {i : Nat} {c : CB} (hJ : J2 Y fb sn sc Mn w0 rb0 n X R w) (hn : n < sn) (hpick : (Y.rds (Y.pn sc n))[pickIx (sc n) (Y.rds (Y.pn sc n)).length]? = some i) (hc : R.cl[i]? = some c) :
    ∃ g z1 me1, g ≠ 0 ∧ X.seat g = some ⟨c.rc, z1, me1⟩ ∧ X.dn = 0 ∧ X.stay 0 = [(⟨R.rb, 7, none⟩, .chan (some R.yb))] ∧ (X.chs R.yb ∧ ∀ i s2, i ≠ g → X.seat i = some s2 → s2.ch ≠ R.yb) ∧
    ∀ w' a nn me0, Rg R.fp w.heap.size w w' w0.heap.size { R with ea := a, ec := nn, evs := R.evs ++ [(i, c.sp)], used := R.used + 1, cl := R.cl.set i { c with picks := c.picks + 1, wt := false } } → (∀ X' R' u v, J2 Y fb sn sc Mn w0 rb0 (n + 1) X' R' u → Fin Try.prog Post X' 0 (Go.Conc.served me0 v) u) → Fin Try.prog Post (X.pass 0 g (some ⟨R.yb, .int .i64 0, me0⟩)) g (Go.Conc.served me1 (.bool true)) w' := by
  obtain ⟨_, ⟨Γ, hM⟩, hT, hwts, hstk⟩ := hJ
  have hF := hM.fix
  obtain ⟨him, hri⟩ := Sys.mem_rds hpick
  have hle : Y.Le (Y.pn sc (n + 1)) (Y.pn sc sn) := le_pn_q (by omega)
  have hle0 : Y.Le (Y.pn sc n) (Y.pn sc sn) := le_pn_q (by omega)
  have hok := Sys.ok_pn (Y := Y) sc n
  have hlp : (Y.pn sc n).ft.length = Y.m := Sys.len_pn sc n
  have hstep : Y.pn sc (n + 1) = Y.turn (Y.pn sc n) i := by
    show Y.step (Y.pn sc n) (sc n) = _
    unfold Sys.step
    rw [hpick]
  have hpnts := (nts_pn_q (Y := Y) (sc := sc) (sn := sn) (n := n + 1) (by omega)).length_le
  generalize hp : Y.pn sc n = p at *
  obtain ⟨l, hl, hrl⟩ : ∃ l, p.ft[i]? = some (.inl l) ∧ Y.rdy i l p.s = true := by
    unfold Sys.isRdy at hri
    cases hx : p.ft[i]? with
    | none => rw [hx] at hri; cases hri
    | some f =>
      cases f with
      | inl l => rw [hx] at hri; exact ⟨l, rfl, hri⟩
      | inr x => rw [hx] at hri; cases hri
  obtain ⟨hwt, hnl, l', hl', hW⟩ : c.wt = true ∧ Y.nil i = false ∧ ∃ l, p.ft[i]? = some (.inl l) ∧ Wt Y fb (Y.pn sc sn) w0 Γ X w i c l := by
    rcases hF.waits hc with h | ⟨_, x, h, _⟩
    · exact h
    · have h : p.ft[i]? = some (.inr x) := h
      rw [hl] at h; cases h
  obtain rfl : l = l' := by rw [hl] at hl'; exact Sum.inl.inj (Option.some.inj hl')
  have htn : Y.turn p i = { p with s := (Y.go i l p.s).s, ft := p.ft.set i (Y.go i l p.s).fate, evs := p.evs ++ [(i, Y.stp i l)], nts := p.nts ++ tell i (p.evs.length + 1) (Y.go i l p.s).nts, outs := p.outs ++ [Y.go i l p.s], who := p.who ++ [some i], used := p.used + 1 } := by
    unfold Sys.turn
    rw [hl]
  have hs : Y.sAt (Y.pn sc sn) p.outs.length = p.s := Sys.s_at hok hle0
  have ho : Y.outAt (Y.pn sc sn) p.outs.length = Y.go i l p.s := Sys.out_at (p' := Y.pn sc (n + 1)) (by rw [hstep, htn]) hle
  obtain ⟨h1, hst, hsp, heb, me, cs, wn, Fn, Rdo, hseat, hme, hrf, hdf, hpv, hkeep, hos, hout, hsz, hdo, hgo, hstop⟩ := hW
  have hgp := (hF.ck i c hc hnl).gpos
  have hg0 : (Γ.gi i == 0) = false := by simp; omega
  refine ⟨Γ.gi i, .bool false, me, by omega, hseat, hF.dn, hF.stay0, ⟨hF.chy, fun j s2 hj hs2 => ?_⟩, fun w' a nn me0 hg hk => ?_⟩
  · by_cases hj0 : j = 0
    · subst hj0; rw [hF.seat0 rfl] at hs2; cases hs2
    · obtain ⟨k, d, h2, h3, _, h4, _⟩ := hF.seats j s2 hj0 hs2
      rw [h4]; exact hF.ry k d h2 h3
  have hil := (List.getElem?_eq_some_iff.1 hc).1
  obtain ⟨F, hinv, hFf⟩ := hM.inv
  have hvis := hO.sys.vis _ _ _ hinv
  have hlt : ∀ b, b < w.heap.size → ¬ R.fp b → w'.heap[b]? = w.heap[b]? := hg.md.block
  have hfix := (hF.away hnl hc (s0 := ⟨R.yb, .int .i64 0, me0⟩)).turn (w' := w') (R' := { R with ea := a, ec := nn, evs := R.evs ++ [(i, c.sp)], used := R.used + 1, cl := R.cl.set i { c with picks := c.picks + 1, wt := false } }) hg.m rfl rfl rfl hg.fp (by simp) (fun j d hd => by
    have hd' : (R.cl.set i { c with picks := c.picks + 1, wt := false })[j]? = some d := hd
    rw [List.getElem?_set] at hd'
    by_cases hj : i = j
    · subst hj
      rw [if_pos rfl, if_pos hil] at hd'
      obtain rfl := Option.some.inj hd'
      exact ⟨c, hc, rfl, rfl, fun z => absurd rfl z⟩
    · rw [if_neg hj] at hd'
      exact ⟨d, hd', rfl, rfl, fun _ => ⟨rfl, rfl⟩⟩) hg.md.size (fun b hb hf _ => .inl (hlt b hb hf)) (fun z => by cases z)
  refine fin_ign _ _ fun nv => ?_
  haveI : DecidablePred fun b => Γ.pv i b ∨ F b := fun _ => Classical.propDecidable _
  refine fin_see (fun b => Γ.pv i b ∨ F b) (finH_onT (τ := tpT w' p.outs.length 0 0) (d := w'.drawn) ?_)
  have hhid := seen_free (i := i) (R1 := { R with ea := a, ec := nn, evs := R.evs ++ [(i, c.sp)], used := R.used + 1, cl := R.cl.set i { c with picks := c.picks + 1, wt := false } }) hF hg.fp (by simp) hFf (fun b hb => (hvis b hb).1)
  have hpk : Y.picks (Y.pn sc sn) i p.outs.length = c.picks + 1 := by
    unfold Sys.picks
    obtain ⟨l', hl'⟩ := hle.who
    have hw := hok.who
    rw [← hl', hstep, htn]
    rw [List.take_append_of_le_length (by simp [hw]), List.take_of_length_le (by simp [hw])]
    rw [hT.picks i c hc]
    simp
  have hrun := Run1.enter (q := Y.pn sc sn) (i := i) (t := p.outs.length) (at_ := p.evs.length + 1) (cb := c.cb) (n0 := p.nts) (R0 := { R with ea := a, ec := nn, evs := R.evs ++ [(i, c.sp)], used := R.used + 1, cl := R.cl.set i { c with picks := c.picks + 1, wt := false } }) (τ := tpT w' p.outs.length 0 0) (d := w'.drawn) (fun b => Γ.pv i b ∨ F b) hfix hhid nv rfl (by show (R.evs ++ [(i, c.sp)]).length = _; rw [hT.evs]; simp)
    ⟨{ c with picks := c.picks + 1, wt := false }, by show (R.cl.set i _)[i]? = _; simp [hil], rfl, .inl ⟨rfl, hst, by
      show R.nts = _
      rw [tp1, hT.nts]; simp [tell], hpk.symm⟩⟩ ⟨R.na, R.nc, R.nts, rfl⟩ hnl ((hlt _ heb.lt (hF.side i hil hnl).2.2.2).trans heb)
  have hpvlt : ∀ b, Γ.pv i b ∨ F b → b < w.heap.size ∧ ¬ R.fp b := fun b hb => by
    rcases hb with h | h
    · exact ⟨(hF.pv i b h).1, (hF.pv i b h).2.1⟩
    · exact ⟨(hvis b h).1, (hFf b h).1⟩
  have hgoes : (Y.cfg fb (Y.pn sc sn) w0 i c.cb (Γ.top i)).Goes wn Fn l (Yc.onT (seeOf (fun b => Γ.pv i b ∨ F b) w') (tpT w' p.outs.length 0 0) w'.drawn) F := by
    refine ⟨Wt.later (u := Yc.onT (seeOf (fun b => Γ.pv i b ∨ F b) w') (tpT w' p.outs.length 0 0) w'.drawn) (q := Y.pn sc sn) (X := X) (R := R) (c := c) (l := l) hO.sys hpv hkeep hos hout hsz hinv (fun b hb z => (hFf b hb).2 (.inr (.inr ⟨i, z⟩))) (fun b hb => ?_) ?_ (hg.md.os.trans (hF.os rfl)) (hg.md.output.trans (hF.output rfl)) hs, rfl, rfl, ?_, ?_⟩
    · show (seeOf (fun b => Γ.pv i b ∨ F b) w').heap[b]? = _
      rw [seeOf_hit (V := fun b => Γ.pv i b ∨ F b) w' hb, hlt b (hpvlt b hb).1 (hpvlt b hb).2]
    · show w.heap.size ≤ (seeOf (fun b => Γ.pv i b ∨ F b) w').heap.size
      rw [seeOf_size]; exact hg.md.size
    · show Y.outAt (Y.pn sc sn) p.outs.length = Y.go i l (Y.sAt (Y.pn sc sn) p.outs.length)
      rw [hs, ho]
    · show Y.rdy i l (Y.sAt (Y.pn sc sn) p.outs.length) = true
      rw [hs]; exact hrl
  refine finH_do hg0 hme (hdo _ F hgoes) fun u2 fr he ht hr hfn hlv => ?_
  refine client_fin (z0 := .int .i64 0) (me0 := me0) (st := false) (cb := c.cb) (Γ := Γ.put i fun _ => False) (Mn := Mn) (ft := fun j => p.ft[j]?) (t := p.outs.length) (at_ := p.evs.length + 1) (n0 := p.nts) (R0 := { R with ea := a, ec := nn, evs := R.evs ++ [(i, c.sp)], used := R.used + 1, cl := R.cl.set i { c with picks := c.picks + 1, wt := false } }) hO.sys pass_seat_h ?_ (fun Γ' X' R' w2 hA => ?_) (hgo _ F u2 hgoes hr ht fr hfn hlv) _ _ (hrun.evo he ht) (fun d hd => ?_)
  · rw [hstep, htn] at hpnts
    have := hO.nts
    rw [ho]
    simp [tell] at hpnts
    omega
  · rcases hA with ⟨_, hM', na, nc, c0, c', hc0, hcp, hR⟩ | ⟨z, _⟩
    · have hc0 : (R.cl.set i { c with picks := c.picks + 1, wt := false })[i]? = some c0 := hc0
      have hc0' : c0.picks = c.picks + 1 := by simp [hil] at hc0; rw [← hc0]
      rw [ho, tie_set (by omega)] at hM'
      refine hk X' R' w2 _ ?_
      subst hR
      refine ⟨by omega, ⟨Γ', by rw [hstep, htn]; exact hM'⟩, ?_, hwts, hstk⟩
      rw [hstep, htn]
      refine ⟨hT.rb, ?_, ?_, ?_, ?_, fun j d hd => ?_, fun j hj => ?_⟩
      · show R.evs ++ [(i, c.sp)] = p.evs ++ [(i, Y.stp i l)]
        rw [hT.evs, hsp]
      · show p.nts ++ tell i (R.evs ++ [(i, c.sp)]).length (Y.outAt (Y.pn sc sn) p.outs.length).nts = p.nts ++ tell i (p.evs.length + 1) (Y.go i l p.s).nts
        rw [hT.evs, ho]; simp
      · show R.used + 1 = p.used + 1
        rw [hT.used]
      · show ((R.cl.set i { c with picks := c.picks + 1, wt := false }).set i c').length = (p.ft.set i _).length
        simp [hT.len]
      · have hd' : ((R.cl.set i { c with picks := c.picks + 1, wt := false }).set i c')[j]? = some d := hd
        show d.picks = (p.who ++ [some i]).count (some j)
        rw [List.getElem?_set] at hd'
        by_cases hji : i = j
        · subst hji
          rw [if_pos rfl, if_pos (by simp [hil])] at hd'
          obtain rfl := Option.some.inj hd'
          rw [hcp, hc0', hT.picks i c hc]
          simp
        · rw [if_neg hji, List.getElem?_set_ne hji] at hd'
          rw [hT.picks j d hd']
          simp [hji]
      · show (endsOf R.ends i (Y.outAt (Y.pn sc sn) p.outs.length).fate)[j]? = some (endOf ((p.ft.set i (Y.go i l p.s).fate)[j]?))
        have h0 := endsOf_at (Y := Y) (f := (Y.go i l p.s).fate) (g := fun j => p.ft[j]?) (i := i) hT.ends (by rw [hF.mem.lend, hF.m]) (by show endOf p.ft[i]? = 0; rw [hl]; rfl) j hj
        rw [ho, h0]
        exact congrArg (fun f : Nat → Option (Y.L ⊕ Nat) => some (endOf (f j))) (tie_set (by omega) (Y.go i l p.s).fate)
    · cases z
  · have hd' : (R.cl.set i { c with picks := c.picks + 1, wt := false })[i]? = some d := hd
    simp [hil] at hd'
    rw [← hd']; exact hst
set_option maxRecDepth 20000 in
/-- A client is stopped. -/
theorem stop_ok (hO : RunOk Y fb caps fv ba sa sn sc) {Post : Value → World → Prop} {X : Gh} {R : Rn} {w : World} {i : Nat} {c : CB} (hJ : JE Y fb sn sc Mn w0 rb0 i X R w) (hc : R.cl[i]? = some c) (hwt : c.wt = true) :
    ∃ g z1 me1, g ≠ 0 ∧ X.seat g = some ⟨c.rc, z1, me1⟩ ∧ X.dn = 0 ∧ X.stay 0 = [(⟨R.rb, 7, none⟩, .chan (some R.yb))] ∧ (X.chs R.yb ∧ ∀ i s2, i ≠ g → X.seat i = some s2 → s2.ch ≠ R.yb) ∧
    ∀ w' me0, Rg R.fp w.heap.size w w' w0.heap.size { R with wts := R.wts.set i c.sp } → (∀ X' R' u v, JE Y fb sn sc Mn w0 rb0 (i + 1) X' R' u ∧ R'.ca = R.ca ∧ R'.cc = R.cc → Fin Try.prog Post X' 0 (Go.Conc.served me0 v) u) → Fin Try.prog Post (X.pass 0 g (some ⟨R.yb, .int .i64 0, me0⟩)) g (Go.Conc.served me1 (.bool false)) w' := by
  obtain ⟨_, ⟨Γ, hM⟩, hT, hwts, hstk⟩ := hJ
  have hF := hM.fix
  have hil := (List.getElem?_eq_some_iff.1 hc).1
  have hlp : (Y.pn sc sn).ft.length = Y.m := Sys.len_pn sc sn
  have him : i < Y.m := by have := hT.len; omega
  have hok := Sys.ok_pn (Y := Y) sc sn
  have hs : Y.sAt (Y.pn sc sn) (Y.pn sc sn).outs.length = (Y.pn sc sn).s := Sys.s_at hok (Sys.Le.refl Y _)
  obtain ⟨hnl, l, hl, hW⟩ : Y.nil i = false ∧ ∃ l, (Y.pn sc sn).ft[i]? = some (.inl l) ∧ Wt Y fb (Y.pn sc sn) w0 Γ X w i c l := by
    rcases hF.waits hc with ⟨_, h1, l, h2, h3⟩ | ⟨h, _⟩
    · exact ⟨h1, l, by simpa using h2, h3⟩
    · rw [hwt] at h; cases h
  generalize hq : Y.pn sc sn = q at *
  obtain ⟨h1, hst, hsp, heb, me, cs, wn, Fn, Rdo, hseat, hme, hrf, hdf, hpv, hkeep, hos, hout, hsz, hdo, hgo, hstop⟩ := hW
  have hgp := (hF.ck i c hc hnl).gpos
  have hg0 : (Γ.gi i == 0) = false := by simp; omega
  refine ⟨Γ.gi i, .bool false, me, by omega, hseat, hF.dn, hF.stay0, ⟨hF.chy, fun j s2 hj hs2 => ?_⟩, fun w' me0 hg hk => ?_⟩
  · by_cases hj0 : j = 0
    · subst hj0; rw [hF.seat0 rfl] at hs2; cases hs2
    · obtain ⟨k, d, h2, h3, _, h4, _⟩ := hF.seats j s2 hj0 hs2
      rw [h4]; exact hF.ry k d h2 h3
  obtain ⟨F, hinv, hFf⟩ := hM.inv
  have hvis := hO.sys.vis _ _ _ hinv
  refine hme.no _ (by have := @fin_zs Try.prog Post (X.pass 0 (Γ.gi i) (some ⟨R.yb, .int .i64 0, me0⟩)) (Γ.gi i); rw [hg0] at this; exact this) w' R.fp w.heap.size w w0.heap.size { R with wts := R.wts.set i c.sp } i c hg hc rfl fun u2 fr ch hg2 hfn hra hlv => ?_
  have hlt : ∀ b, b < w.heap.size → ¬ R.fp b → u2.heap[b]? = w.heap[b]? := hg2.md.block
  have hfix := (hF.away hnl hc (s0 := ⟨R.yb, .int .i64 0, me0⟩)).turn (w' := u2) (R' := { R with wts := R.wts.set i c.sp, cl := R.cl.set i { c with st := true } }) hg2.m rfl rfl rfl hg2.fp (by simp) (fun j d hd => by
    have hd' : (R.cl.set i { c with st := true })[j]? = some d := hd
    rw [List.getElem?_set] at hd'
    by_cases hj : i = j
    · subst hj
      rw [if_pos rfl, if_pos hil] at hd'
      obtain rfl := Option.some.inj hd'
      exact ⟨c, hc, rfl, rfl, fun z => absurd rfl z⟩
    · rw [if_neg hj] at hd'
      exact ⟨d, hd', rfl, rfl, fun _ => ⟨rfl, rfl⟩⟩) hg2.md.size (fun b hb hf _ => .inl (hlt b hb hf)) (fun z => by cases z)
  refine fin_ign _ _ fun nv => ?_
  haveI : DecidablePred fun b => Γ.pv i b ∨ F b := fun _ => Classical.propDecidable _
  refine fin_see (fun b => Γ.pv i b ∨ F b) (finH_onT (τ := tpT u2 q.outs.length 0 1) (d := u2.drawn) ?_)
  have hhid := seen_free (i := i) (R1 := { R with wts := R.wts.set i c.sp, cl := R.cl.set i { c with st := true } }) hF hg2.fp (by simp) hFf (fun b hb => (hvis b hb).1)
  have hrun := Run1.enter (q := q) (i := i) (t := q.outs.length) (at_ := R.evs.length) (cb := c.cb) (n0 := q.nts) (R0 := { R with wts := R.wts.set i c.sp, cl := R.cl.set i { c with st := true } }) (τ := tpT u2 q.outs.length 0 1) (d := u2.drawn) (fun b => Γ.pv i b ∨ F b) hfix hhid nv rfl rfl
    ⟨{ c with st := true }, by show (R.cl.set i _)[i]? = _; simp [hil], rfl, .inr ⟨rfl, rfl, hT.nts⟩⟩ ⟨R.na, R.nc, R.nts, rfl⟩ hnl ((hlt _ heb.lt (hF.side i hil hnl).2.2.2).trans heb)
  have hpvlt : ∀ b, Γ.pv i b ∨ F b → b < w.heap.size ∧ ¬ R.fp b := fun b hb => by
    rcases hb with h | h
    · exact ⟨(hF.pv i b h).1, (hF.pv i b h).2.1⟩
    · exact ⟨(hvis b h).1, (hFf b h).1⟩
  have hlat : (Y.cfg fb q w0 i c.cb (Γ.top i)).Later wn Fn (Yc.onT (seeOf (fun b => Γ.pv i b ∨ F b) u2) (tpT u2 q.outs.length 0 1) u2.drawn) F := by
    refine Wt.later (u := Yc.onT (seeOf (fun b => Γ.pv i b ∨ F b) u2) (tpT u2 q.outs.length 0 1) u2.drawn) (q := q) (X := X) (R := R) (c := c) (l := l) hO.sys hpv hkeep hos hout hsz hinv (fun b hb z => (hFf b hb).2 (.inr (.inr ⟨i, z⟩))) (fun b hb => ?_) ?_ (hg2.md.os.trans (hF.os rfl)) (hg2.md.output.trans (hF.output rfl)) hs
    · show (seeOf (fun b => Γ.pv i b ∨ F b) u2).heap[b]? = _
      rw [seeOf_hit (V := fun b => Γ.pv i b ∨ F b) u2 hb, hlt b (hpvlt b hb).1 (hpvlt b hb).2]
    · show w.heap.size ≤ (seeOf (fun b => Γ.pv i b ∨ F b) u2).heap.size
      rw [seeOf_size]; exact hg2.md.size
  refine client_fin (z0 := .int .i64 0) (me0 := me0) (st := true) (cb := c.cb) (Γ := Γ.put i fun _ => False) (Mn := Mn) (ft := fun j => if j < i then stopped (q.ft[j]?) else q.ft[j]?) (t := q.outs.length) (at_ := R.evs.length) (n0 := q.nts) (R0 := { R with wts := R.wts.set i c.sp, cl := R.cl.set i { c with st := true } }) hO.sys pass_seat_h ?_ (fun Γ' X' R' w2 hA => ?_) (hstop _ F hlat rfl fr ch hfn hra hlv) _ _ hrun (fun d hd => ?_)
  · have h2 := hO.nts
    rw [hq] at h2
    have h3 : Y.outAt q q.outs.length = Y.o0 := by unfold Sys.outAt; rw [List.getElem?_eq_none (Nat.le_refl _)]; rfl
    rw [h3]
    show q.nts.length + 0 ≤ _
    omega
  · rcases hA with ⟨z, _⟩ | ⟨_, hM', na, nc, c0, c', hc0, hcp, hR⟩
    · cases z
    · have hc0 : (R.cl.set i { c with st := true })[i]? = some c0 := hc0
      have hc0' : c0.picks = c.picks := by simp [hil] at hc0; rw [← hc0]
      have hfte : (fun j => if j = i then some (.inr 0) else if j < i then stopped (q.ft[j]?) else q.ft[j]?) = fun j => if j < i + 1 then stopped (q.ft[j]?) else q.ft[j]? := by
        funext j
        by_cases hji : j = i
        · subst hji
          rw [if_pos rfl, if_pos (by omega), hl]; rfl
        · rw [if_neg hji]
          by_cases h3 : j < i
          · rw [if_pos h3, if_pos (by omega)]
          · rw [if_neg h3, if_neg (by omega)]
      have hM2 : Main Y fb q w0 Γ' X' R' w2 Mn (fun j => if j = i then some (.inr 0) else if j < i then stopped (q.ft[j]?) else q.ft[j]?) (Y.sAt q q.outs.length) := hM'
      rw [hfte, hs] at hM2
      refine hk X' R' w2 _ ?_
      subst hR
      refine ⟨⟨by omega, ⟨Γ', by rw [hq]; exact hM2⟩, ?_, fun j hj => ?_, by rw [hq]; exact hstk⟩, rfl, rfl⟩
      · rw [hq]
        refine ⟨hT.rb, hT.evs, rfl, hT.used, ?_, fun j d hd => ?_, fun j hj => ?_⟩
        · show ((R.cl.set i { c with st := true }).set i c').length = _
          simp [hT.len]
        · have hd' : ((R.cl.set i { c with st := true }).set i c')[j]? = some d := hd
          rw [List.getElem?_set] at hd'
          by_cases hji : i = j
          · subst hji
            rw [if_pos rfl, if_pos (by simp [hil])] at hd'
            obtain rfl := Option.some.inj hd'
            rw [hcp, hc0']; exact hT.picks i c hc
          · rw [if_neg hji, List.getElem?_set_ne hji] at hd'
            exact hT.picks j d hd'
        · show (R.ends.set i 0)[j]? = _
          have hel : R.ends.length = Y.m := by rw [hF.mem.lend, hF.m]
          by_cases hji : i = j
          · subst hji
            rw [hl]; simp [hel, him]; rfl
          · rw [List.getElem?_set_ne hji]; exact hT.ends j hj
      · rw [hq]
        show (R.wts.set i c.sp)[j]? = _
        have hwl : R.wts.length = Y.m := by rw [hF.mem.lwts, hF.m]
        by_cases hji : i = j
        · subst hji
          rw [if_pos (by omega), hl]
          simp [hwl, him]
          exact hsp
        · rw [List.getElem?_set_ne hji, hwts j hj]
          by_cases h3 : j < i
          · rw [if_pos h3, if_pos (by omega)]
          · rw [if_neg h3, if_neg (by omega)]
  · have hd' : (R.cl.set i { c with st := true })[i]? = some d := hd
    simp [hil] at hd'
    rw [← hd']
end
end Go.Vy.Sc
end
/- The run that is gone through, put together. -/
section
namespace Go.Vy
open Go Go.Conc Go.Yc Go.RowKit
section
variable {P : Program} {main : Bool} {f : FuncId} {args : Array Value} {R : Ending → World → Prop}
theorem leaves_onT {fr : Frame} {w : World} {e : Ending} {τ : Tape} {d : Nat} (h : Leaves P fr w e) : Leaves P fr (Yc.onT w τ d) e := by
  cases e with
  | returned v => exact h
  | panicked ch => exact h
  | outgrown => exact h
/-- Whatever the tape is. -/
theorem Calls.onT {u : World} {τ : Tape} {d : Nat} (h : @Calls P (baseCtx P main) f args (Yc.onT u τ d) R) : @Calls P (baseCtx P main) f args u (fun e w' => ∃ w2 d2, w' = Yc.onT w2 u.tape d2 ∧ R e w2) := by
  intro Z hZ cs hk
  obtain ⟨hc, hi⟩ := hZ
  have hcl : Cl P main (fun g x => ∀ d0, Z g (Yc.onT x u.tape d0)) := ⟨fun g x hr hs d0 => by
    refine hc.own g _ hr fun τ' d' => ?_
    obtain ⟨g', u', d2, hF, hz⟩ := hs τ' d'
    exact ⟨g', u', 0, hF, hz 0⟩⟩
  have := h (fun g x => ∀ d0, Z g (Yc.onT x u.tape d0)) ⟨hcl, fun g x hz d0 => hi g _ fun hv => hz hv d0⟩ cs (fun e w' fr he hf hl d0 => hk e _ fr ⟨w', d0, rfl, he⟩ hf (leaves_onT hl)) u.drawn
  exact this
end
end Go.Vy
namespace Go.Vy.Sc
open Go Go.Conc Go.Yc Go.RowKit Go.Proofs Go.Proofs.Ytfmoeemolgjodaa
open Go.Vc Go.Wg
attribute [local irreducible] KK
/-- Goroutine 0 is alone. -/
structure Lone (X : Gh) (w : World) : Prop where
  seat : ∀ i, X.seat i = none
  cap : X.cap = 0
  pend : X.pend = 0
  dn : X.dn = 0
  under : X.Under w.heap.size
  plug : ∀ b, w.heap.size ≤ b → X.plug b = .all
  npos : 0 < X.n
theorem Lone.mono {X : Gh} {w w' : World} (h : Lone X w) (hs : w.heap.size ≤ w'.heap.size) : Lone X w' := ⟨h.seat, h.cap, h.pend, h.dn, h.under.mono hs, fun b hb => h.plug b (Nat.le_trans hs hb), h.npos⟩
section
variable {Y : Sys} {fb : Nat → FuncId} {caps : Nat → Array Value} {fv : Nat → Value} {ba sa : Option Addr} {sn : Nat} {sc : Nat → Int} {Mn : Nat → Option Obj} {w0 : World} {rb0 : Nat}
theorem rdl_rds {q : PR Y} {Γ : Geo} {X : Gh} {R : Rn} {w : World} {p : PR Y} (hF : Fix Y fb q w0 Γ X R w Mn none (fun j => p.ft[j]?)) (hlen : R.cl.length = Y.m) : rdl R.cl (Y.isRdy p) Y.m = Y.rds p := by
  unfold rdl Sys.rds
  apply List.filter_congr
  intro i hi
  have hi : i < Y.m := by simpa using hi
  obtain ⟨c, hc⟩ : ∃ c, R.cl[i]? = some c := ⟨_, List.getElem?_eq_getElem (by omega)⟩
  rw [hc]
  rcases hF.waits hc with ⟨h1, _⟩ | ⟨h1, x, h2, _⟩
  · simp [h1]
  · have h2 : p.ft[i]? = some (.inr x) := h2
    simp [h1, Sys.isRdy, h2]
theorem any_left {q : PR Y} {Γ : Geo} {X : Gh} {R : Rn} {w : World} {p : PR Y} (hF : Fix Y fb q w0 Γ X R w Mn none (fun j => p.ft[j]?)) (hlen : R.cl.length = p.ft.length) : R.cl.any (·.wt) = p.ft.any (·.isLeft) := by
  rw [Bool.eq_iff_iff, List.any_eq_true, List.any_eq_true]
  constructor
  · rintro ⟨c, hc, hw⟩
    obtain ⟨i, hi⟩ := List.mem_iff_getElem?.1 hc
    rcases hF.waits hi with ⟨h1, _, l, h2, _⟩ | ⟨h1, _⟩
    · exact ⟨.inl l, List.mem_iff_getElem?.2 ⟨i, h2⟩, rfl⟩
    · rw [hw] at h1; cases h1
  · rintro ⟨f, hf, hw⟩
    obtain ⟨i, hi⟩ := List.mem_iff_getElem?.1 hf
    have hil := (List.getElem?_eq_some_iff.1 hi).1
    obtain ⟨c, hc⟩ : ∃ c, R.cl[i]? = some c := ⟨_, List.getElem?_eq_getElem (by omega)⟩
    rcases hF.waits hc with ⟨h1, _⟩ | ⟨h1, x, h2, _⟩
    · exact ⟨c, List.mem_iff_getElem?.2 ⟨i, hc⟩, h1⟩
    · have h2 : p.ft[i]? = some (.inr x) := h2
      rw [hi] at h2; cases h2; cases hw
/-- What is held, is held where the run's own turns alone. -/
theorem Main.turn {q : PR Y} {Γ : Geo} {X : Gh} {R R' : Rn} {w w' : World} {ft : Nat → Option (Y.L ⊕ Nat)} {s : Y.S} (hY : SysOk Y) (h : Main Y fb q w0 Γ X R w Mn ft s) (hg : Rg R.fp w.heap.size w w' w0.heap.size R') (hrb : R'.rb = R.rb) (hyb : R'.yb = R.yb) (hm : R'.m = R.m) (hcl : R'.cl = R.cl) (he : R'.ends = R.ends) : Main Y fb q w0 Γ X R' w' Mn ft s := by
  obtain ⟨F, hinv, hFf⟩ := h.inv
  have hvis := hY.vis _ _ _ hinv
  refine ⟨h.fix.turn hg.m hrb hyb hm hg.fp (by rw [hcl]) (fun j c hc => ⟨c, by rw [← hcl]; exact hc, rfl, rfl, fun _ => ⟨rfl, by rw [he]⟩⟩) hg.md.size (fun b hb hf _ => .inl (hg.md.block b hb hf)) (fun _ => ⟨hg.md.os, hg.md.output⟩), F, hY.loc _ w w' F hinv fun b hb => hg.md.block b (hvis b hb).1 (hFf b hb).1, fun b hb => ⟨fun z => (hg.fp b z).elim (hFf b hb).1 (Nat.not_le_of_lt (hvis b hb).1), fun z => (hFf b hb).2 ?_⟩⟩
  rcases z with z | ⟨k, hk, z⟩ | z
  · exact .inl z
  · exact .inr (.inl ⟨k, by rw [← hcl]; exact hk, z⟩)
  · exact .inr (.inr z)
/-- Whom asks goroutine 0, and what it hears. -/
theorem rdy_ok (hO : RunOk Y fb caps fv ba sa sn sc) {n : Nat} {X : Gh} {R : Rn} {w : World} (hJ : J2 Y fb sn sc Mn w0 rb0 n X R w) {i : Nat} {c : CB} (hc : R.cl[i]? = some c) (hwt : c.wt = true) : @ReadyAt (baseCtx Try.prog true) w c.rf (Y.isRdy (Y.pn sc n) i) := by
  obtain ⟨hn, ⟨Γ, hM⟩, hT, hwts, hstk⟩ := hJ
  have hF := hM.fix
  have hle0 : Y.Le (Y.pn sc n) (Y.pn sc sn) := le_pn_q hn
  have hok := Sys.ok_pn (Y := Y) sc n
  generalize hp : Y.pn sc n = p at *
  obtain ⟨hnl, l, hl, hW⟩ : Y.nil i = false ∧ ∃ l, p.ft[i]? = some (.inl l) ∧ Wt Y fb (Y.pn sc sn) w0 Γ X w i c l := by
    rcases hF.waits hc with ⟨_, h1, l, h2, h3⟩ | ⟨h, _⟩
    · exact ⟨h1, l, h2, h3⟩
    · rw [hwt] at h; cases h
  have hs : Y.sAt (Y.pn sc sn) p.outs.length = p.s := Sys.s_at hok hle0
  have hr : Y.isRdy p i = Y.rdy i l p.s := by unfold Sys.isRdy; rw [hl]
  obtain ⟨h1, hst, hsp, heb, me, cs, wn, Fn, Rdo, hseat, hme, hrf, hdf, hpv, hkeep, hos, hout, hsz, hdo, hgo, hstop⟩ := hW
  obtain ⟨F, hinv, hFf⟩ := hM.inv
  have hvis := hO.sys.vis _ _ _ hinv
  have hpvlt : ∀ b, Γ.pv i b ∨ F b → b < w.heap.size := fun b hb => by
    rcases hb with h | h
    · exact (hF.pv i b h).1
    · exact (hvis b h).1
  rcases hrf with ⟨hrf, hall⟩ | ⟨f, cps, ⟨hrf, fn, h2, h3, h4⟩, hcall⟩
  · exact .inl ⟨hrf, by rw [hr]; exact hall _⟩
  · refine .inr ⟨f, fn, cps, hrf, h2, h3, h4, fun u hb => ?_⟩
    haveI : DecidablePred fun b => Γ.pv i b ∨ F b := fun _ => Classical.propDecidable _
    have hlat : (Y.cfg fb (Y.pn sc sn) w0 i c.cb (Γ.top i)).Later wn Fn (Yc.onT (seeOf (fun b => Γ.pv i b ∨ F b) u) (tpT u p.outs.length 0 0) u.drawn) F := by
      refine Wt.later (u := Yc.onT (seeOf (fun b => Γ.pv i b ∨ F b) u) (tpT u p.outs.length 0 0) u.drawn) (q := Y.pn sc sn) (X := X) (R := R) (c := c) (l := l) hO.sys hpv hkeep hos hout hsz hinv (fun b hb z => (hFf b hb).2 (.inr (.inr ⟨i, z⟩))) (fun b hb' => ?_) ?_ (hb.os.trans (hF.os rfl)) (hb.output.trans (hF.output rfl)) hs
      · show (seeOf (fun b => Γ.pv i b ∨ F b) u).heap[b]? = _
        rw [seeOf_hit (V := fun b => Γ.pv i b ∨ F b) u hb', hb.block b (hpvlt b hb')]
      · show w.heap.size ≤ (seeOf (fun b => Γ.pv i b ∨ F b) u).heap.size
        rw [seeOf_size]; exact hb.size
    have h5 := Calls.seen (fun b => Γ.pv i b ∨ F b) (Calls.onT (hcall _ F hlat))
    refine @Calls.mono _ (baseCtx Try.prog true) f cps u _ _ h5 fun e w' he => ?_
    obtain ⟨u', rfl, hH, w2, d2, rfl, he⟩ := he
    cases e with
    | panicked ch => exact he.elim
    | outgrown => exact he.elim
    | returned v =>
      obtain ⟨hv, hbel⟩ := he
      refine ⟨?_, ⟨hbel.os, rfl, hbel.output, ?_, fun b hb' => ?_⟩⟩
      · rw [hv, hr]
        show Value.bool (Y.rdy i l (Y.sAt (Y.pn sc sn) p.outs.length)) = _
        rw [hs]
      · rw [over_size]
        have := hbel.size
        have h6 : (seeOf (fun b => Γ.pv i b ∨ F b) u).heap.size ≤ w2.heap.size := this
        rw [seeOf_size] at h6
        exact h6
      · have h6 : b < (seeOf (fun b => Γ.pv i b ∨ F b) u).heap.size := by rw [seeOf_size]; exact hb'
        have h7 := hbel.block b h6
        by_cases hV : Γ.pv i b ∨ F b
        · rw [over_miss (Yc.onT w2 _ d2) (by simp [hidOf, hV])]
          show w2.heap[b]? = _
          refine h7.trans ?_
          show (seeOf (fun b => Γ.pv i b ∨ F b) u).heap[b]? = _
          rw [seeOf_hit (V := fun b => Γ.pv i b ∨ F b) u hV]
        · have h8 : hidOf (fun b => Γ.pv i b ∨ F b) u b = some u.heap[b] := by
            simp only [hidOf, hV, if_false]
            exact Array.getElem?_eq_getElem hb'
          rw [over_hit h8 (by
            show b < w2.heap.size
            have := hbel.size
            have h9 : (seeOf (fun b => Γ.pv i b ∨ F b) u).heap.size ≤ w2.heap.size := this
            omega), Array.getElem?_eq_getElem hb']
/-- The run is gone through as it is told. -/
theorem ring (hO : RunOk Y fb caps fv ba sa sn sc) {tb : Nat} {Post : Value → World → Prop} (htb : Mn tb = some (.cells #[.slice none 0 0, .slice none 0 0, .slice none 0 0, .slice none 0 0, .bool false, .int .i64 0] 31 (0, 0)))
    (hbc : ∀ w : World, (∀ b, Mn b ≠ none → w.heap[b]? = Mn b) → ∀ j, j < Y.m → w.cell? ⟨ab ba, ao ba + j * 1, none⟩ = some (fv j)) (hsc : ∀ w : World, (∀ b, Mn b ≠ none → w.heap[b]? = Mn b) → ∀ j, j < sn → w.cell? ⟨ab sa, ao sa + j * 1, none⟩ = some (.int .i64 (sc j))) :
    RunR rb0 Y.m sn tb ba sa fv sc w0.heap.size Post (JB Y fb sn sc Mn w0 rb0) (J2 Y fb sn sc Mn w0 rb0) (JE Y fb sn sc Mn w0 rb0) (fun n => Y.isRdy (Y.pn sc n)) := by
  have hm1 := hO.m1
  have hsn := hO.sn1
  refine ⟨fun cs hfin => ⟨hO.bsl, fun i hi => ?_, fun i X R w hJ => ?_, fun i X R w w' a n cb rc hi hJ hf hcb hrc hg => ?_, fun i X R w w' a n cb rc hi hJ hf hcb hrc hne hch hg => ?_, hfin⟩, fun X R w hJ => ?_, hO.ssl, fun n X R w hJ => ?_, fun n X R w w' hJ hb => ?_, fun n X R w hJ i c hc hwt => rdy_ok hO hJ hc hwt, fun n X R w i c hJ hn hp hc => ?_, fun n X R w w' b hJ hn hb hg => ?_, fun ca cc cs hfin => ⟨fun i X R w hJ => ?_, fun i X R w c hJ hc hwt => ?_, fun i X R w c hJ hc hwt => ?_, fun X R w hJ => ?_⟩, fun X R w hJ => ?_⟩
  · rcases hO.fn i hi with h | ⟨_, h, fn, h1, h2, h3⟩
    · exact .inl h.2
    · exact .inr ⟨fb i, fn, caps i, h, h1, h2, h3⟩
  · obtain ⟨_, ⟨Γ, hM⟩, hT, hwts, hstk⟩ := hJ
    exact ⟨hM.fix.mem, hT.rb, hT.len.trans (Sys.len_begs i), hM.fix.m, hM.fix.size, hM.fix.under, hbc w hM.get⟩
  · obtain ⟨_, ⟨Γ, hM⟩, hT, hwts, hstk⟩ := hJ
    have hnl : Y.nil i = true := by
      rcases hO.fn i hi with h | h
      · exact h.1
      · rw [hf] at h; exact absurd h.2.1 (by simp)
    have hlen : R.cl.length = i := hT.len.trans (Sys.len_begs i)
    have hbg : Y.begs (i + 1) = { Y.begs i with ft := (Y.begs i).ft ++ [.inr 1] } := by
      show Y.bgn (Y.begs i) = _
      unfold Sys.bgn
      rw [Sys.len_begs i, hnl]; rfl
    have hpl := Sys.len_begs (Y := Y) i
    generalize hp : Y.begs i = p at *
    have hfix := hM.fix.addNil hnl hlen (by rw [hM.fix.m]; exact hi) hcb hg (by show p.ft[i]? = none; rw [List.getElem?_eq_none (by omega)])
    rw [tie_app hpl] at hfix
    obtain ⟨F, hinv, hFf⟩ := hM.inv
    have hvis := hO.sys.vis _ _ _ hinv
    have hM' : Main Y fb (Y.pn sc sn) w0 Γ (X.lower cb) { R with ca := a, cc := n, cl := R.cl ++ [newC cb rc], ends := R.ends.set i 1 } w' Mn (fun j => (p.ft ++ [.inr 1])[j]?) p.s := by
      refine ⟨hfix, F, hO.sys.loc _ w w' F hinv fun b hb => hg.md.block b (hvis b hb).1 (hFf b hb).1, fun b hb => ⟨fun z => (hg.fp b z).elim (hFf b hb).1 (Nat.not_le_of_lt (hvis b hb).1), fun z => (hFf b hb).2 ?_⟩⟩
      rcases z with z | ⟨k, hk, hnk, z⟩ | z
      · exact .inl z
      · refine .inr (.inl ⟨k, ?_, hnk, z⟩)
        have hk : k < (R.cl ++ [newC cb rc]).length := hk
        rw [List.length_append, List.length_singleton] at hk
        rcases Nat.lt_or_ge k R.cl.length with y | y
        · exact y
        · have : k = i := by omega
          rw [this, hnl] at hnk; cases hnk
      · exact .inr (.inr z)
    refine ⟨by omega, ⟨Γ, by rw [hbg]; exact hM'⟩, ?_, hwts, hstk⟩
    · rw [hbg]
      refine ⟨hT.rb, hT.evs, hT.nts, hT.used, by simp [hT.len], fun j d hd => ?_, fun j hj => ?_⟩
      · rcases app_some hd with z | ⟨z, rfl⟩
        · exact hT.picks j d z
        · show 0 = p.who.count (some j)
          rw [← hp]; exact (Sys.begs_who i j).symm
      · have h0 := endsOf_at (Y := Y) (f := .inr 1) (g := fun j => p.ft[j]?) (i := i) hT.ends (by rw [hM.fix.mem.lend, hM.fix.m]) (by show endOf p.ft[i]? = 0; rw [List.getElem?_eq_none (by omega)]; rfl) j hj
        exact h0.trans (congrArg (fun f : Nat → Option (Y.L ⊕ Nat) => some (endOf (f j))) (tie_app hpl (.inr 1)))
  · have hF : ∃ Γ, Fix Y fb (Y.pn sc sn) w0 Γ X R w Mn none (fun j => (Y.begs i).ft[j]?) := by obtain ⟨_, ⟨Γ, hM⟩, _⟩ := hJ; exact ⟨Γ, hM.fix⟩
    obtain ⟨Γ, hF⟩ := hF
    have hT : Tie Y rb0 (Y.begs i) R := hJ.2.2.1
    have hlen : R.cl.length = i := hT.len.trans (Sys.len_begs i)
    refine ⟨by rw [← hT.rb]; exact hF.grp, hF.pend, by have := hF.cap; omega, hF.dn, hF.stay0, ⟨hF.chy, fun j s2 hs2 => ?_⟩, fun me0 hk => go_fin hO hi hJ hf hcb hrc hne hch hg hk⟩
    by_cases hj0 : j = 0
    · subst hj0; rw [hF.seat0 rfl] at hs2; cases hs2
    · obtain ⟨k, d, h2, h3, _, h4, _⟩ := hF.seats j s2 hj0 hs2
      rw [h4]; exact hF.ry k d h2 h3
  · obtain ⟨_, hM, hT, hwts, hstk⟩ := hJ
    exact ⟨Nat.zero_le _, hM, hT, hwts, hstk⟩
  · obtain ⟨hn, ⟨Γ, hM⟩, hT, hwts, hstk⟩ := hJ
    have h1 := Sys.evs_pn (Y := Y) sc n
    have h2 := Sys.ok_pn (Y := Y) sc n
    refine ⟨hM.fix.mem, hT.rb, hT.len.trans (Sys.len_pn sc n), hM.fix.size, by rw [hT.evs]; omega, by rw [hT.used, ← h2.used]; omega, fun i c hc => ?_, hsc w hM.get⟩
    rw [hT.picks i c hc]
    have h3 := List.count_le_length (a := some i) (l := (Y.pn sc n).who)
    rw [h2.who] at h3
    omega
  · obtain ⟨hn, ⟨Γ, hM⟩, hT, hwts, hstk⟩ := hJ
    exact ⟨hn, ⟨Γ, hM.turn hO.sys (hM.fix.mem.rg.keep hb) rfl rfl rfl rfl rfl⟩, hT, hwts, hstk⟩
  · have hlen : R.cl.length = Y.m := hJ.2.2.1.len.trans (Sys.len_pn sc n)
    obtain ⟨Γ, hM⟩ := hJ.2.1
    rw [rdl_rds hM.fix hlen] at hp
    exact pick_ok hO hJ hn hp hc
  · obtain ⟨hn', ⟨Γ, hM⟩, hT, hwts, hstk⟩ := hJ
    have hlen : R.cl.length = Y.m := hT.len.trans (Sys.len_pn sc n)
    rw [rdl_rds hM.fix hlen] at hn hb
    have hq : Y.pn sc sn = Y.pn sc n := by
      rcases hn with rfl | h
      · rfl
      · have := Sys.pn_stuck h (sn - n)
        rwa [Nat.add_sub_cancel' hn'] at this
    rw [any_left hM.fix hT.len] at hb
    have hM' := hM.turn hO.sys hg rfl rfl rfl rfl rfl
    rw [← hq] at hM' hT hb
    refine ⟨Nat.zero_le _, ⟨Γ, ?_⟩, ⟨hT.rb, hT.evs, hT.nts, hT.used, hT.len, hT.picks, hT.ends⟩, fun j hj => ?_, hb⟩
    · have : (fun j => if j < 0 then stopped ((Y.pn sc sn).ft[j]?) else (Y.pn sc sn).ft[j]?) = fun j => (Y.pn sc sn).ft[j]? := by funext j; rw [if_neg (Nat.not_lt_zero j)]
      rw [this]; exact hM'
    · show R.wts[j]? = _
      rw [hwts, if_neg (Nat.not_lt_zero j)]; simp [hj]
  · obtain ⟨⟨hi, ⟨Γ, hM⟩, hT, hwts, hstk⟩, h1, h2⟩ := hJ
    exact ⟨hM.fix.mem, hT.rb, hT.len.trans (Sys.len_pn sc sn), h1, h2⟩
  · obtain ⟨⟨hi, ⟨Γ, hM⟩, hT, hwts, hstk⟩, h1, h2⟩ := hJ
    have hil := (List.getElem?_eq_some_iff.1 hc).1
    have hlen : R.cl.length = Y.m := hT.len.trans (Sys.len_pn sc sn)
    obtain ⟨x, hx⟩ : ∃ x, (Y.pn sc sn).ft[i]? = some (.inr x) := by
      rcases hM.fix.waits hc with ⟨h, _⟩ | ⟨_, x, h, _⟩
      · rw [hwt] at h; cases h
      · exact ⟨x, by simpa using h⟩
    have hfte : (fun j => if j < i then stopped ((Y.pn sc sn).ft[j]?) else (Y.pn sc sn).ft[j]?) = fun j => if j < i + 1 then stopped ((Y.pn sc sn).ft[j]?) else (Y.pn sc sn).ft[j]? := by
      funext j
      by_cases hji : j = i
      · subst hji; rw [if_neg (by omega), if_pos (by omega), hx]; rfl
      · by_cases h3 : j < i
        · rw [if_pos h3, if_pos (by omega)]
        · rw [if_neg h3, if_neg (by omega)]
    rw [hfte] at hM
    refine ⟨⟨by omega, ⟨Γ, hM⟩, hT, fun j hj => ?_, hstk⟩, h1, h2⟩
    rw [hwts j hj]
    by_cases hji : j = i
    · subst hji; rw [if_neg (by omega), if_pos (by omega), hx]; rfl
    · by_cases h3 : j < i
      · rw [if_pos h3, if_pos (by omega)]
      · rw [if_neg h3, if_neg (by omega)]
  · obtain ⟨hJ, h1, h2⟩ := hJ
    obtain ⟨g, z1, me1, h3, h4, h5, h6, h7, h8⟩ := stop_ok (Post := Post) hO hJ hc hwt
    exact ⟨g, z1, me1, h3, h4, h5, h6, h7, fun w' me0 hg hk => h8 w' me0 hg fun X' R' u v hJ' => hk X' R' u v ⟨hJ'.1, hJ'.2.1.trans h1, hJ'.2.2.trans h2⟩⟩
  · have hJ0 := hJ
    obtain ⟨⟨hi, ⟨Γ, hM⟩, hT, hwts, hstk⟩, h1, h2⟩ := hJ
    have hF := hM.fix
    have hlen : R.cl.length = Y.m := hT.len.trans (Sys.len_pn sc sn)
    refine ⟨fun i => ?_, by rw [← hT.rb]; exact hF.grp, hF.pend, hF.dn, by have := hF.cap; omega, fun fr h3 h4 => hfin X R w hJ0.1 h1 h2 fr h3 h4⟩
    by_cases h0 : i = 0
    · subst h0; exact hF.seat0 rfl
    · cases hs : X.seat i with
      | none => rfl
      | some s =>
        obtain ⟨j, c, h5, h6, h7, _⟩ := hF.seats i s h0 hs
        have hjl := (List.getElem?_eq_some_iff.1 h5).1
        rcases hF.waits h5 with ⟨_, _, l, h8, _⟩ | ⟨_, x, _, h8⟩
        · have h8 : (if j < Y.m then stopped ((Y.pn sc sn).ft[j]?) else (Y.pn sc sn).ft[j]?) = some (.inl l) := h8
          rw [if_pos (by omega)] at h8
          cases hx : (Y.pn sc sn).ft[j]? with
          | none => rw [hx] at h8; cases h8
          | some f => cases f <;> (rw [hx] at h8; cases h8)
        · rcases h8 with h8 | h8
          · rw [h6] at h8; cases h8
          · rw [← h7, hs] at h8; cases h8
  · obtain ⟨hi, ⟨Γ, hM⟩, hT, hwts, hstk⟩ := hJ
    exact ⟨hM.fix.mem, hT.rb, (hM.get tb (by rw [htb]; simp)).trans htb⟩
end
end Go.Vy.Sc
end
/- sched.Run's contract, where goroutine 0 is alone. -/
section
namespace Go.Vy.Sc
open Go Go.Conc Go.Yc Go.RowKit Go.Proofs Go.Proofs.Ytfmoeemolgjodaa
open Go.Vc Go.Wg
attribute [local irreducible] KK
/-- From here the whole ends well, whatever has been so far. -/
def LoneZ (lb : Nat) (pl : Nat → Plug) (Post : Value → World → Prop) (g : Goroutine) (u : World) : Prop := ∀ X, Lone X u → lb ≤ u.heap.size → (∀ b, X.low b → lb ≤ b) → X.plug = pl → Fin Try.prog Post X 0 g u
theorem loneZ_cl (lb : Nat) (pl : Nat → Plug) (Post : Value → World → Prop) : Cl Try.prog true (LoneZ lb pl Post) := ⟨fun g u hr hs X hX h1 h2 h3 => Fin.own' hr fun τ d => by
  obtain ⟨g', u', d', hF, hz⟩ := hs τ d
  refine ⟨g', u', hF, fun ⟨ρ, w, hsim⟩ => ?_⟩
  have he := (hF.2 ρ w hsim).1
  have hX' : Lone X (Yc.onT u' u.tape d') := (hX.mono he.size : Lone X u')|> fun h => ⟨h.seat, h.cap, h.pend, h.dn, h.under, h.plug, h.npos⟩
  exact fin_onT (hz X hX' (Nat.le_trans h1 he.size) h2 h3)⟩
theorem loneZ_ign (lb : Nat) (pl : Nat → Plug) (Post : Value → World → Prop) : Ign (LoneZ lb pl Post) := fun _g _u hz X hX h1 h2 h3 => fin_ign _ _ fun hv => hz hv X hX h1 h2 h3
@[reducible] def loneCtx (lb : Nat) (pl : Nat → Plug) : Ctx Try.prog := ⟨true, fun Z => ∃ Post, Z = LoneZ lb pl Post, fun Z h => by obtain ⟨Post, rfl⟩ := h; exact loneZ_cl lb pl Post⟩
/-- What a run has left. -/
structure RunDone (Y : Sys) (q : PR Y) (Mn : Nat → Option Obj) (w0 w : World) (R : Rn) : Prop where
  mem : RunM w w0.heap.size R
  m : R.m = Y.m
  evs : R.evs = q.evs
  nts : R.nts = q.nts
  used : R.used = q.used
  ends : ∀ j, j < Y.m → R.ends[j]? = some (endOf q.ft[j]?)
  wts : ∀ j, j < Y.m → R.wts[j]? = some (wtOf Y j (q.ft[j]?))
  stuck : R.stuck = (q.ft.any (·.isLeft) && (Y.rds q).isEmpty)
  inv : ∃ F, Y.Inv q.s w F ∧ ∀ b, F b → ¬ R.fp b
  fp : ∀ b, R.fp b → w0.heap.size ≤ b
  keep : ∀ b, Mn b ≠ none → w.heap[b]? = Mn b
  size : w0.heap.size ≤ w.heap.size
  os : w.os = w0.os
  output : w.output = w0.output
  tape : w.tape = w0.tape
section
variable {Y : Sys} {fb : Nat → FuncId} {caps : Nat → Array Value} {fv : Nat → Value} {ba sa : Option Addr} {sn : Nat} {sc : Nat → Int} {Mn : Nat → Option Obj} {w0 : World}
theorem run_c (hO : RunOk Y fb caps fv ba sa sn sc) (hmn : ∀ b o, Mn b = some o → w0.heap[b]? = some o) {F : Nat → Prop} (hinv : Y.Inv Y.s0 w0 F) (hFm : ∀ b, F b → Mn b = none)
    (hbc : ∀ w : World, (∀ b, Mn b ≠ none → w.heap[b]? = Mn b) → ∀ j, j < Y.m → w.cell? ⟨ab ba, ao ba + j * 1, none⟩ = some (fv j)) (hsc : ∀ w : World, (∀ b, Mn b ≠ none → w.heap[b]? = Mn b) → ∀ j, j < sn → w.cell? ⟨ab sa, ao sa + j * 1, none⟩ = some (.int .i64 (sc j))) {bc scp : Nat} :
    @C Try.prog (loneCtx Y.lb Y.pl) 19 #[.slice ba Y.m bc, .slice sa sn scp] w0 fun v w => ∃ R, v = .tuple #[outV R, .int .i64 0] ∧ RunDone Y (Y.pn sc sn) Mn w0 w R := by
  intro Z hZ cs hk
  obtain ⟨Post, rfl⟩ := hZ
  intro X hX hb1 hb2 hb3
  refine run_fin (fv := fv) (sc := sc) hO.m1 hO.sn1 hX.under hX.plug hX.cap fun w4 rb yb eb wb tb hB => ?_
  have hvis := hO.sys.vis _ _ _ hinv
  have hlow := hB.low
  have htbn : Mn tb = none := by
    cases h : Mn tb with
    | none => rfl
    | some o =>
      have := (Array.getElem?_eq_some_iff.1 (hmn tb o h)).1
      have := hB.le.2.2.2.2
      omega
  have hlt : ∀ b o, Mn b = some o → b < w0.heap.size := fun b o h => (Array.getElem?_eq_some_iff.1 (hmn b o h)).1
  let Mn' : Nat → Option Obj := fun b => if b = tb then some (.cells #[.slice none 0 0, .slice none 0 0, .slice none 0 0, .slice none 0 0, .bool false, .int .i64 0] 31 (0, 0)) else Mn b
  have hMn : ∀ w : World, (∀ b, Mn' b ≠ none → w.heap[b]? = Mn' b) → ∀ b, Mn b ≠ none → w.heap[b]? = Mn b := fun w h b hb => by
    have hne : b ≠ tb := fun e => hb (e ▸ htbn)
    have := h b (by show (if b = tb then _ else Mn b) ≠ none; rw [if_neg hne]; exact hb)
    rw [this]
    show (if b = tb then _ else Mn b) = _
    rw [if_neg hne]
  refine ⟨_, _, _, _, ring (Mn := Mn') (w0 := w0) (rb0 := rb) hO (if_pos rfl) (fun w h => hbc w (hMn w h)) (fun w h => hsc w (hMn w h)), ⟨fun X' R w w' fr hJ hgr hfn hl => ?_⟩, ?_⟩
  · obtain ⟨_, ⟨Γ, hM⟩, hT, hwts, hstk⟩ := hJ
    have hF := hM.fix
    have hlen : R.cl.length = Y.m := hT.len.trans (Sys.len_pn sc sn)
    have hget := hMn w hM.get
    obtain ⟨Fq, hinvq, hFfq⟩ := hM.inv
    have htb : w.heap[tb]? = Mn' tb := hM.get tb (by show (if tb = tb then _ else _) ≠ none; rw [if_pos rfl]; simp)
    have htl : tb < w.heap.size := by
      have : Mn' tb = some (.cells #[.slice none 0 0, .slice none 0 0, .slice none 0 0, .slice none 0 0, .bool false, .int .i64 0] 31 (0, 0)) := if_pos rfl
      rw [this] at htb
      exact (Array.getElem?_eq_some_iff.1 htb).1
    have hblk : ∀ b, b < w.heap.size → b ≠ tb → w'.heap[b]? = w.heap[b]? := fun b hb hne => hgr.block b hb fun e => hne (Option.some.inj e)
    have htk : Kept Y Γ R Mn' tb := .inl (by show (if tb = tb then _ else _) ≠ none; rw [if_pos rfl]; simp)
    have hfp : ∀ b, R.fp b → b ≠ tb := fun b hb e => (hF.mn tb (by show (if tb = tb then _ else _) ≠ none; rw [if_pos rfl]; simp)).2.1 (e ▸ hb)
    refine fin_onT (τ := w0.tape) (d := w0.drawn) (hk (.returned _) (Yc.onT w' w0.tape w0.drawn) fr ⟨R, rfl, ?_⟩ hfn (leaves_onT hl) { X' with pend := 0, cap := 0, dn := 0 } ?_ (Nat.le_trans hb1 (Nat.le_trans hF.size hgr.size)) hF.base.low hF.base.pl)
    · refine ⟨hF.mem.congr fun b hb => hblk b (hF.mem.lt hb) (hfp b hb), hF.m, hT.evs, hT.nts, hT.used, hT.ends, fun j hj => ?_, hstk, ⟨Fq, hO.sys.loc _ w _ Fq hinvq fun b hb => hblk b (hO.sys.vis _ _ _ hinvq b hb).1 fun e => (hFfq b hb).2 (e ▸ htk), fun b hb => (hFfq b hb).1⟩, hF.fpB, fun b hb => ?_, Nat.le_trans hF.size hgr.size, hgr.os.trans (hF.os rfl), hgr.output.trans (hF.output rfl), rfl⟩
      · rw [hwts j hj, if_pos hj]
      · have h1 := hget b hb
        have hbl : b < w.heap.size := by
          rcases Nat.lt_or_ge b w.heap.size with z | z
          · exact z
          · exact absurd (h1.symm.trans (Array.getElem?_eq_none z)) hb
        exact (hblk b hbl fun e => hb (e ▸ htbn)).trans h1
    · refine ⟨fun i => ?_, rfl, rfl, rfl, ?_, fun b hb => hF.plug b (Nat.le_trans hgr.size hb), hF.npos⟩
      · show X'.seat i = none
        by_cases h0 : i = 0
        · subst h0; exact hF.seat0 rfl
        · cases hs : X'.seat i with
          | none => rfl
          | some s =>
            obtain ⟨j, c, h5, h6, h7, _⟩ := hF.seats i s h0 hs
            have hjl := (List.getElem?_eq_some_iff.1 h5).1
            rcases hF.waits h5 with ⟨_, _, l, h8, _⟩ | ⟨_, x, _, h8⟩
            · have h8 : (if j < Y.m then stopped ((Y.pn sc sn).ft[j]?) else (Y.pn sc sn).ft[j]?) = some (.inl l) := h8
              rw [if_pos (by omega)] at h8
              cases hx : (Y.pn sc sn).ft[j]? with
              | none => rw [hx] at h8; cases h8
              | some f => cases f <;> (rw [hx] at h8; cases h8)
            · rcases h8 with h8 | h8
              · rw [h6] at h8; cases h8
              · rw [← h7, hs] at h8; cases h8
      · have hu := hF.under.mono hgr.size
        exact ⟨hu.stay, hu.hid, hu.chs, hu.grp, hu.low⟩
  · have hle := hB.le
    have hfp0 : ∀ b, (rn0 rb yb eb wb Y.m).fp b → w0.heap.size ≤ b := fun b hb => by
      rcases hb with rfl | rfl | rfl | ⟨h, _⟩ | ⟨h, _⟩ | ⟨h, _⟩ | ⟨j, c, h, _⟩
      · exact hle.1
      · exact hle.2.2.1
      · exact hle.2.2.2.1
      · exact absurd rfl h
      · exact absurd rfl h
      · exact absurd rfl h
      · simp [rn0] at h
    have hybl : yb < w4.heap.size := (Array.getElem?_eq_some_iff.1 hB.yb).1
    have htbf : ¬ (rn0 rb yb eb wb Y.m).fp tb := hB.mem.fp_ne hB.tb (by decide)
    have hu := hX.under.mono hlow.size
    have hnl : ∀ {j : Nat}, ¬ j < (rn0 rb yb eb wb Y.m).cl.length := fun h => Nat.not_lt_zero _ h
    have hnc : ∀ {j : Nat} {c : CB}, (rn0 rb yb eb wb Y.m).cl[j]? = some c → False := fun h => by simp [rn0] at h
    refine ⟨Nat.zero_le _, ⟨⟨fun _ => 0, fun _ => 0, fun _ => 0, fun _ => [], fun _ _ => False⟩, ⟨⟨hB.mem, rfl, fun j c hc => (hnc hc).elim, fun j c hc => (hnc hc).elim, hfp0, fun j hj => (hnl hj).elim, fun j b hb => hb.elim, fun b hb => ?_, hX.npos, fun _ => hlow.os, fun _ => hlow.output, hlow.size, rfl, show Go.ConcN.upd X.stay 0 _ 0 = _ from Go.ConcN.upd_same _ _ _, .inr rfl, fun g s hg hs => ?_, fun j k hj => (hnl hj).elim, fun j k hj => (hnl hj).elim, fun j k c d hc => (hnc hc).elim, fun j c hc => (hnc hc).elim, hX.dn, hX.pend, ?_, ?_, fun b hb => hX.plug b (Nat.le_trans hlow.size hb), fun _ => hX.seat 0, ⟨hb1, fun b hb => ?_, hb3⟩⟩, F, ?_, fun b hb => ⟨fun z => ?_, fun z => ?_⟩⟩⟩, ⟨rfl, rfl, rfl, rfl, rfl, fun j c hc => (hnc hc).elim, fun j hj => ?_⟩, rfl, rfl⟩
    · by_cases hbt : b = tb
      · subst hbt
        refine ⟨?_, htbf, fun k hk => (hnl hk).elim⟩
        show _ = (if b = b then _ else _)
        rw [if_pos rfl]; exact hB.tb
      · have hMb : Mn' b = Mn b := if_neg hbt
        rw [hMb] at hb ⊢
        cases ho : Mn b with
        | none => exact absurd ho hb
        | some o =>
          have hl := hlt b o ho
          exact ⟨(hlow.block b hl).trans (hmn b o ho), fun z => by have := hfp0 b z; omega, fun k hk => (hnl hk).elim⟩
    · have := hX.seat g
      have hs : X.seat g = some s := hs
      rw [this] at hs; cases hs
    · show X.cap ≤ 0
      rw [hX.cap]; exact Nat.le_refl _
    · refine ⟨fun g p hp => ?_, hu.hid, fun b hb => ?_, fun G hG => ?_, fun b hb => ?_⟩
      · by_cases hg : g = 0
        · subst hg
          have hp' : p ∈ Go.ConcN.upd X.stay 0 [((⟨rb, 8 - 1, none⟩ : Addr), Value.chan (some yb))] 0 := hp
          rw [Go.ConcN.upd_same] at hp'
          simp at hp'
          rw [hp']; exact hB.mem.run.lt
        · have hp' : p ∈ Go.ConcN.upd X.stay 0 [((⟨rb, 8 - 1, none⟩ : Addr), Value.chan (some yb))] g := hp
          rw [Go.ConcN.upd_ne _ _ hg] at hp'
          exact hu.stay g p hp'
      · rcases hb with z | rfl
        · exact hu.chs b z
        · exact hybl
      · rcases hG with z | z
        · have z : some (⟨rb, 8⟩ : Grp) = some G := z
          cases z
          exact hB.mem.run.lt
        · have z : G ∈ X.grp.toList ++ X.old := z
          rw [List.mem_append] at z
          rcases z with z | z
          · exact hu.grp G (.inl (by simpa using z))
          · exact hu.grp G (.inr z)
      · rcases hb with (z | rfl) | rfl
        · exact hu.low b z
        · exact hybl
        · exact hB.mem.run.lt
    · rcases hb with (z | rfl) | rfl
      · exact hb2 b z
      · have := hle.2.1; omega
      · have := hle.1; omega
    · exact hO.sys.loc _ w0 w4 F hinv fun b hb => hlow.block b (hvis b hb).1
    · have := hfp0 b z
      have := (hvis b hb).1
      omega
    · rcases z with z | ⟨k, hk, _⟩ | ⟨j, z⟩
      · by_cases hbt : b = tb
        · have := (hvis b hb).1
          have := hle.2.2.2.2
          omega
        · exact z ((if_neg hbt).trans (hFm b hb))
      · exact (hnl hk).elim
      · exact z
    · show (List.replicate Y.m (0 : Int))[j]? = _
      simp [hj]; rfl
end
end Go.Vy.Sc
end
/- Texts and numbers of other widths. Nothing here speaks of a program. -/
section
namespace Go.Vy
open Go Go.Conc Go.Yc Go.RowKit
open Go.Vc
section
variable {P : Program} [Ctx P] {ρ : Operand → Value} {w : World} {d : Option Nat} {ty : TypeId} {ps : String} {af : Array Edge} {g : Option (Nat × Bool)} {x y : Operand} {T T' S : TypeId}
end
section
variable {P : Program} {ρ : Operand → Value} {w : World} {d : Option Nat} {ty : TypeId} {ps : String} {af : Array Edge} {g : Option (Nat × Bool)} {x y : Operand} {T T' S : TypeId}
theorem x_addStr {a b : ByteArray} (hx : ρ x = .string a) (hy : ρ y = .string b) (h : a.size + b.size ≤ 9223372036854775807) : Does P (execOp ρ ⟨d, .binOp .add T x y T', ty, ps, af, g⟩) w (.val (.string (a ++ b))) w := by
  have hm : IntKind.i64.max = 9223372036854775807 := by decide
  have hn : ¬ ((a.size + b.size : Nat) : Int) > IntKind.i64.max := by omega
  refine .of_tame (t_binStr hx hy) rfl rfl fun τ d => ?_
  have h1 : binOp .add T (.string a) (.string b) = (pure (.string (a ++ b)) : Sem Value) := by
    show Op.stringOp .add a b = _
    unfold Op.stringOp
    exact if_neg hn
  have h2 : eqGuard .add T x y (.string a) (.string b) = (pure () : Sem Unit) := rfl
  show (do pure (.value (← (do eqGuard .add T x y (ρ x) (ρ y); binOp .add T (ρ x) (ρ y)))) : Sem Next).run P _ = _
  rw [hx, hy, h2, h1]; rfl
theorem x_convI {κ κ' : IntKind} {m : Int} {u : TypeDesc} (hx : ρ x = .int κ m) (hS : P.underlying S = some u) (hT : P.underlying T = some (.int κ')) : Does P (execOp ρ ⟨d, .convert S T x, ty, ps, af, g⟩) w (.val (.int κ' (κ'.wrap m))) w := by
  have hc : ∀ w' : World, (convert S T (.int κ m)).run P w' = .ok (.int κ' (κ'.wrap m)) w' := fun w' => by
    simp only [convert, Sem.run_bind, run_underlying hS, run_underlying hT, Result.andThen_ok]
    rfl
  have ht : tame P (convert S T (.int κ m)) := by
    unfold convert
    refine t_knownU hS ?_
    refine t_knownU hT ?_
    exact t_pure _
  refine .of_tame (t_cvt (t := (do pure (.value (← convert S T (ρ x))) : Sem Next)) rfl (by rw [hx]; exact t_v ht)) rfl rfl fun τ d => ?_
  show (do pure (.value (← convert S T (ρ x))) : Sem Next).run P _ = _
  rw [hx]
  simp only [Sem.run_bind, hc, Result.andThen_ok]
  rfl
theorem t_forInL {α β : Type} {f : α → β → Sem (ForInStep β)} (hf : ∀ a b, tame P (f a b)) : ∀ (l : List α) (b : β), tame P (forIn l b f)
  | [], b => by rw [List.forIn_nil]; exact t_pure _
  | a :: l, b => by
    rw [List.forIn_cons]
    refine t_bind (hf a b) fun r => ?_
    cases r with
    | done b => exact t_pure _
    | yield b => exact t_forInL hf l b
theorem t_forInA {α β : Type} {f : α → β → Sem (ForInStep β)} (hf : ∀ a b, tame P (f a b)) (l : Array α) (b : β) : tame P (forIn l b f) := by
  rw [← Array.forIn_toList]
  exact t_forInL hf _ _
theorem x_strByte {E : TypeId} {ad : Addr} {c : Nat} {m : Int} (hx : ρ x = .slice (some ad) 1 c) (hS : P.underlying S = some (.slice E)) (hE : P.underlying E = some (.int .u8)) (hT : P.underlying T = some .string) (hc : w.cell? ad = some (.int .u8 m)) :
    Does P (execOp ρ ⟨d, .convert S T x, ty, ps, af, g⟩) w (.val (.string (ByteArray.empty.push (UInt8.ofNat m.toNat)))) w := by
  have ht : tame P (convert S T (.slice (some ad) 1 c)) := by
    unfold convert
    refine t_knownU hS ?_
    refine t_knownU hT ?_
    refine t_knownU hE ?_
    show tame P (Conv.bytesToString _)
    unfold Conv.bytesToString
    refine t_bind (t_loadCells _ _) fun l => ?_
    refine t_bind (t_forInA (fun a b => ?_) _ _) fun r => t_pure _
    split
    · exact t_pure _
    · exact t_bind (t_stuck _) fun _ => t_pure _
  have hl : ∀ w' : World, w'.heap = w.heap → (loadCells ad 1).run P w' = .ok #[.int .u8 m] w' := fun w' hw => by
    have h1 : w'.cell? ad = some (.int .u8 m) := by rw [← hc]; unfold World.cell?; rw [hw]
    have := run_loadCells_list (P := P) (w := w') ad [.int .u8 m] (fun j v hj => by
      match j, hj with
      | 0, hj => cases hj; simpa [Addr.add] using h1)
    simpa using this
  have hr : ∀ w' : World, w'.heap = w.heap → (convert S T (.slice (some ad) 1 c)).run P w' = .ok (.string (ByteArray.empty.push (UInt8.ofNat m.toNat))) w' := fun w' hw => by
    simp only [convert, Sem.run_bind, run_underlying hS, run_underlying hT, run_underlying hE, Result.andThen_ok, Conv.bytesToString, hl w' hw]
    rfl
  refine .of_tame (t_cvt (t := (do pure (.value (← convert S T (ρ x))) : Sem Next)) rfl (by rw [hx]; exact t_v ht)) rfl rfl fun τ d => ?_
  show (do pure (.value (← convert S T (ρ x))) : Sem Next).run P _ = _
  rw [hx]
  simp only [Sem.run_bind, hr _ (show (Yc.onT w τ d).heap = w.heap from rfl), Result.andThen_ok]
  rfl
end
section
variable {P : Program} [Ctx P] {ρ : Operand → Value} {w : World} {d : Option Nat} {ty : TypeId} {ps : String} {af : Array Edge} {g : Option (Nat × Bool)} {x y : Operand} {T T' S : TypeId}
end
section
variable {P : Program} [Ctx P] {n : Nat} {Q : Exit → Env → World → Prop} {e : Env} {w : World} {ops : Array Oper} {rest : List Oper} {d : Nat} {ty : TypeId} {ps : String} {af : Array Edge} {T E : TypeId}
/-- A slice literal. -/
theorem L.buildF {s m : Nat} {parts : List (Nat × Operand)} {vs : List (Nat × Value)} {zv : Value} {cs : Array Value} (hv : parts.map (fun (i, y) => (i, ev e y)) = vs) (hT : P.underlying T = some (.slice E)) (hs : (P.info? E).map (·.size) = some s) (hz : (P.info? E).bind (·.zero) = some zv) (hlt : 0 < m * s ∧ m * s ≤ 16777216)
    (hf : Instr.fill (fun i => some (i * s, s)) ((Array.range (m * s)).map (fun i => zv.cells[i % zv.cells.size]!)) vs = some cs)
    (k : ∀ w1 b, Fresh w w1 b cs E → L P n ops Q rest (upd e d (.slice (some ⟨b, 0, none⟩) m m)) w1) :
    L P n ops Q (⟨some d, .buildSlice T m parts.toArray, ty, ps, af, none⟩ :: rest) e w := by
  refine L.va (w' := w.alloc (.cells cs E)) (.of_tame (tame_ok rfl _) rfl rfl fun τ d' => ?_) (k _ _ (fresh_alloc w _ E))
  show (execOp (ev e) ⟨some d, .buildSlice T m parts.toArray, ty, ps, af, none⟩).run P (Yc.onT w τ d') = .ok (.value (.slice (some ⟨(Yc.onT w τ d').heap.size, 0, none⟩) m m)) ((Yc.onT w τ d').alloc (.cells cs E))
  generalize Yc.onT w τ d' = w
  have h1 : ¬ (m * s > 2 ^ 24) := by omega
  have h2 : ¬ (m * s = 0) := by omega
  simp only [execOp, Instr.buildSlice, List.map_toArray, hv, Go.Vc.run_underlying hT, Go.Vc.run_sizeOf hs, Sem.run_bind, Result.andThen_ok, h1, h2, if_false, Sem.run_pure, Go.Vc.run_zeroValue hz]
  rw [hf]
  simp [newRow]
end
/-! ### Functions that return or panic -/
def endsP (P : Program) (fn : Func) (R : Ending → World → Prop) : Exit → Env → World → Prop := fun x e w => match x with
  | .panic ch => R (.panicked ch) w
  | x => ends P fn (fun v w => R (.returned v) w) x e w
theorem Calls.enterP {P : Program} [Ctx P] {f : FuncId} {fn : Func} {c : Code} {args : Array Value} {w : World} {R : Ending → World → Prop} {n : Nat} (hf : P.funcs[f]? = some fn) (hb : fn.body = some c) (hn : args.size + (fn.ntmps - args.size) = n)
    (h : W P n c (endsP P fn R) (Vc.argE args) w) : Calls P f args w R := by
  refine calls_of_wp hf hb (wp_mono (h _ ⟨?_, rfl, ?_⟩) ?_)
  · simp [hn]
  · intro t
    simp only [Vc.argE, Array.getD_eq_getD_getElem?, Array.getElem?_append]
    split
    · rfl
    · rename_i ht
      rw [Array.getElem?_eq_none (by omega : args.size ≤ t)]
      simp only [Array.getElem?_replicate]
      split <;> rfl
  · rintro x a w' ⟨e', r, hx⟩
    cases x with
    | panic ch => exact ⟨r.defers, hx⟩
    | normal => obtain ⟨_, v, hv, hR⟩ := hx; exact ⟨r.defers, v, hv a.tmps r.get, hR⟩
    | ret => obtain ⟨_, v, hv, hR⟩ := hx; exact ⟨r.defers, v, hv a.tmps r.get, hR⟩
    | exit id => obtain ⟨hx, _⟩ := hx; rcases hx with hx | hx <;> cases hx
    | goto l => obtain ⟨hx, _⟩ := hx; rcases hx with hx | hx <;> cases hx
    | outgrown => obtain ⟨hx, _⟩ := hx; rcases hx with hx | hx <;> cases hx
end Go.Vy
end
/- Clients whose bodies are lists of operations, told without a program. -/
section
namespace Go.Vy.Sc
open Go Go.Conc Go.Yc Go.RowKit Go.Proofs Go.Proofs.Ytfmoeemolgjodaa
open Go.Vc Go.Wg
/-! ### Numbers as texts -/
def byteB (n : Nat) : ByteArray := ByteArray.empty.push (UInt8.ofNat (48 + n % 10))
def natB (n : Nat) : ByteArray := if n < 10 then byteB n else natB (n / 10) ++ byteB n
termination_by n
decreasing_by omega
theorem natB_lt {n : Nat} (h : n < 10) : natB n = byteB n := by rw [natB, if_pos h]
theorem natB_ge {n : Nat} (h : ¬ n < 10) : natB n = natB (n / 10) ++ byteB n := by rw [natB, if_neg h]
theorem byteB_size (n : Nat) : (byteB n).size = 1 := rfl
theorem natB_size : ∀ (k n : Nat), n < 10 ^ k → (natB n).size ≤ k + 1
  | 0, n, h => by rw [natB_lt (by simp at h; omega), byteB_size]; omega
  | k + 1, n, h => by
    by_cases hn : n < 10
    · rw [natB_lt hn, byteB_size]; omega
    · rw [natB_ge hn, ByteArray.size_append, byteB_size]
      have := natB_size k (n / 10) (by rw [Nat.pow_succ] at h; omega)
      omega
def digB (n : Int) : ByteArray := if n < 0 then ByteArray.mk #[45] ++ natB (-n).toNat else natB n.toNat
theorem digB_size {n : Int} (h : -9223372036854775808 ≤ n ∧ n ≤ 9223372036854775807) : (digB n).size ≤ 30 := by
  unfold digB
  split
  · rw [ByteArray.size_append]
    have := natB_size 19 (-n).toNat (by have : (10 : Nat) ^ 19 = 10000000000000000000 := by decide
                                        omega)
    have h1 : (ByteArray.mk #[45]).size = 1 := rfl
    omega
  · have := natB_size 19 n.toNat (by have : (10 : Nat) ^ 19 = 10000000000000000000 := by decide
                                     omega)
    omega
/-! ### Operations -/
structure OpD where
  kind : Int
  step : Stp
  free : Bool
  cell : Int
  least : Int
  to : Int
  by_ : Int
  text : ByteArray
def opC (o : OpD) : List Value := [.int .i64 o.kind, .int .i64 o.step.kind, .int .i64 o.step.obj, .int .i64 o.step.num, .bool o.free, .int .i64 o.cell, .int .i64 o.least, .int .i64 o.to, .int .i64 o.by_, .string o.text]
def at4 (n : Int) : Nat := pickIx n 4
theorem at4_lt (n : Int) : at4 n < 4 := pickIx_lt n (by decide)
abbrev Cells := Nat → Int
def addC (c : Cells) (k : Nat) (b : Int) : Cells := fun j => if j = k then IntKind.i64.wrap (c j + b) else c j
def consN (k : Nte) (o : Out' Cells (Nat × Nat)) : Out' Cells (Nat × Nat) := { o with nts := k :: o.nts }
def jumps (ops : List OpD) (o : OpD) (j : Nat) (c : Cells) : Bool := decide (o.kind = 6) && decide (c (at4 o.to) < o.least) && decide (j < 50) && decide (0 ≤ o.cell) && decide (o.cell < ops.length)
/-- From operation i on, until it waits or ends; j: how often it has jumped. -/
def opsGo (ops : List OpD) (i j : Nat) (c : Cells) : Out' Cells (Nat × Nat) :=
  if hi : i < ops.length then
    if ops[i].kind = 1 then ⟨c, [], .inl (i, j)⟩ else
    if ops[i].kind = 2 then consN ⟨ops[i].step.kind, ops[i].text ++ digB (c (at4 ops[i].cell))⟩ (opsGo ops (i + 1) j c) else
    if ops[i].kind = 3 then opsGo ops (i + 1) j (addC c (at4 ops[i].to) ops[i].by_) else
    if ops[i].kind = 4 then ⟨c, [], .inr 2⟩ else
    if ops[i].kind = 5 then ⟨c, [], .inr 1⟩ else
    if hj : jumps ops ops[i] j c = true then opsGo ops ops[i].cell.toNat (j + 1) c else opsGo ops (i + 1) j c
  else ⟨c, [], .inr 1⟩
termination_by (50 - j, ops.length - i)
decreasing_by
  all_goals simp_wf
  all_goals simp only [Prod.lex_def]
  · exact .inr ⟨trivial, by omega⟩
  · exact .inr ⟨trivial, by omega⟩
  · refine .inl ?_
    simp [jumps] at hj
    omega
  · exact .inr ⟨trivial, by omega⟩
section
variable {ops : List OpD} {i j : Nat} {c : Cells} {o : OpD}
theorem opsGo_end (h : ¬ i < ops.length) : opsGo ops i j c = ⟨c, [], .inr 1⟩ := by rw [opsGo, dif_neg h]
theorem opsGo_at (h : ops[i]? = some o) : opsGo ops i j c = if o.kind = 1 then ⟨c, [], .inl (i, j)⟩ else
    if o.kind = 2 then consN ⟨o.step.kind, o.text ++ digB (c (at4 o.cell))⟩ (opsGo ops (i + 1) j c) else
    if o.kind = 3 then opsGo ops (i + 1) j (addC c (at4 o.to) o.by_) else
    if o.kind = 4 then ⟨c, [], .inr 2⟩ else
    if o.kind = 5 then ⟨c, [], .inr 1⟩ else
    if jumps ops o j c = true then opsGo ops o.cell.toNat (j + 1) c else opsGo ops (i + 1) j c := by
  obtain ⟨hi, rfl⟩ := List.getElem?_eq_some_iff.1 h
  conv => lhs; rw [opsGo]
  rw [dif_pos hi]
  simp only [dite_eq_ite]
end
/-- A measure that falls. -/
def meas (ops : List OpD) (i j : Nat) : Nat := (50 - j) * (ops.length + 1) + (ops.length - i)
theorem meas_next {ops : List OpD} {i j : Nat} (h : i < ops.length) : meas ops (i + 1) j < meas ops i j := by unfold meas; omega
theorem meas_jump {ops : List OpD} {i j k : Nat} (h : j < 50) : meas ops k (j + 1) < meas ops i j := by
  unfold meas
  have h1 : 50 - j = (50 - (j + 1)) + 1 := by omega
  rw [h1, Nat.add_mul]
  omega
/-- Cells hold what an int64 may be. -/
def CellsOk (c : Cells) : Prop := ∀ k, -9223372036854775808 ≤ c k ∧ c k ≤ 9223372036854775807
theorem wrap_ok (z : Int) : -9223372036854775808 ≤ IntKind.i64.wrap z ∧ IntKind.i64.wrap z ≤ 9223372036854775807 := by
  simp [IntKind.wrap, IntKind.signed, IntKind.bits]
  split <;> omega
theorem CellsOk.add {c : Cells} (h : CellsOk c) (k : Nat) (b : Int) : CellsOk (addC c k b) := fun j => by
  unfold addC
  split
  · exact wrap_ok _
  · exact h j
end Go.Vy.Sc
end
/- Small functions of the law and of the document: what each returns. -/
section
namespace Go.Vy.Sc
open Go Go.Conc Go.Yc Go.RowKit Go.Proofs Go.Proofs.Ytfmoeemolgjodaa
open Go.Vc
section
variable [Ctx Try.prog]
end
section
theorem rem_val (n : Int) : (n.tmod 4 + 4).tmod 4 = ((at4 n : Nat) : Int) := mod2 n (n := 4) (by decide)
theorem rem_bd (n : Int) : -9223372036854775808 ≤ n.tmod 4 + 4 ∧ n.tmod 4 + 4 ≤ 9223372036854775807 := by
  have h : -1000 ≤ n.tmod 4 ∧ n.tmod 4 ≤ 1000 := tmod_bd n (n := 4) (by decide) (by decide)
  omega
theorem u64_in {m : Int} (h : 0 ≤ m ∧ m < 18446744073709551616) : IntKind.u64.wrap m = m := by
  simp [IntKind.wrap, IntKind.signed, IntKind.bits]; omega
theorem u8_in {m : Int} (h : 0 ≤ m ∧ m < 256) : IntKind.u8.wrap m = m := by
  simp [IntKind.wrap, IntKind.signed, IntKind.bits]; omega
end
section
variable [Ctx Try.prog]
def natD (i : Nat) : Nat := if i < 10 then 10 + i else 2
def natV (n : Nat) (i : Nat) : Value := match i with
  | 0 => .int .u64 (n : Int)
  | 1 => .int .u64 (IntKind.u64.wrap ((n : Int).tdiv 10))
  | 2 => .string (natB (n / 10))
  | 3 => .int .u64 (n : Int)
  | 4 => .int .u64 ((n : Int).tmod 10)
  | 5 => .int .u64 (IntKind.u64.wrap (48 + (n : Int).tmod 10))
  | 6 => .int .u8 (IntKind.u8.wrap (IntKind.u64.wrap (48 + (n : Int).tmod 10)))
  | 8 => .string (ByteArray.empty.push (UInt8.ofNat (IntKind.u8.wrap (IntKind.u64.wrap (48 + (n : Int).tmod 10))).toNat))
  | _ => .string (natB (n / 10) ++ (ByteArray.empty.push (UInt8.ofNat (IntKind.u8.wrap (IntKind.u64.wrap (48 + (n : Int).tmod 10))).toNat)))
def natI (n : Nat) (i : Nat) (e : Env) (u : World) : Prop := if i = 7 then ∃ b, e 17 = .slice (some ⟨b, 0, none⟩) 1 1 ∧ Blk u b #[.int .u8 (IntKind.u8.wrap (IntKind.u64.wrap (48 + (n : Int).tmod 10)))] 5 else e (natD i) = natV n i
end
section
theorem natI_keep {n i j : Nat} {e : Env} {u u' : World} {v : Value} (hi : i < 11) (hj : j < 11) (hne : j ≠ i) (hb : Below u.heap.size u u') (h : natI n j e u) : natI n j (upd e (natD i) v) u' := by
  unfold natI at h ⊢
  split
  · rename_i h7
    subst h7
    obtain ⟨b, h1, h2⟩ := h
    refine ⟨b, ?_, h2.keep hb⟩
    rw [← h1]
    unfold upd
    rw [if_neg (by unfold natD; split <;> omega)]
  · rename_i h7
    rw [if_neg h7] at h
    rw [← h]
    unfold upd
    rw [if_neg (by unfold natD; split <;> split <;> omega)]
end
section
variable [Ctx Try.prog]
def natJ (n : Nat) (w0 : World) (D : Nat → Bool) (e : Env) (u : World) : Prop := Below w0.heap.size w0 u ∧ e 0 = .int .u64 (n : Int) ∧ ∀ j, j < 11 → D j = true → natI n j e u
end
section
theorem natJ_step {n : Nat} {w0 : World} {D : Nat → Bool} {e : Env} {u u' : World} {i : Nat} {v : Value} (hi : i < 11) (h : natJ n w0 D e u) (hb : Below u.heap.size u u') (hv : natI n i (upd e (natD i) v) u') : natJ n w0 (setD D i) (upd e (natD i) v) u' := by
  obtain ⟨h1, h2, h3⟩ := h
  refine ⟨cl_step h1 hb, ?_, fun j hj hD => ?_⟩
  · rw [← h2]; unfold upd; rw [if_neg (by unfold natD; split <;> omega)]
  · by_cases hji : j = i
    · subst hji; exact hv
    · exact natI_keep hi hj hji hb (h3 j hj (by simpa [setD, hji] using hD))
theorem stepI_val {P : Program} [Ctx P] {ops : Array Oper} {I : (Nat → Bool) → Env → World → Prop} {i : Nat} {o : Oper} {D : Nat → Bool} {e : Env} {w w' : World} {v : Value} (hw : Region.wanted o (yieldE ops e) = true) (h : Does P (execOp (ev e) o) w (.val v) w') (hI : I (setD D i) (updO e o.dst v) w') : StepI P ops I i o D e w :=
  .inl ⟨hw, fun τ d => ⟨.val v, Yc.onT w' τ d, h.go τ d, by have h1 := h.tape; have h2 := h.drawn; show I _ _ (Yc.onT (Yc.onT w' τ d) w.tape w.drawn); rw [← h1, ← h2]; exact hI⟩⟩
theorem stepI_call {P : Program} [Ctx P] {ops : Array Oper} {I : (Nat → Bool) → Env → World → Prop} {i : Nat} {o : Oper} {D : Nat → Bool} {e : Env} {w : World} {f : FuncId} {args : Array Value} (hw : Region.wanted o (yieldE ops e) = true) (h : Does P (execOp (ev e) o) w (.enter f args) w) (hI : C P f args w (fun v w'' => I (setD D i) (updO e o.dst v) w'')) : StepI P ops I i o D e w :=
  .inl ⟨hw, fun τ d => ⟨.enter f args, Yc.onT w τ d, h.go τ d, hI⟩⟩
theorem byte_val {n : Nat} (h : n < 10) : ByteArray.empty.push (UInt8.ofNat (IntKind.u8.wrap (IntKind.u64.wrap (48 + (n : Int)))).toNat) = byteB n := by
  rw [u64_in (by omega), u8_in (by omega)]
  have h1 : (48 + (n : Int)).toNat = 48 + n % 10 := by omega
  rw [h1]; rfl
theorem nat_lt {n : Nat} (h : n < 10) : ByteArray.empty.push (UInt8.ofNat (IntKind.u8.wrap (IntKind.u64.wrap (48 + (n : Int)))).toNat) = natB n := by
  rw [byte_val h, natB_lt h]
theorem nat_ge {n : Nat} (h : ¬ n < 10) : natB (n / 10) ++ ByteArray.empty.push (UInt8.ofNat (IntKind.u8.wrap (IntKind.u64.wrap (48 + (n : Int).tmod 10))).toNat) = natB n := by
  have h1 : (n : Int).tmod 10 = ((n % 10 : Nat) : Int) := rfl
  rw [h1, byte_val (by omega), natB_ge h]
  have : byteB (n % 10) = byteB n := by unfold byteB; rw [Nat.mod_mod]
  rw [this]
theorem quo_val {n : Nat} (h : n < 18446744073709551616) : IntKind.u64.wrap ((n : Int).tdiv 10) = ((n / 10 : Nat) : Int) := by
  have h1 : (n : Int).tdiv 10 = ((n / 10 : Nat) : Int) := rfl
  rw [h1, u64_in (by omega)]
end
section
variable [Ctx Try.prog]
theorem at_c (n : Int) (w : World) : C Try.prog 34 #[.int .i64 n] w fun v w1 => v = .int .i64 (at4 n : Nat) ∧ w1 = w := by
  refine C.enter (n := 7) Try.func34 rfl rfl ?_
  refine W.seq ?_
  refine W.region rfl ?_
  refine L.va (x_asI rfl) ?_
  refine L.nil ?_
  show W _ _ _ _ _ _
  refine W.seq ?_
  refine W.region rfl ?_
  refine L.va (x_mvI rfl) ?_
  refine L.va (x_rem (m := n) (k := 4) rfl rfl (by decide)) ?_
  refine L.va (x_addI (m := n.tmod 4) (k := 4) rfl rfl (rem_bd n)) ?_
  refine L.va (x_rem (m := n.tmod 4 + 4) (k := 4) rfl rfl (by decide)) ?_
  refine L.va (x_asI rfl) ?_
  refine L.nil ?_
  show W _ _ _ _ _ _
  refine W.ret ?_
  repeat (first | refine T.ret ?_ | refine B.ret ?_ | refine N.ret ?_)
  refine ends.one (.inr rfl) rfl ?_
  exact ⟨congrArg (Value.int .i64) (rem_val n), rfl⟩



theorem natural_step (n : Nat) (hn : n < 18446744073709551616) (w0 : World) (ih : ¬ n < 10 → ∀ w, C Try.prog 49 #[.int .u64 (IntKind.u64.wrap ((n : Int).tdiv 10))] w fun v w1 => v = .string (natB (n / 10)) ∧ Below w.heap.size w w1) : C Try.prog 49 #[.int .u64 (n : Int)] w0 fun v w1 => v = .string (natB n) ∧ Below w0.heap.size w0 w1 := by
  refine C.enter (n := 20) Try.func49 rfl rfl ?_
  have hb : Below w0.heap.size w0 w0 := Below.refl _ _
  refine W.seq ?_
  refine W.region rfl ?_
  refine L.va x_assign ?_
  refine L.nil ?_
  show W _ _ _ _ _ _
  refine W.seq ?_
  refine W.seq ?_
  refine W.region rfl ?_
  refine L.va x_move ?_
  refine L.va (x_lss (κ := .u64) (m := (n : Int)) (k := 10) rfl rfl) ?_
  refine L.nil ?_
  show W _ _ _ _ _ _
  refine W.cond rfl (fun h4 => ?_) (fun h4 => ?_)
  · have h4 : n < 10 := by have := of_decide_eq_true h4; omega
    refine W.seq ?_
    refine W.region rfl ?_
    refine L.va x_move ?_
    refine L.va (x_add (κ := .u64) (m := 48) (k := (n : Int)) rfl rfl) ?_
    refine L.va (x_convI rfl Try.underlying84 Try.underlying5) ?_
    refine L.build1 (cs := #[.int .u8 (IntKind.u8.wrap (IntKind.u64.wrap (48 + (n : Int))))]) rfl rfl Try.underlying116 sz5 rfl ⟨_, zr5⟩ (by decide) (fun w b8 F8 => ?_)
    have hb := cl_step hb F8.below
    have hB8 := F8.blk
    refine L.va (x_strByte (m := IntKind.u8.wrap (IntKind.u64.wrap (48 + (n : Int)))) rfl Try.underlying116 Try.underlying5 Try.underlying9 (hB8.cellAt 0 rfl)) ?_
    refine L.va x_assign ?_
    refine L.nil ?_
    show W _ _ _ _ _ _
    refine W.ret ?_
    repeat (first | refine T.ret ?_ | refine B.ret ?_ | refine N.ret ?_)
    refine ends.one (.inr rfl) rfl ?_
    exact ⟨congrArg Value.string (nat_lt h4), hb⟩
  · have h4 : ¬ n < 10 := by have := of_decide_eq_false h4; omega
    refine W.skip ?_
    show W _ _ _ _ _ _
    refine W.seq ?_
    refine W.inv (natJ n w0) rfl (by kernel_rfl) ⟨hb.drew, rfl, fun j _ hD => by cases hD⟩ ?_ (fun D e u hall hJ => ?_)
    · intro i o hi D e u hD hdep hclo hJ
      have hJ0 := hJ
      obtain ⟨hbu, h0, hv⟩ := hJ
      have get : ∀ j, j < 11 → j ≠ 7 → D j = true → e (natD j) = natV n j := fun j hj h7 hd => by have := hv j hj hd; unfold natI at this; rwa [if_neg h7] at this
      match i, hi, hdep with
      | 0, hi, hdep =>
        obtain rfl := Option.some.inj hi
        refine stepI_val rfl (x_move) ?_
        exact natJ_step (i := 0) (by decide) hJ0 (Below.refl _ _) (by unfold natI; rw [if_neg (by decide)]; exact (upd_same _ _ _).trans h0)
      | 1, hi, hdep =>
        obtain rfl := Option.some.inj hi
        have d0 : D 0 = true := hdep _ (Array.mem_of_getElem? (i := 0) rfl) rfl
        have g0 : e 10 = natV n 0 := get 0 (by decide) (by decide) d0
        refine stepI_val rfl (x_quo (κ := .u64) (m := (n : Int)) (k := 10) g0 rfl (by decide)) ?_
        exact natJ_step (i := 1) (by decide) hJ0 (Below.refl _ _) (by unfold natI; rw [if_neg (by decide)]; rfl)
      | 2, hi, hdep =>
        obtain rfl := Option.some.inj hi
        have d1 : D 1 = true := hdep _ (Array.mem_of_getElem? (i := 0) rfl) rfl
        have g1 : e 11 = natV n 1 := get 1 (by decide) (by decide) d1
        refine stepI_call rfl (x_call1 g1 Try.func49 rfl nm49 rfl) (C.mono (ih h4 u) fun v u2 hx => ?_)
        obtain ⟨rfl, hx⟩ := hx
        exact natJ_step (i := 2) (by decide) hJ0 hx (by unfold natI; rw [if_neg (by decide)]; rfl)
      | 3, hi, hdep =>
        obtain rfl := Option.some.inj hi
        refine stepI_val rfl (x_move) ?_
        exact natJ_step (i := 3) (by decide) hJ0 (Below.refl _ _) (by unfold natI; rw [if_neg (by decide)]; exact (upd_same _ _ _).trans h0)
      | 4, hi, hdep =>
        obtain rfl := Option.some.inj hi
        have d3 : D 3 = true := hdep _ (Array.mem_of_getElem? (i := 0) rfl) rfl
        have g3 : e 13 = natV n 3 := get 3 (by decide) (by decide) d3
        refine stepI_val rfl (x_rem (κ := .u64) (m := (n : Int)) (k := 10) g3 rfl (by decide)) ?_
        exact natJ_step (i := 4) (by decide) hJ0 (Below.refl _ _) (by unfold natI; rw [if_neg (by decide)]; rfl)
      | 5, hi, hdep =>
        obtain rfl := Option.some.inj hi
        have d4 : D 4 = true := hdep _ (Array.mem_of_getElem? (i := 0) rfl) rfl
        have g4 : e 14 = natV n 4 := get 4 (by decide) (by decide) d4
        refine stepI_val rfl (x_add (κ := .u64) (m := 48) (k := (n : Int).tmod 10) rfl g4) ?_
        exact natJ_step (i := 5) (by decide) hJ0 (Below.refl _ _) (by unfold natI; rw [if_neg (by decide)]; rfl)
      | 6, hi, hdep =>
        obtain rfl := Option.some.inj hi
        have d5 : D 5 = true := hdep _ (Array.mem_of_getElem? (i := 0) rfl) rfl
        have g5 : e 15 = natV n 5 := get 5 (by decide) (by decide) d5
        refine stepI_val rfl (x_convI g5 Try.underlying84 Try.underlying5) ?_
        exact natJ_step (i := 6) (by decide) hJ0 (Below.refl _ _) (by unfold natI; rw [if_neg (by decide)]; rfl)
      | 7, hi, hdep =>
        obtain rfl := Option.some.inj hi
        have d6 : D 6 = true := hdep _ (Array.mem_of_getElem? (i := 0) rfl) rfl
        have g6 : e 16 = natV n 6 := get 6 (by decide) (by decide) d6
        have hf := fresh_alloc u #[.int .u8 (IntKind.u8.wrap (IntKind.u64.wrap (48 + (n : Int).tmod 10)))] 5
        refine stepI_val rfl (x_build1 (v := .int .u8 (IntKind.u8.wrap (IntKind.u64.wrap (48 + (n : Int).tmod 10)))) g6 rfl Try.underlying116 sz5 zr5 rfl) ?_
        exact natJ_step (i := 7) (by decide) hJ0 hf.below (by unfold natI; rw [if_pos rfl]; exact ⟨_, rfl, hf.blk⟩)
      | 8, hi, hdep =>
        obtain rfl := Option.some.inj hi
        have d7 : D 7 = true := hdep _ (Array.mem_of_getElem? (i := 0) rfl) rfl
        have h7 := hv 7 (by decide) d7
        unfold natI at h7
        rw [if_pos rfl] at h7
        obtain ⟨b, g7, hB⟩ := h7
        refine stepI_val rfl (x_strByte (m := IntKind.u8.wrap (IntKind.u64.wrap (48 + (n : Int).tmod 10))) g7 Try.underlying116 Try.underlying5 Try.underlying9 (hB.cellAt 0 rfl)) ?_
        exact natJ_step (i := 8) (by decide) hJ0 (Below.refl _ _) (by unfold natI; rw [if_neg (by decide)]; rfl)
      | 9, hi, hdep =>
        obtain rfl := Option.some.inj hi
        have d2 : D 2 = true := hdep _ (Array.mem_of_getElem? (i := 0) rfl) rfl
        have g2 : e 12 = natV n 2 := get 2 (by decide) (by decide) d2
        have d8 : D 8 = true := hdep _ (Array.mem_of_getElem? (i := 1) rfl) rfl
        have g8 : e 18 = natV n 8 := get 8 (by decide) (by decide) d8
        refine stepI_val rfl (x_addStr g2 g8 (by have := natB_size 20 (n / 10) (by omega); have h9 : (ByteArray.empty.push (UInt8.ofNat (IntKind.u8.wrap (IntKind.u64.wrap (48 + (n : Int).tmod 10))).toNat)).size = 1 := rfl; omega)) ?_
        exact natJ_step (i := 9) (by decide) hJ0 (Below.refl _ _) (by unfold natI; rw [if_neg (by decide)]; rfl)
      | 10, hi, hdep =>
        obtain rfl := Option.some.inj hi
        have d9 : D 9 = true := hdep _ (Array.mem_of_getElem? (i := 0) rfl) rfl
        have g9 : e 19 = natV n 9 := get 9 (by decide) (by decide) d9
        refine stepI_val rfl (x_assign) ?_
        exact natJ_step (i := 10) (by decide) hJ0 (Below.refl _ _) (by unfold natI; rw [if_neg (by decide)]; exact (upd_same _ _ _).trans g9)
      | i + 11, hi, hdep => cases hi
    · obtain ⟨hbu, h0, hv⟩ := hJ
      have h2 := hv 10 (by decide) (hall 10 (by decide))
      have h2 : e 2 = .string (natB (n / 10) ++ (ByteArray.empty.push (UInt8.ofNat (IntKind.u8.wrap (IntKind.u64.wrap (48 + (n : Int).tmod 10))).toNat))) := h2
      repeat (first | refine T.nrm ?_ | refine B.nrm ?_ | refine N.nrm ?_)
      show W _ _ _ _ _ _
      refine W.ret ?_
      repeat (first | refine T.ret ?_ | refine B.ret ?_ | refine N.ret ?_)
      refine ends.one (.inr rfl) rfl ?_
      exact ⟨h2.trans (congrArg Value.string (nat_ge h4)), hbu⟩

theorem natural_c : ∀ (n : Nat), n < 18446744073709551616 → ∀ w, C Try.prog 49 #[.int .u64 (n : Int)] w fun v w1 => v = .string (natB n) ∧ Below w.heap.size w w1 := by
  intro n
  induction n using Nat.strongRecOn with
  | _ n ih =>
    intro hn w
    refine natural_step n hn w fun h w' => ?_
    rw [quo_val hn]
    exact ih (n / 10) (by omega) (by omega) w'

theorem digits_c (n : Int) (hn : -9223372036854775808 ≤ n ∧ n ≤ 9223372036854775807) (w0 : World) : C Try.prog 42 #[.int .i64 n] w0 fun v w1 => v = .string (digB n) ∧ Below w0.heap.size w0 w1 := by
  refine C.enter (n := 15) Try.func42 rfl rfl ?_
  have hb : Below w0.heap.size w0 w0 := Below.refl _ _
  refine W.seq ?_
  refine W.region rfl ?_
  refine L.va x_assign ?_
  refine L.nil ?_
  show W _ _ _ _ _ _
  refine W.seq ?_
  refine W.seq ?_
  refine W.region rfl ?_
  refine L.va (x_mvI rfl) ?_
  refine L.va (x_lss (κ := .i64) (m := n) (k := 0) rfl rfl) ?_
  refine L.nil ?_
  show W _ _ _ _ _ _
  refine W.cond rfl (fun h4 => ?_) (fun h4 => ?_)
  · have h4 : n < 0 := of_decide_eq_true h4
    refine W.seq ?_
    refine W.region rfl ?_
    refine L.va (x_mvI rfl) ?_
    refine L.va (x_addI (m := n) (k := 1) rfl rfl (by omega)) ?_
    refine L.va (x_neg (k := n + 1) rfl (by omega)) ?_
    refine L.va (x_convI rfl Try.underlying2 Try.underlying84) ?_
    refine L.va (x_add (κ := .u64) (m := IntKind.u64.wrap (-(n + 1))) (k := 1) rfl rfl) ?_
    have hneg : IntKind.u64.wrap (IntKind.u64.wrap (-(n + 1)) + 1) = (((-n).toNat : Nat) : Int) := by rw [u64_in (m := -(n + 1)) (by omega), u64_in (by omega)]; omega
    refine L.call (x_call1 rfl Try.func49 rfl nm49 rfl) (by have := natural_c (-n).toNat (by omega) w0; rw [← hneg] at this; exact this) ?_
    rintro _ w ⟨rfl, hbw⟩
    have hb := cl_step hb hbw
    refine L.va (x_addStr (a := ByteArray.mk #[45]) rfl rfl (by have := natB_size 20 (-n).toNat (by omega); have h9 : (ByteArray.mk #[45]).size = 1 := rfl; omega)) ?_
    refine L.va x_assign ?_
    refine L.nil ?_
    show W _ _ _ _ _ _
    refine W.ret ?_
    repeat (first | refine T.ret ?_ | refine B.ret ?_ | refine N.ret ?_)
    refine ends.one (.inr rfl) rfl ?_
    exact ⟨congrArg Value.string (by unfold digB; rw [if_pos h4]), hb⟩
  · have h4 : ¬ n < 0 := of_decide_eq_false h4
    refine W.skip ?_
    show W _ _ _ _ _ _
    refine W.seq ?_
    refine W.region rfl ?_
    refine L.va (x_mvI rfl) ?_
    refine L.va (x_convI rfl Try.underlying2 Try.underlying84) ?_
    have hpos : IntKind.u64.wrap n = ((n.toNat : Nat) : Int) := by rw [u64_in (by omega)]; omega
    refine L.call (x_call1 rfl Try.func49 rfl nm49 rfl) (by have := natural_c n.toNat (by omega) w0; rw [← hpos] at this; exact this) ?_
    rintro _ w ⟨rfl, hbw⟩
    have hb := cl_step hb hbw
    refine L.va x_assign ?_
    refine L.nil ?_
    show W _ _ _ _ _ _
    refine W.ret ?_
    repeat (first | refine T.ret ?_ | refine B.ret ?_ | refine N.ret ?_)
    refine ends.one (.inr rfl) rfl ?_
    exact ⟨congrArg Value.string (by unfold digB; rw [if_neg h4]), hb⟩

end
end Go.Vy.Sc
end
/- Clients whose bodies are lists of operations: what they lean on. -/
section
namespace Go.Vy.Sc
open Go Go.Conc Go.Yc Go.RowKit Go.Proofs Go.Proofs.Ytfmoeemolgjodaa
open Go.Vc Go.Wg
def shC (c : Cells) : Array Value := #[.int .i64 (c 0), .int .i64 (c 1), .int .i64 (c 2), .int .i64 (c 3), .bool false, .bool false]
theorem shC_at (c : Cells) {k : Nat} (h : k < 4) : (shC c)[k]? = some (.int .i64 (c k)) := by
  match k, h with
  | 0, _ => rfl
  | 1, _ => rfl
  | 2, _ => rfl
  | 3, _ => rfl
theorem shC_add (c : Cells) {k : Nat} (h : k < 4) (b : Int) : setRow (shC c) k [.int .i64 (IntKind.i64.wrap (c k + b))] = shC (addC c k b) := by
  match k, h with
  | 0, _ => simp [setRow, shC, addC]
  | 1, _ => simp [setRow, shC, addC]
  | 2, _ => simp [setRow, shC, addC]
  | 3, _ => simp [setRow, shC, addC]
/-- Where the bodies' things lie. -/
structure Lay where
  m : Nat
  sb : Nat
  bo : Nat → List OpD
  ba : Nat → Option Addr
  bc : Nat → Nat
  b1 : Nat → Nat
  b2 : Nat → Nat
  RO : Nat → Prop
  wB : World
  lb : Nat
  pl : Nat → Plug
def Lay.F (Λ : Lay) (b : Nat) : Prop := b = Λ.sb ∨ Λ.RO b
structure ShInv (Λ : Lay) (c : Cells) (w : World) : Prop where
  sh : BlkF w Λ.sb (shC c) 39 (0, 0)
  ro : ∀ b, Λ.RO b → w.heap[b]? = Λ.wB.heap[b]? ∧ b < w.heap.size ∧ w.heap[b]? ≠ some nothing
  ok : CellsOk c
def bodiesSys (Λ : Lay) : Sys where
  S := Cells
  L := Nat × Nat
  m := Λ.m
  s0 := fun _ => 0
  nil := fun _ => false
  stp := fun i l => (((Λ.bo i)[l.1]?).map (·.step)).getD sp0
  rdy := fun i l s => match (Λ.bo i)[l.1]? with
    | some o => o.free || decide (o.least ≤ s (at4 o.cell))
    | none => true
  beg := fun i s => opsGo (Λ.bo i) 0 0 s
  go := fun i l s => match (Λ.bo i)[l.1]? with
    | some o => opsGo (Λ.bo i) (l.1 + 1) l.2 (addC s (at4 o.to) o.by_)
    | none => ⟨s, [], .inr 1⟩
  Inv := fun s w F => F = Λ.F ∧ ShInv Λ s w
  lb := Λ.lb
  pl := Λ.pl
theorem blkF_ne_nothing {w : World} {b : Nat} {cs : Array Value} {T : TypeId} {f : Nat × Nat} (h : BlkF w b cs T f) (hc : 0 < cs.size) : w.heap[b]? ≠ some nothing := by
  unfold BlkF at h
  rw [h]
  intro e
  unfold nothing at e
  injection e with e
  injection e with e
  rw [e] at hc
  simp at hc
theorem ShInv.vis {Λ : Lay} {c : Cells} {w : World} (h : ShInv Λ c w) {b : Nat} (hb : Λ.F b) : b < w.heap.size ∧ w.heap[b]? ≠ some nothing := by
  rcases hb with rfl | hb
  · exact ⟨h.sh.lt, blkF_ne_nothing h.sh (by show 0 < 6; decide)⟩
  · exact (h.ro b hb).2
theorem ShInv.loc {Λ : Lay} {c : Cells} {w w' : World} (h : ShInv Λ c w) (hw : ∀ b, Λ.F b → w'.heap[b]? = w.heap[b]?) : ShInv Λ c w' := by
  refine ⟨(hw _ (.inl rfl)).trans h.sh, fun b hb => ?_, h.ok⟩
  have := h.ro b hb
  have he := hw b (.inr hb)
  refine ⟨he.trans this.1, ?_, by rw [he]; exact this.2.2⟩
  rcases Nat.lt_or_ge b w'.heap.size with z | z
  · exact z
  · rw [Array.getElem?_eq_none z, Array.getElem?_eq_getElem this.2.1] at he; cases he
theorem bodies_ok (Λ : Lay) : SysOk (bodiesSys Λ) := by
  refine ⟨fun s w w' F h hw => ?_, fun s w F h b hb => ?_⟩
  · obtain ⟨rfl, h⟩ := h
    exact ⟨rfl, h.loc hw⟩
  · obtain ⟨rfl, h⟩ := h
    exact h.vis hb
/-- What lies there when the clients begin. -/
structure LayOk (Λ : Lay) : Prop where
  ops : ∀ i, i < Λ.m → ∀ (k : Nat) (o : OpD), (Λ.bo i)[k]? = some o → ∀ (j : Nat) (v : Value), (opC o)[j]? = some v → Λ.wB.cell? ⟨ab (Λ.ba i), ao (Λ.ba i) + k * 10 + j, none⟩ = some v
  sl : ∀ i, i < Λ.m → SL (Λ.ba i) (Λ.bo i).length
  sep : ¬ Λ.RO Λ.sb
  roA : ∀ i, i < Λ.m → 0 < (Λ.bo i).length → Λ.RO (ab (Λ.ba i))
  ro1 : ∀ i, i < Λ.m → Λ.RO (Λ.b1 i)
  ro2 : ∀ i, i < Λ.m → Λ.RO (Λ.b2 i)
  box1 : ∀ i, i < Λ.m → BlkF Λ.wB (Λ.b1 i) #[.slice (Λ.ba i) (Λ.bo i).length (Λ.bc i)] 64 (0, 0)
  box2 : ∀ i, i < Λ.m → BlkF Λ.wB (Λ.b2 i) #[.pointer (some ⟨Λ.sb, 0, none⟩)] 32 (0, 0)
  len : ∀ i, i < Λ.m → (Λ.bo i).length ≤ 1000000000
  text : ∀ i, i < Λ.m → ∀ (k : Nat) (o : OpD), (Λ.bo i)[k]? = some o → o.text.size ≤ 1000000000000
section
variable {Λ : Lay} {fb : Nat → FuncId} {q : PR (bodiesSys Λ)} {w0 : World} {n cb : Nat} {top : List Frame}
/-- Client n is before operation i, has jumped j times, and the shared cells are c. -/
structure BSt (Λ : Lay) (fb : Nat → FuncId) (q : PR (bodiesSys Λ)) (w0 : World) (n cb : Nat) (top : List Frame) (i j : Nat) (c : Cells) (w : World) : Prop where
  inv : ShInv Λ c w
  fate : ((bodiesSys Λ).outAt q (gh w 0)).fate = (opsGo (Λ.bo n) i j c).fate
  s : ((bodiesSys Λ).outAt q (gh w 0)).s = (opsGo (Λ.bo n) i j c).s
  nts : ∃ pre, ((bodiesSys Λ).outAt q (gh w 0)).nts = pre ++ (opsGo (Λ.bo n) i j c).nts ∧ pre.length = gh w 1
  on : gh w 2 = 0
  os : w.os = w0.os
  output : w.output = w0.output
theorem BSt.to {i j i' j' : Nat} {c c' : Cells} {w w' : World} (h : BSt Λ fb q w0 n cb top i j c w) (he : opsGo (Λ.bo n) i j c = opsGo (Λ.bo n) i' j' c') (hi : ShInv Λ c' w') (ht : w'.tape = w.tape) (ho : w'.os = w.os ∧ w'.output = w.output) : BSt Λ fb q w0 n cb top i' j' c' w' := by
  refine ⟨hi, ?_, ?_, ?_, ?_, ho.1.trans h.os, ho.2.trans h.output⟩
  · rw [gh_tape ht, ← he]; exact h.fate
  · rw [gh_tape ht, ← he]; exact h.s
  · rw [gh_tape ht, gh_tape ht, ← he]; exact h.nts
  · rw [gh_tape ht]; exact h.on
theorem BSt.keep {i j : Nat} {c : Cells} {w w' : World} (h : BSt Λ fb q w0 n cb top i j c w) (hb : Below w.heap.size w w') : BSt Λ fb q w0 n cb top i j c w' :=
  h.to rfl (h.inv.loc fun b hb' => hb.block b (h.inv.vis hb').1) hb.tape ⟨hb.os, hb.output⟩
theorem BSt.told {i j : Nat} {c : Cells} {w : World} {f : (Nat × Nat) ⊕ Nat} (h : BSt Λ fb q w0 n cb top i j c w) (he : opsGo (Λ.bo n) i j c = ⟨c, [], f⟩) : ((bodiesSys Λ).cfg fb q w0 n cb top).Told w Λ.F f := by
  obtain ⟨pre, h1, h2⟩ := h.nts
  refine ⟨h.on, ?_, ?_, ?_, h.os, h.output⟩
  · exact h.fate.trans (by rw [he])
  · show gh w 1 = ((bodiesSys Λ).outAt q (gh w 0)).nts.length
    rw [h1, he, ← h2]; simp
  · show Λ.F = Λ.F ∧ ShInv Λ ((bodiesSys Λ).outAt q (gh w 0)).s w
    refine ⟨rfl, ?_⟩
    rw [h.s, he]; exact h.inv
theorem BSt.row {i j k : Nat} {c : Cells} {w : World} {o : OpD} (hΛ : LayOk Λ) (hn : n < Λ.m) (h : BSt Λ fb q w0 n cb top i j c w) (ho : (Λ.bo n)[k]? = some o) (x : Nat) (v : Value) (hv : (opC o)[x]? = some v) : w.cell? ⟨ab (Λ.ba n), ao (Λ.ba n) + k * 10 + x, none⟩ = some v := by
  have hl := (List.getElem?_eq_some_iff.1 ho).1
  have := (h.inv.ro _ (hΛ.roA n hn (by omega))).1
  rw [← hΛ.ops n hn k o ho x v hv]
  exact (cell_of_heap (u := Λ.wB) (u' := w) (a := ⟨ab (Λ.ba n), ao (Λ.ba n) + k * 10 + x, none⟩) this).1
theorem BSt.b1 {i j : Nat} {c : Cells} {w : World} (hΛ : LayOk Λ) (hn : n < Λ.m) (h : BSt Λ fb q w0 n cb top i j c w) : BlkF w (Λ.b1 n) #[.slice (Λ.ba n) (Λ.bo n).length (Λ.bc n)] 64 (0, 0) := (h.inv.ro _ (hΛ.ro1 n hn)).1.trans (hΛ.box1 n hn)
theorem BSt.b2 {i j : Nat} {c : Cells} {w : World} (hΛ : LayOk Λ) (hn : n < Λ.m) (h : BSt Λ fb q w0 n cb top i j c w) : BlkF w (Λ.b2 n) #[.pointer (some ⟨Λ.sb, 0, none⟩)] 32 (0, 0) := (h.inv.ro _ (hΛ.ro2 n hn)).1.trans (hΛ.box2 n hn)
theorem BSt.start {u : World} {F : Nat → Prop} (hs : Starts ((bodiesSys Λ).cfg fb q w0 n cb top) ((bodiesSys Λ).beg n) u F) : F = Λ.F ∧ BSt Λ fb q w0 n cb top 0 0 ((bodiesSys Λ).sAt q (gh u 0)) u := by
  obtain ⟨hF, hi⟩ := hs.inv
  have ho : (bodiesSys Λ).outAt q (gh u 0) = opsGo (Λ.bo n) 0 0 ((bodiesSys Λ).sAt q (gh u 0)) := hs.out
  refine ⟨hF, hi, by rw [ho], by rw [ho], ⟨[], by rw [ho]; rfl, hs.nts.symm⟩, hs.on, hs.os, hs.output⟩
theorem BSt.note {i j : Nat} {c : Cells} {w : World} {o : OpD} (h : BSt Λ fb q w0 n cb top i j c w) (ho : (Λ.bo n)[i]? = some o) (hk : o.kind = 2) : ((bodiesSys Λ).outAt q (gh w 0)).nts[gh w 1]? = some ⟨o.step.kind, o.text ++ digB (c (at4 o.cell))⟩ ∧
    ∀ w', Grow w w' → gh w' 0 = gh w 0 → gh w' 1 = gh w 1 + 1 → gh w' 2 = 0 → BSt Λ fb q w0 n cb top (i + 1) j c w' := by
  obtain ⟨pre, h1, h2⟩ := h.nts
  have he := opsGo_at (j := j) (c := c) ho
  rw [if_neg (by omega), if_pos hk] at he
  have hn : ((bodiesSys Λ).outAt q (gh w 0)).nts = pre ++ ⟨o.step.kind, o.text ++ digB (c (at4 o.cell))⟩ :: (opsGo (Λ.bo n) (i + 1) j c).nts := by rw [h1, he]; rfl
  refine ⟨by rw [hn, ← h2]; simp, fun w' hg g0 g1 g2 => ⟨h.inv.loc fun b hb => hg.block b (h.inv.vis hb).1, ?_, ?_, ⟨pre ++ [⟨o.step.kind, o.text ++ digB (c (at4 o.cell))⟩], ?_, ?_⟩, g2, hg.os.trans h.os, hg.output.trans h.output⟩⟩
  · rw [g0, h.fate, he]; rfl
  · rw [g0, h.s, he]; rfl
  · rw [g0, hn]; simp
  · rw [g1, ← h2]; simp
/-- It is let go. -/
theorem BSt.goes {k j : Nat} {w u u2 : World} {Fn F' : Nat → Prop} {o : OpD} (ho : (Λ.bo n)[k]? = some o) (hg : ((bodiesSys Λ).cfg fb q w0 n cb top).Goes w Fn (k, j) u F') (hos : w.os = w0.os ∧ w.output = w0.output)
    (hi : ShInv Λ (addC ((bodiesSys Λ).sAt q (gh u 0)) (at4 o.to) o.by_) u2) (ht : u2.tape = u.tape) (ho2 : u2.os = u.os ∧ u2.output = u.output) : BSt Λ fb q w0 n cb top (k + 1) j (addC ((bodiesSys Λ).sAt q (gh u 0)) (at4 o.to) o.by_) u2 := by
  have hout : (bodiesSys Λ).outAt q (gh u 0) = opsGo (Λ.bo n) (k + 1) j (addC ((bodiesSys Λ).sAt q (gh u 0)) (at4 o.to) o.by_) := by
    have h1 : (bodiesSys Λ).outAt q (gh u 0) = (bodiesSys Λ).go n (k, j) ((bodiesSys Λ).sAt q (gh u 0)) := hg.out
    rw [h1]
    show (match (Λ.bo n)[k]? with | some o => opsGo (Λ.bo n) (k + 1) j (addC _ (at4 o.to) o.by_) | none => _) = _
    rw [ho]
  refine ⟨hi, ?_, ?_, ⟨[], ?_, ?_⟩, ?_, (ho2.1.trans hg.later.os).trans hos.1, (ho2.2.trans hg.later.output).trans hos.2⟩
  · rw [gh_tape ht, hout]
  · rw [gh_tape ht, hout]
  · rw [gh_tape ht, hout]; rfl
  · rw [gh_tape ht, hg.nts]; rfl
  · rw [gh_tape ht]; exact hg.on
end
end Go.Vy.Sc
end
/- The closures of the law's step. -/
section
namespace Go.Vy.Sc
open Go Go.Conc Go.Yc Go.RowKit Go.Proofs Go.Proofs.Ytfmoeemolgjodaa
open Go.Vc Go.Wg
section
variable [Ctx Try.prog]
omit [Ctx Try.prog] in
theorem shc_cell {w : World} {sb k : Nat} {c : Cells} (h : Blk w sb #[.int .i64 (c 0), .int .i64 (c 1), .int .i64 (c 2), .int .i64 (c 3), .bool false, .bool false] 39) (hk : k < 4) : w.cell? ⟨sb, 0 + k * 1, none⟩ = some (.int .i64 (c k)) := by
  rw [Nat.zero_add, Nat.mul_one]
  exact h.cellAt k (shC_at c hk)


theorem rdy_c {sb b0 b1 : Nat} (c : Cells) (o : OpD) (w0 w : World) (hb : Below w0.heap.size w0 w) (hS : BlkF w sb (shC c) 39 (0, 0)) (hP : BlkF w b0 #[.pointer (some ⟨sb, 0, none⟩)] 32 (0, 0)) (hO : BlkF w b1 (opC o).toArray 63 (0, 0)) : C Try.prog 47 #[.pointer (some ⟨b0, 0, none⟩), .pointer (some ⟨b1, 0, none⟩)] w fun v w1 => v = .bool (decide (o.least ≤ c (at4 o.cell))) ∧ Below w0.heap.size w0 w1 := by
  refine C.enter (n := 14) Try.func47 rfl rfl ?_
  have hS : Blk w sb #[.int .i64 (c 0), .int .i64 (c 1), .int .i64 (c 2), .int .i64 (c 3), .bool false, .bool false] 39 := hS
  have hP : Blk w b0 #[.pointer (some ⟨sb, 0, none⟩)] 32 := hP
  have hO : Blk w b1 #[.int .i64 o.kind, .int .i64 o.step.kind, .int .i64 o.step.obj, .int .i64 o.step.num, .bool o.free, .int .i64 o.cell, .int .i64 o.least, .int .i64 o.to, .int .i64 o.by_, .string o.text] 63 := hO
  refine W.seq ?_
  refine W.region rfl ?_
  refine L.va (x_asB rfl) ?_
  refine L.nil ?_
  show W _ _ _ _ _ _
  refine W.seq ?_
  refine W.fl 10 [3] [0,1,2,4,5,8,9,3,6,7] (fun w' => Blk w' b0 #[.pointer (some ⟨sb, 0, none⟩)] 32 ∧ Blk w' b1 #[.int .i64 (o.kind), .int .i64 (o.step.kind), .int .i64 (o.step.obj), .int .i64 (o.step.num), .bool (o.free), .int .i64 (o.cell), .int .i64 (o.least), .int .i64 (o.to), .int .i64 (o.by_), .string (o.text)] 63 ∧ Blk w' sb #[.int .i64 (c 0), .int .i64 (c 1), .int .i64 (c 2), .int .i64 (c 3), .bool false, .bool false] 39) (by kernel_rfl) (by kernel_rfl) (by kernel_rfl) (by kernel_rfl) (by kernel_rfl) (⟨hP.keep (Below.refl w.heap.size w).drew, hO.keep (Below.refl w.heap.size w).drew, hS.keep (Below.refl w.heap.size w).drew⟩) ?_
  have hdr : Below w.heap.size w w.drew := (Below.refl w.heap.size w).drew
  have hb := cl_step hb hdr
  have hP := hP.keep hdr
  have hO := hO.keep hdr
  have hS := hS.keep hdr
  clear hdr
  generalize w.drew = w at *
  refine F.va rfl rfl (fun w' hw' => (x_load rfl Try.underlying32 rfl (hw'.1.cellAt 0 (v := .pointer (some ⟨sb, 0, none⟩)) rfl))) ?_
  refine F.va rfl rfl (fun w' hw' => (x_field rfl Try.underlying63 rfl sz3 (by decide))) ?_
  refine F.va rfl rfl (fun w' hw' => (x_load rfl Try.underlying3 rfl (hw'.2.1.cellAt 5 (v := .int .i64 (o.cell)) rfl))) ?_
  refine F.va rfl rfl (fun w' hw' => (x_nilCheck rfl)) ?_
  refine F.va rfl rfl (fun w' hw' => (x_field rfl Try.underlying39 rfl sz35 (by decide))) ?_
  refine F.va rfl rfl (fun w' hw' => (x_field rfl Try.underlying63 rfl sz2 (by decide))) ?_
  refine F.va rfl rfl (fun w' hw' => (x_load rfl Try.underlying2 rfl (hw'.2.1.cellAt 6 (v := .int .i64 (o.least)) rfl))) ?_
  refine F.doo rfl rfl ?_
  refine L.call (x_call1 rfl Try.func34 rfl nm34 rfl) (at_c o.cell _) ?_
  rintro _ _ ⟨rfl, rfl⟩
  refine L.nil ⟨rfl, ⟨hP, hO, hS⟩, ?_⟩
  refine F.va rfl rfl (fun w' hw' => (x_idxArr (i := at4 o.cell) rfl rfl Try.underlying35 sz2 (at4_lt _))) ?_
  refine F.va rfl rfl (fun w' hw' => (x_load (v := .int .i64 (c (at4 o.cell))) rfl Try.underlying2 rfl (shc_cell hw'.2.2 (at4_lt _)))) ?_
  refine F.nil ?_
  show L _ _ _ _ _ _ _
  refine L.va (x_geq (m := c (at4 o.cell)) (k := o.least) rfl rfl) ?_
  refine L.va (x_asB rfl) ?_
  refine L.nil ?_
  show W _ _ _ _ _ _
  refine W.ret ?_
  repeat (first | refine T.ret ?_ | refine B.ret ?_ | refine N.ret ?_)
  refine ends.one (.inr rfl) rfl ?_
  exact ⟨rfl, hb⟩

theorem do_c {sb b0 b1 : Nat} (c : Cells) (o : OpD) (w0 w : World) (hb : Below w0.heap.size w0 w) (hS : BlkF w sb (shC c) 39 (0, 0)) (hP : BlkF w b0 #[.pointer (some ⟨sb, 0, none⟩)] 32 (0, 0)) (hO : BlkF w b1 (opC o).toArray 63 (0, 0)) : C Try.prog 48 #[.pointer (some ⟨b0, 0, none⟩), .pointer (some ⟨b1, 0, none⟩)] w fun v w1 => v = .tuple #[] ∧ BlkF w1 sb (shC (addC c (at4 o.to) o.by_)) 39 (0, 0) ∧ ModS (fun b => b = sb) w0.heap.size w0 w1 := by
  refine C.enter (n := 16) Try.func48 rfl rfl ?_
  have hS : Blk w sb #[.int .i64 (c 0), .int .i64 (c 1), .int .i64 (c 2), .int .i64 (c 3), .bool false, .bool false] 39 := hS
  have hP : Blk w b0 #[.pointer (some ⟨sb, 0, none⟩)] 32 := hP
  have hO : Blk w b1 #[.int .i64 o.kind, .int .i64 o.step.kind, .int .i64 o.step.obj, .int .i64 o.step.num, .bool o.free, .int .i64 o.cell, .int .i64 o.least, .int .i64 o.to, .int .i64 o.by_, .string o.text] 63 := hO
  refine W.fl 13 [3] [0,1,2,4,5,8,9,11,12,3,6,7,10] (fun w' => Blk w' b0 #[.pointer (some ⟨sb, 0, none⟩)] 32 ∧ Blk w' b1 #[.int .i64 (o.kind), .int .i64 (o.step.kind), .int .i64 (o.step.obj), .int .i64 (o.step.num), .bool (o.free), .int .i64 (o.cell), .int .i64 (o.least), .int .i64 (o.to), .int .i64 (o.by_), .string (o.text)] 63 ∧ Blk w' sb #[.int .i64 (c 0), .int .i64 (c 1), .int .i64 (c 2), .int .i64 (c 3), .bool false, .bool false] 39) (by kernel_rfl) (by kernel_rfl) (by kernel_rfl) (by kernel_rfl) (by kernel_rfl) (⟨hP.keep (Below.refl w.heap.size w).drew, hO.keep (Below.refl w.heap.size w).drew, hS.keep (Below.refl w.heap.size w).drew⟩) ?_
  have hdr : Below w.heap.size w w.drew := (Below.refl w.heap.size w).drew
  have hb := cl_step hb hdr
  have hP := hP.keep hdr
  have hO := hO.keep hdr
  have hS := hS.keep hdr
  clear hdr
  generalize w.drew = w at *
  refine F.va rfl rfl (fun w' hw' => (x_load rfl Try.underlying32 rfl (hw'.1.cellAt 0 (v := .pointer (some ⟨sb, 0, none⟩)) rfl))) ?_
  refine F.va rfl rfl (fun w' hw' => (x_field rfl Try.underlying63 rfl sz3 (by decide))) ?_
  refine F.va rfl rfl (fun w' hw' => (x_load rfl Try.underlying3 rfl (hw'.2.1.cellAt 7 (v := .int .i64 (o.to)) rfl))) ?_
  refine F.va rfl rfl (fun w' hw' => (x_nilCheck rfl)) ?_
  refine F.va rfl rfl (fun w' hw' => (x_field rfl Try.underlying39 rfl sz35 (by decide))) ?_
  refine F.va rfl rfl (fun w' hw' => (x_field rfl Try.underlying63 rfl sz2 (by decide))) ?_
  refine F.va rfl rfl (fun w' hw' => (x_load rfl Try.underlying2 rfl (hw'.2.1.cellAt 8 (v := .int .i64 (o.by_)) rfl))) ?_
  refine F.va rfl rfl (fun w' hw' => (x_nilCheck rfl)) ?_
  refine F.va rfl rfl (fun w' hw' => (x_field rfl Try.underlying39 rfl sz35 (by decide))) ?_
  refine F.doo rfl rfl ?_
  refine L.call (x_call1 rfl Try.func34 rfl nm34 rfl) (at_c o.to _) ?_
  rintro _ _ ⟨rfl, rfl⟩
  refine L.nil ⟨rfl, ⟨hP, hO, hS⟩, ?_⟩
  refine F.va rfl rfl (fun w' hw' => (x_idxArr (i := at4 o.to) rfl rfl Try.underlying35 sz2 (at4_lt _))) ?_
  refine F.va rfl rfl (fun w' hw' => (x_load (v := .int .i64 (c (at4 o.to))) rfl Try.underlying2 rfl (shc_cell hw'.2.2 (at4_lt _)))) ?_
  refine F.va rfl rfl (fun w' hw' => (x_add (κ := .i64) (m := c (at4 o.to)) (k := o.by_) rfl rfl)) ?_
  refine F.nil ?_
  show L _ _ _ _ _ _ _
  refine L.va (x_idxArr (i := at4 o.to) rfl rfl Try.underlying35 sz2 (at4_lt _)) ?_
  refine L.putF (b := sb) (o := 0 + at4 o.to * 1) (f := (0, 0)) (shC (addC c (at4 o.to) o.by_)) rfl rfl rfl sz2 rfl rfl hS (by have := at4_lt o.to; show 0 + at4 o.to * 1 + 1 ≤ 6; omega) (.inr (Nat.zero_le _)) (by rw [Nat.zero_add, Nat.mul_one]; exact shC_add c (at4_lt _) _) ?_
  refine L.nil ?_
  repeat (first | refine T.nrm ?_ | refine B.nrm ?_ | refine N.nrm ?_)
  refine ends.none (.inl rfl) rfl ?_
  exact ⟨rfl, setBlkF_self hS _ _ _, ModS.grown (⟨hb.os, hb.tape, hb.output, hb.size, fun k hk _ => hb.block k hk⟩ : ModS (fun b => b = sb) w0.heap.size w0 _) (setBlkF_grown _ _ _ _ _) hb.size (fun r e => by cases e; exact .inl rfl)⟩

end
end Go.Vy.Sc
end
/- The law's step, as a client goes through it. -/
section
namespace Go.Vy.Sc
open Go Go.Conc Go.Yc Go.RowKit Go.Proofs Go.Proofs.Ytfmoeemolgjodaa
open Go.Vc Go.Wg
theorem fnIs {f : FuncId} {caps : Array Value} {fn : Func} (h1 : Try.prog.funcs[f]? = some fn) (h2 : fn.body.isSome = true) (h3 : (fn.name == "runtime.NumGoroutine") = false) : FnIs Try.prog (.func (.func f) #[] caps) f caps := ⟨rfl, fn, h1, h2, h3⟩


theorem step_p {Λ : Lay} {fb : Nat → FuncId} {q : PR (bodiesSys Λ)} {w0 : World} {n cb : Nat} {top : List Frame} (hΛ : LayOk Λ) (hn : n < Λ.m) {k j : Nat} {c : Cells} {o : OpD} (ho : (Λ.bo n)[k]? = some o) (hk : o.kind = 1) (w : World) (hs : BSt Λ fb q w0 n cb top k j c w) :
    @Calls Try.prog (procCtx ((bodiesSys Λ).cfg fb q w0 n cb top)) 41 #[.pointer (some ⟨Λ.sb, 0, none⟩), .pointer (some ⟨cb, 0, none⟩), .agg (opC o).toArray] w (fun e u2 => match e with
      | .returned v => v = .tuple #[] ∧ ∃ c', BSt Λ fb q w0 n cb top (k + 1) j c' u2
      | .panicked ch => Raised ch ∧ ((bodiesSys Λ).cfg fb q w0 n cb top).Done u2 Λ.F (.panicked ch)
      | .outgrown => False) := by
  letI : Ctx Try.prog := procCtx ((bodiesSys Λ).cfg fb q w0 n cb top)
  refine Calls.enterP (n := 16) Try.func41 rfl rfl ?_
  have hi0 := hs.inv
  have hb : Below w.heap.size w w := Below.refl _ _
  obtain ⟨wE, hwE⟩ : ∃ wE, wE = w := ⟨_, rfl⟩
  rw [← hwE] at hi0
  refine W.seq ?_
  refine W.region rfl ?_
  refine L.box (cs := #[.pointer (some (⟨Λ.sb, 0, none⟩))]) rfl rfl (fun w b3 F3 => ?_)
  have hb := cl_step hb F3.below
  have hs := hs.keep F3.below
  have hB3 := F3.blk
  refine L.box (cs := #[.int .i64 (o.kind), .int .i64 (o.step.kind), .int .i64 (o.step.obj), .int .i64 (o.step.num), .bool (o.free), .int .i64 (o.cell), .int .i64 (o.least), .int .i64 (o.to), .int .i64 (o.by_), .string (o.text)]) rfl rfl (fun w b5 F5 => ?_)
  have hb := cl_step hb F5.below
  have hs := hs.keep F5.below
  have hB3 := hB3.keep F5.below
  have hB5 := F5.blk
  refine L.nil ?_
  show W _ _ _ _ _ _
  refine W.seq ?_
  refine W.region rfl ?_
  refine L.va (x_makeFuncL (l := [.tmp 3, .tmp 5]) (vs := [.pointer (some ⟨b3, 0, none⟩), .pointer (some ⟨b5, 0, none⟩)]) rfl) ?_
  refine L.va (x_asF rfl) ?_
  refine L.nil ?_
  show W _ _ _ _ _ _
  refine W.seq ?_
  refine W.seq ?_
  refine W.region rfl ?_
  refine L.va (x_field rfl Try.underlying63 rfl sz4 (by decide)) ?_
  refine L.va (x_load rfl Try.underlying4 rfl (hB5.cellAt 4 (v := .bool (o.free)) rfl)) ?_
  refine L.nil ?_
  show W _ _ _ _ _ _
  refine W.cond rfl (fun h9 => ?_) (fun h9 => ?_)
  · refine W.region rfl ?_
    refine L.va x_assign ?_
    refine L.nil ?_
    show W _ _ _ _ _ _
    refine W.region rfl ?_
    refine L.va (x_mvP rfl) ?_
    refine L.va (x_field rfl Try.underlying63 rfl sz43 (by decide)) ?_
    refine L.va (x_loadAgg (cs := [.int .i64 (o.step.kind), .int .i64 (o.step.obj), .int .i64 (o.step.num)]) rfl Try.underlying43 rfl sz43 rfl (hB5.aggAt rfl)) ?_
    refine L.va x_move ?_
    refine L.va (x_makeFuncL (l := [.tmp 3, .tmp 5]) (vs := [.pointer (some ⟨b3, 0, none⟩), .pointer (some ⟨b5, 0, none⟩)]) rfl) ?_
    have hl3 : wE.heap.size ≤ b3 := by have := F3.here; rw [hwE]; omega
    have hl5 : wE.heap.size ≤ b5 := by have h1 := F5.here; have h2 := F3.below.size; rw [hwE]; omega
    have ht := hs.told (f := .inl (k, j)) (by rw [opsGo_at ho, if_pos hk])
    have hkeep : ∀ u F', ((bodiesSys Λ).cfg fb q w0 n cb top).Later w Λ.F u F' → F' = Λ.F ∧ ShInv Λ ((bodiesSys Λ).sAt q (gh u 0)) u ∧ BlkF u b3 #[.pointer (some ⟨Λ.sb, 0, none⟩)] 32 (0, 0) ∧ BlkF u b5 (opC o).toArray 63 (0, 0) := fun u F' hl => by
      obtain ⟨hF, hi⟩ := hl.inv
      refine ⟨hF, hi, (hl.keep b3 hB3.lt (blkF_ne_nothing (f := (0, 0)) (blkF_of hB3) (by show 0 < 1; decide)) (fun z => ?_)).1.trans hB3, (hl.keep b5 hB5.lt (blkF_ne_nothing (f := (0, 0)) (blkF_of hB5) (by show 0 < 10; decide)) (fun z => ?_)).1.trans hB5⟩
      · have := (hi0.vis z).1; omega
      · have := (hi0.vis z).1; omega
    have hr : ((bodiesSys Λ).cfg fb q w0 n cb top).ReadyOk w Λ.F .nilFunc (k, j) := .inl ⟨rfl, fun s => by
      show (match (Λ.bo n)[k]? with | some o => o.free || decide (o.least ≤ s (at4 o.cell)) | none => true) = true
      rw [ho]; simp [h9]⟩
    have hdo : ∀ u F', ((bodiesSys Λ).cfg fb q w0 n cb top).Goes w Λ.F (k, j) u F' → DoOk Try.prog (.func (.func 48) #[] #[.pointer (some ⟨b3, 0, none⟩), .pointer (some ⟨b5, 0, none⟩)]) u (fun u2 => BlkF u2 Λ.sb (shC (addC ((bodiesSys Λ).sAt q (gh u 0)) (at4 o.to) o.by_)) 39 (0, 0) ∧ ModS (fun b => b = Λ.sb) u.heap.size u u2) := fun u F' hg => by
      obtain ⟨hF, hi, g3, g5⟩ := hkeep u F' hg.later
      letI : Ctx Try.prog := baseCtx Try.prog false
      exact .inr ⟨48, _, fnIs Try.func48 rfl nm48, C.mono (do_c _ o u u (Below.refl _ _) hi.sh g3 g5) fun v u' hv => hv.2⟩
    refine L.callP' rfl (x_call4 rfl rfl rfl rfl Try.func18 rfl nm18 rfl) (proc_step ht (by show _ = stepV ((((Λ.bo n)[k]?).map (·.step)).getD sp0); rw [ho]; rfl) hr (.inr ⟨_, _, fnIs Try.func48 rfl nm48⟩) _ hdo) ?_ ?_ (fun _ h => h)
    · rintro v u2 ⟨rfl, u, F', hg, hR, htp⟩
      obtain ⟨hF, hi, g3, g5⟩ := hkeep u F' hg.later
      refine L.nil ?_
      repeat (first | refine T.nrm ?_ | refine B.nrm ?_ | refine N.nrm ?_)
      refine ends.none (.inl rfl) rfl ⟨rfl, _, BSt.goes ho hg ⟨hs.os, hs.output⟩ ⟨hR.1, fun b hb => ?_, hi.ok.add _ _⟩ htp ⟨hR.2.os, hR.2.output⟩⟩
      have h1 := hi.ro b hb
      have h2 : u2.heap[b]? = u.heap[b]? := hR.2.block b h1.2.1 fun e => hΛ.sep (e ▸ hb)
      exact ⟨h2.trans h1.1, Nat.lt_of_lt_of_le h1.2.1 hR.2.size, by rw [h2]; exact h1.2.2⟩
    · rintro ch u2 ⟨hra, F', hl, h2⟩
      obtain ⟨hF, hi, g3, g5⟩ := hkeep u2 F' hl
      exact ⟨hra, hra, .inr ⟨h2, ⟨rfl, hi⟩, hl.os.trans hs.os, hl.output.trans hs.output⟩⟩
  · refine W.skip ?_
    show W _ _ _ _ _ _
    refine W.region rfl ?_
    refine L.va (x_mvP rfl) ?_
    refine L.va (x_field rfl Try.underlying63 rfl sz43 (by decide)) ?_
    refine L.va (x_loadAgg (cs := [.int .i64 (o.step.kind), .int .i64 (o.step.obj), .int .i64 (o.step.num)]) rfl Try.underlying43 rfl sz43 rfl (hB5.aggAt rfl)) ?_
    refine L.va (x_mvF rfl) ?_
    refine L.va (x_makeFuncL (l := [.tmp 3, .tmp 5]) (vs := [.pointer (some ⟨b3, 0, none⟩), .pointer (some ⟨b5, 0, none⟩)]) rfl) ?_
    have hl3 : wE.heap.size ≤ b3 := by have := F3.here; rw [hwE]; omega
    have hl5 : wE.heap.size ≤ b5 := by have h1 := F5.here; have h2 := F3.below.size; rw [hwE]; omega
    have ht := hs.told (f := .inl (k, j)) (by rw [opsGo_at ho, if_pos hk])
    have hkeep : ∀ u F', ((bodiesSys Λ).cfg fb q w0 n cb top).Later w Λ.F u F' → F' = Λ.F ∧ ShInv Λ ((bodiesSys Λ).sAt q (gh u 0)) u ∧ BlkF u b3 #[.pointer (some ⟨Λ.sb, 0, none⟩)] 32 (0, 0) ∧ BlkF u b5 (opC o).toArray 63 (0, 0) := fun u F' hl => by
      obtain ⟨hF, hi⟩ := hl.inv
      refine ⟨hF, hi, (hl.keep b3 hB3.lt (blkF_ne_nothing (f := (0, 0)) (blkF_of hB3) (by show 0 < 1; decide)) (fun z => ?_)).1.trans hB3, (hl.keep b5 hB5.lt (blkF_ne_nothing (f := (0, 0)) (blkF_of hB5) (by show 0 < 10; decide)) (fun z => ?_)).1.trans hB5⟩
      · have := (hi0.vis z).1; omega
      · have := (hi0.vis z).1; omega
    have hr : ((bodiesSys Λ).cfg fb q w0 n cb top).ReadyOk w Λ.F (.func (.func 47) #[] #[.pointer (some ⟨b3, 0, none⟩), .pointer (some ⟨b5, 0, none⟩)]) (k, j) := .inr ⟨47, _, fnIs Try.func47 rfl nm47, fun u F' hl => by
      obtain ⟨hF, hi, g3, g5⟩ := hkeep u F' hl
      letI : Ctx Try.prog := baseCtx Try.prog true
      refine C.mono (rdy_c _ o u u (Below.refl _ _) hi.sh g3 g5) fun v u' hv => ⟨?_, hv.2⟩
      rw [hv.1]; show _ = Value.bool (match (Λ.bo n)[k]? with | some o => o.free || decide (o.least ≤ _) | none => true)
      rw [ho]; simp [h9]; rfl⟩
    have hdo : ∀ u F', ((bodiesSys Λ).cfg fb q w0 n cb top).Goes w Λ.F (k, j) u F' → DoOk Try.prog (.func (.func 48) #[] #[.pointer (some ⟨b3, 0, none⟩), .pointer (some ⟨b5, 0, none⟩)]) u (fun u2 => BlkF u2 Λ.sb (shC (addC ((bodiesSys Λ).sAt q (gh u 0)) (at4 o.to) o.by_)) 39 (0, 0) ∧ ModS (fun b => b = Λ.sb) u.heap.size u u2) := fun u F' hg => by
      obtain ⟨hF, hi, g3, g5⟩ := hkeep u F' hg.later
      letI : Ctx Try.prog := baseCtx Try.prog false
      exact .inr ⟨48, _, fnIs Try.func48 rfl nm48, C.mono (do_c _ o u u (Below.refl _ _) hi.sh g3 g5) fun v u' hv => hv.2⟩
    refine L.callP' rfl (x_call4 rfl rfl rfl rfl Try.func18 rfl nm18 rfl) (proc_step ht (by show _ = stepV ((((Λ.bo n)[k]?).map (·.step)).getD sp0); rw [ho]; rfl) hr (.inr ⟨_, _, fnIs Try.func48 rfl nm48⟩) _ hdo) ?_ ?_ (fun _ h => h)
    · rintro v u2 ⟨rfl, u, F', hg, hR, htp⟩
      obtain ⟨hF, hi, g3, g5⟩ := hkeep u F' hg.later
      refine L.nil ?_
      repeat (first | refine T.nrm ?_ | refine B.nrm ?_ | refine N.nrm ?_)
      refine ends.none (.inl rfl) rfl ⟨rfl, _, BSt.goes ho hg ⟨hs.os, hs.output⟩ ⟨hR.1, fun b hb => ?_, hi.ok.add _ _⟩ htp ⟨hR.2.os, hR.2.output⟩⟩
      have h1 := hi.ro b hb
      have h2 : u2.heap[b]? = u.heap[b]? := hR.2.block b h1.2.1 fun e => hΛ.sep (e ▸ hb)
      exact ⟨h2.trans h1.1, Nat.lt_of_lt_of_le h1.2.1 hR.2.size, by rw [h2]; exact h1.2.2⟩
    · rintro ch u2 ⟨hra, F', hl, h2⟩
      obtain ⟨hF, hi, g3, g5⟩ := hkeep u2 F' hl
      exact ⟨hra, hra, .inr ⟨h2, ⟨rfl, hi⟩, hl.os.trans hs.os, hl.output.trans hs.output⟩⟩

end Go.Vy.Sc
end
/- The law's body, as a client goes through it. -/
section
namespace Go.Vy.Sc
open Go Go.Conc Go.Yc Go.RowKit Go.Proofs Go.Proofs.Ytfmoeemolgjodaa
open Go.Vc Go.Wg
theorem ShInv.add {Λ : Lay} {c : Cells} {w : World} (h : ShInv Λ c w) (hsep : ¬ Λ.RO Λ.sb) (k : Nat) (b : Int) : ShInv Λ (addC c k b) (setBlkF w Λ.sb (shC (addC c k b)) 39 (0, 0)) := by
  refine ⟨setBlkF_self h.sh _ _ _, fun r hr => ?_, h.ok.add _ _⟩
  have h1 := h.ro r hr
  have h2 : (setBlkF w Λ.sb (shC (addC c k b)) 39 (0, 0)).heap[r]? = w.heap[r]? := setBlkF_other fun e => hsep (e ▸ hr)
  exact ⟨h2.trans h1.1, by rw [setBlkF_size]; exact h1.2.1, by rw [h2]; exact h1.2.2⟩
theorem d_boolK {S : Sem Next} {w : World} {p : Prop} [Decidable p] {r : Bool} (h : decide p = r) (hd : Does Try.prog S w (.val (.bool (decide p))) w) : Does Try.prog S w (.val (.bool r)) w := h ▸ hd
theorem add_assoc_cell (a : Nat) : 0 + a * 1 = a := by omega


set_option maxHeartbeats 1000000 in
set_option maxRecDepth 20000 in
theorem body_p {Λ : Lay} {fb : Nat → FuncId} {q : PR (bodiesSys Λ)} {w0 : World} {n cb : Nat} {top : List Frame} (hΛ : LayOk Λ) (hn : n < Λ.m) (c : Cells) (w : World) (hs : BSt Λ fb q w0 n cb top 0 0 c w) :
    @Calls Try.prog (procCtx ((bodiesSys Λ).cfg fb q w0 n cb top)) 40 #[.pointer (some ⟨cb, 0, none⟩), .pointer (some ⟨Λ.b1 n, 0, none⟩), .pointer (some ⟨Λ.b2 n, 0, none⟩)] w (fun e u2 => ((bodiesSys Λ).cfg fb q w0 n cb top).Done u2 Λ.F e) := by
  letI : Ctx Try.prog := procCtx ((bodiesSys Λ).cfg fb q w0 n cb top)
  refine Calls.enterP (n := 113) Try.func40 rfl rfl ?_
  refine W.seq ?_
  refine W.region rfl ?_
  refine L.va (x_asI rfl) ?_
  refine L.nil ?_
  show W _ _ _ _ _ _
  refine W.seq ?_
  refine W.region rfl ?_
  refine L.va (x_asI rfl) ?_
  refine L.nil ?_
  show W _ _ _ _ _ _
  refine W.block ?_
  refine W.loop (fun k e w => ∃ (i : Nat), ∃ (j : Nat), ∃ (c : Cells), k = meas (Λ.bo n) i j ∧ e 0 = .pointer (some (⟨cb, 0, none⟩)) ∧ e 1 = .pointer (some ⟨(Λ.b1 n), 0, none⟩) ∧ e 2 = .pointer (some ⟨(Λ.b2 n), 0, none⟩) ∧ e 4 = .int .i64 (j : Int) ∧ e 5 = .int .i64 (i : Int) ∧ BSt Λ fb q w0 n cb top i j c w ∧ j ≤ 50 ∧ i ≤ (Λ.bo n).length) _ ⟨0, 0, c, rfl, rfl, rfl, rfl, rfl, rfl, hs, Nat.zero_le _, Nat.zero_le _⟩ ?_
  rintro k e w ⟨i, j, c, hk, s0, s1, s2, s4, s5, hs, hj, hi⟩
  rw [upd_id s0, upd_id s1, upd_id s2, upd_id s4, upd_id s5]
  clear s0 s1 s2 s4 s5
  refine W.seq ?_
  refine W.seq ?_
  refine W.region rfl ?_
  refine L.va (x_mvI rfl) ?_
  refine L.va (x_load rfl Try.underlying64 rfl ((hs.b1 hΛ hn).cellAt 0 (v := .slice (Λ.ba n) ((Λ.bo n).length) (Λ.bc n)) rfl)) ?_
  refine L.va (x_len rfl Try.underlying64 rfl) ?_
  refine L.va (x_lss rfl rfl) ?_
  refine L.nil ?_
  show W _ _ _ _ _ _
  refine W.condP rfl (fun h10 => ?_) (fun h10 => ?_)
  · have hlt : i < (Λ.bo n).length := by omega
    have hln := hΛ.len n hn
    obtain ⟨o, ho⟩ : ∃ o, (Λ.bo n)[i]? = some o := ⟨_, List.getElem?_eq_getElem hlt⟩
    refine W.skip ?_
    show W _ _ _ _ _ _
    refine W.block ?_
    refine W.seq ?_
    refine W.region rfl ?_
    refine L.va (x_load rfl Try.underlying64 rfl ((hs.b1 hΛ hn).cellAt 0 (v := .slice (Λ.ba n) ((Λ.bo n).length) (Λ.bc n)) rfl)) ?_
    refine L.va (x_mvI rfl) ?_
    refine L.va (x_idx (i := i) rfl rfl Try.underlying64 sz63 (hΛ.sl n hn) hlt) ?_
    refine L.va (x_loadAgg (cs := opC o) rfl Try.underlying63 rfl sz63 rfl (fun x v hv => hs.row hΛ hn ho x v hv)) ?_
    refine L.alloc (cs := #[.int .i64 0, .int .i64 0, .int .i64 0, .int .i64 0, .bool false, .int .i64 0, .int .i64 0, .int .i64 0, .int .i64 0, .string ByteArray.empty]) zr63 rfl (fun w1 b6 F6 => ?_)
    refine L.put (b := b6) (o := 0) (vs := [.int .i64 (o.kind), .int .i64 (o.step.kind), .int .i64 (o.step.obj), .int .i64 (o.step.num), .bool (o.free), .int .i64 (o.cell), .int .i64 (o.least), .int .i64 (o.to), .int .i64 (o.by_), .string (o.text)]) #[.int .i64 (o.kind), .int .i64 (o.step.kind), .int .i64 (o.step.obj), .int .i64 (o.step.num), .bool (o.free), .int .i64 (o.cell), .int .i64 (o.least), .int .i64 (o.to), .int .i64 (o.by_), .string (o.text)] rfl rfl rfl sz63 rfl rfl F6.blk (Nat.le_of_ble_eq_true rfl) (setRow_all rfl) (fun w2 hB6 hg hsz => ?_)
    have hbA : Below w.heap.size w w2 := below_gr F6.below F6.below.size hg (by have := F6.here; omega)
    have hs := hs.keep hbA
    clear hg hsz hbA F6
    rename World => w
    refine L.nil ?_
    show W _ _ _ _ _ _
    refine W.seq ?_
    refine W.region rfl ?_
    refine L.va (x_mvI rfl) ?_
    refine L.va (x_inc rfl rfl (by omega)) ?_
    refine L.va (x_asI rfl) ?_
    refine L.nil ?_
    show W _ _ _ _ _ _
    refine W.seq ?_
    have h1 := (hs.b1 hΛ hn)
    have h2 := (hs.b2 hΛ hn)
    have hS := hs.inv.sh
    refine W.lastL 13 (fun w' => Below w.heap.size w w') (by kernel_rfl) (by kernel_rfl) (by kernel_rfl) (by kernel_rfl) ((Below.refl w.heap.size w).drew) ?_
    refine D.va (fun w' hw' => (x_load rfl Try.underlying32 rfl ((h2.keep hw').cellAt 0 (v := .pointer (some ⟨Λ.sb, 0, none⟩)) rfl))) ?_
    refine D.va (fun w' hw' => (x_load rfl Try.underlying32 rfl ((h2.keep hw').cellAt 0 (v := .pointer (some ⟨Λ.sb, 0, none⟩)) rfl))) ?_
    refine D.va (fun w' hw' => (x_nilCheck rfl)) ?_
    refine D.va (fun w' hw' => (x_field rfl Try.underlying39 rfl sz4 (by decide))) ?_
    refine D.va (fun w' hw' => (x_load rfl Try.underlying4 rfl ((hS.keep hw').cellAt 4 (v := .bool false) rfl))) ?_
    refine D.va (fun w' hw' => (x_mvB rfl)) ?_
    refine D.on rfl ?_
    refine D.va (fun w' hw' => (x_load rfl Try.underlying32 rfl ((h2.keep hw').cellAt 0 (v := .pointer (some ⟨Λ.sb, 0, none⟩)) rfl))) ?_
    refine D.on rfl ?_
    refine D.va (fun w' hw' => (x_nilCheck rfl)) ?_
    refine D.on rfl ?_
    refine D.va (fun w' hw' => (x_field rfl Try.underlying39 rfl sz4 (by decide))) ?_
    refine D.on rfl ?_
    refine D.va (fun w' hw' => (x_load rfl Try.underlying4 rfl ((hS.keep hw').cellAt 5 (v := .bool false) rfl))) ?_
    refine D.va (fun w' hw' => (x_pickF rfl)) ?_
    refine D.va (fun w' hw' => (x_nilCheck rfl)) ?_
    refine D.va (fun w' hw' => (x_field rfl Try.underlying39 rfl sz4 (by decide))) ?_
    refine D.nil (fun w hbw => ?_)
    have hs := hs.keep hbw
    have hB6 := hB6.keep hbw
    have h1 := h1.keep hbw
    have h2 := h2.keep hbw
    have hS := hS.keep hbw
    clear hbw
    refine L.putF (b := Λ.sb) (o := 4) (f := (0, 0)) (shC c) rfl rfl rfl sz4 rfl rfl hs.inv.sh (by show 4 + 1 ≤ 6; decide) (.inr (Nat.zero_le _)) rfl ?_
    rw [setBlkF_same hs.inv.sh]
    refine L.nil ?_
    try clear h1
    try clear h2
    try clear hS
    show W _ _ _ _ _ _
    refine W.seq ?_
    refine W.region rfl ?_
    refine L.va (x_field rfl Try.underlying63 rfl sz3 (by decide)) ?_
    refine L.va (x_load rfl Try.underlying3 rfl (hB6.cellAt 0 (v := .int .i64 (o.kind)) rfl)) ?_
    refine L.nil ?_
    show W _ _ _ _ _ _
    refine W.block ?_
    refine W.seq ?_
    refine W.region rfl ?_
    refine L.va (x_eql rfl rfl) ?_
    refine L.va (x_asB rfl) ?_
    refine L.nil ?_
    show W _ _ _ _ _ _
    refine W.condP rfl (fun hk1 => ?_) (fun hk1 => ?_)
    · refine W.region rfl ?_
      refine L.va (x_load rfl Try.underlying32 rfl ((hs.b2 hΛ hn).cellAt 0 (v := .pointer (some ⟨Λ.sb, 0, none⟩)) rfl)) ?_
      refine L.va (x_mvP rfl) ?_
      refine L.va (x_loadAgg (cs := [.int .i64 (o.kind), .int .i64 (o.step.kind), .int .i64 (o.step.obj), .int .i64 (o.step.num), .bool (o.free), .int .i64 (o.cell), .int .i64 (o.least), .int .i64 (o.to), .int .i64 (o.by_), .string (o.text)]) rfl Try.underlying63 rfl sz63 rfl (hB6.aggAt rfl)) ?_
      refine L.callP' rfl (x_call3 rfl rfl rfl Try.func41 rfl nm41 rfl) (step_p hΛ hn ho hk1 w hs) ?_ ?_ (fun _ h => h)
      · rintro v w ⟨rfl, c', hs⟩
        refine L.nil ?_
        refine B.nrm ?_
        refine B.nrm ?_
        refine T.nrm ?_
        have hms := meas_next (ops := Λ.bo n) (j := j) hlt
        exact ⟨_, by omega, ⟨i + 1, j, c', rfl, rfl, rfl, rfl, rfl, rfl, hs, hj, (by omega)⟩⟩
      · rintro ch w ⟨hra, hd⟩
        exact hd
    · refine W.seq ?_
      refine W.region rfl ?_
      refine L.va (x_eql rfl rfl) ?_
      refine L.va (x_asB rfl) ?_
      refine L.nil ?_
      show W _ _ _ _ _ _
      refine W.condP rfl (fun hk2 => ?_) (fun hk2 => ?_)
      · have h1 := (hs.b1 hΛ hn)
        have h2 := (hs.b2 hΛ hn)
        have hS := hs.inv.sh
        refine W.fl 16 [9,14] [0,1,2,3,4,5,6,7,8,10,11,9,12,13,14,15] (fun w' => Blk w' b6 #[.int .i64 (o.kind), .int .i64 (o.step.kind), .int .i64 (o.step.obj), .int .i64 (o.step.num), .bool (o.free), .int .i64 (o.cell), .int .i64 (o.least), .int .i64 (o.to), .int .i64 (o.by_), .string (o.text)] 63 ∧ BlkF w' (Λ.b2 n) #[.pointer (some ⟨Λ.sb, 0, none⟩)] 32 (0, 0) ∧ BlkF w' Λ.sb #[.int .i64 (c 0), .int .i64 (c 1), .int .i64 (c 2), .int .i64 (c 3), .bool false, .bool false] 39 (0, 0)) (by kernel_rfl) (by kernel_rfl) (by kernel_rfl) (by kernel_rfl) (by kernel_rfl) (⟨hB6.keep (Below.refl w.heap.size w).drew, h2.keep (Below.refl w.heap.size w).drew, hS.keep (Below.refl w.heap.size w).drew⟩) ?_
        have hdr : Below w.heap.size w w.drew := (Below.refl w.heap.size w).drew
        have hs := hs.keep hdr
        have hB6 := hB6.keep hdr
        have h1 := h1.keep hdr
        have h2 := h2.keep hdr
        have hS := hS.keep hdr
        clear hdr
        generalize w.drew = w at *
        refine F.va rfl rfl (fun w' hw' => (x_mvP rfl)) ?_
        refine F.va rfl rfl (fun w' hw' => (x_field rfl Try.underlying63 rfl sz43 (by decide))) ?_
        refine F.va rfl rfl (fun w' hw' => (x_field rfl Try.underlying43 rfl sz3 (by decide))) ?_
        refine F.va rfl rfl (fun w' hw' => (x_load rfl Try.underlying3 rfl (hw'.1.cellAt 1 (v := .int .i64 (o.step.kind)) rfl))) ?_
        refine F.va rfl rfl (fun w' hw' => (x_field rfl Try.underlying63 rfl sz9 (by decide))) ?_
        refine F.va rfl rfl (fun w' hw' => (x_load rfl Try.underlying9 rfl (hw'.1.cellAt 9 (v := .string (o.text)) rfl))) ?_
        refine F.va rfl rfl (fun w' hw' => (x_load rfl Try.underlying32 rfl (hw'.2.1.cellAt 0 (v := .pointer (some ⟨Λ.sb, 0, none⟩)) rfl))) ?_
        refine F.va rfl rfl (fun w' hw' => (x_field rfl Try.underlying63 rfl sz3 (by decide))) ?_
        refine F.va rfl rfl (fun w' hw' => (x_load rfl Try.underlying3 rfl (hw'.1.cellAt 5 (v := .int .i64 (o.cell)) rfl))) ?_
        refine F.va rfl rfl (fun w' hw' => (x_nilCheck rfl)) ?_
        refine F.va rfl rfl (fun w' hw' => (x_field rfl Try.underlying39 rfl sz35 (by decide))) ?_
        refine F.doo rfl rfl ?_
        refine L.call (x_call1 rfl Try.func34 rfl nm34 rfl) (at_c o.cell w) ?_
        rintro _ w1 ⟨rfl, hw1⟩
        rw [hw1]
        clear hw1 w1
        refine L.nil ⟨rfl, ⟨hB6, h2, hS⟩, ?_⟩
        refine F.va rfl rfl (fun w' hw' => (x_idxArr (i := at4 o.cell) rfl rfl Try.underlying35 sz2 (at4_lt _))) ?_
        refine F.va rfl rfl (fun w' hw' => (x_load (v := .int .i64 (c (at4 o.cell))) rfl Try.underlying2 rfl (shc_cell (c := c) hw'.2.2 (at4_lt _)))) ?_
        refine F.doo rfl rfl ?_
        refine L.call (x_call1 rfl Try.func42 rfl nm42 rfl) (digits_c (c (at4 o.cell)) (hs.inv.ok _) w) ?_
        rintro _ w ⟨rfl, hbw⟩
        have hs := hs.keep hbw
        have hB6 := hB6.keep hbw
        have h1 := h1.keep hbw
        have h2 := h2.keep hbw
        have hS := hS.keep hbw
        clear hbw
        refine L.nil ⟨rfl, ⟨hB6, h2, hS⟩, ?_⟩
        refine F.va rfl rfl (fun w' hw' => (x_addStr rfl rfl (by have h1 := hΛ.text n hn i o ho; have h2 := digB_size (hs.inv.ok (at4 o.cell)); omega))) ?_
        refine F.nil ?_
        show L _ _ _ _ _ _ _
        have hn2 := hs.note ho hk2
        refine L.call (x_call3 rfl rfl rfl Try.func29 rfl nm29 rfl) (proc_note hs.on hn2.1) ?_
        rintro _ w1 ⟨rfl, hg, g0, g1, g2⟩
        have hs := hn2.2 w1 hg g0 g1 g2
        rename World => w
        clear hg g0 g1 g2 hn2
        refine L.nil ?_
        try clear h1
        try clear h2
        try clear hS
        refine B.nrm ?_
        refine B.nrm ?_
        refine T.nrm ?_
        have hms := meas_next (ops := Λ.bo n) (j := j) hlt
        exact ⟨_, by omega, ⟨i + 1, j, c, rfl, rfl, rfl, rfl, rfl, rfl, hs, hj, (by omega)⟩⟩
      · refine W.seq ?_
        refine W.region rfl ?_
        refine L.va (x_eql rfl rfl) ?_
        refine L.va (x_asB rfl) ?_
        refine L.nil ?_
        show W _ _ _ _ _ _
        refine W.condP rfl (fun hk3 => ?_) (fun hk3 => ?_)
        · have h1 := (hs.b1 hΛ hn)
          have h2 := (hs.b2 hΛ hn)
          have hS := hs.inv.sh
          refine W.fl 13 [3] [0,1,2,4,5,8,9,11,12,3,6,7,10] (fun w' => BlkF w' (Λ.b2 n) #[.pointer (some ⟨Λ.sb, 0, none⟩)] 32 (0, 0) ∧ Blk w' b6 #[.int .i64 (o.kind), .int .i64 (o.step.kind), .int .i64 (o.step.obj), .int .i64 (o.step.num), .bool (o.free), .int .i64 (o.cell), .int .i64 (o.least), .int .i64 (o.to), .int .i64 (o.by_), .string (o.text)] 63 ∧ BlkF w' Λ.sb #[.int .i64 (c 0), .int .i64 (c 1), .int .i64 (c 2), .int .i64 (c 3), .bool false, .bool false] 39 (0, 0)) (by kernel_rfl) (by kernel_rfl) (by kernel_rfl) (by kernel_rfl) (by kernel_rfl) (⟨h2.keep (Below.refl w.heap.size w).drew, hB6.keep (Below.refl w.heap.size w).drew, hS.keep (Below.refl w.heap.size w).drew⟩) ?_
          have hdr : Below w.heap.size w w.drew := (Below.refl w.heap.size w).drew
          have hs := hs.keep hdr
          have hB6 := hB6.keep hdr
          have h1 := h1.keep hdr
          have h2 := h2.keep hdr
          have hS := hS.keep hdr
          clear hdr
          generalize w.drew = w at *
          refine F.va rfl rfl (fun w' hw' => (x_load rfl Try.underlying32 rfl (hw'.1.cellAt 0 (v := .pointer (some ⟨Λ.sb, 0, none⟩)) rfl))) ?_
          refine F.va rfl rfl (fun w' hw' => (x_field rfl Try.underlying63 rfl sz3 (by decide))) ?_
          refine F.va rfl rfl (fun w' hw' => (x_load rfl Try.underlying3 rfl (hw'.2.1.cellAt 7 (v := .int .i64 (o.to)) rfl))) ?_
          refine F.va rfl rfl (fun w' hw' => (x_nilCheck rfl)) ?_
          refine F.va rfl rfl (fun w' hw' => (x_field rfl Try.underlying39 rfl sz35 (by decide))) ?_
          refine F.va rfl rfl (fun w' hw' => (x_field rfl Try.underlying63 rfl sz2 (by decide))) ?_
          refine F.va rfl rfl (fun w' hw' => (x_load rfl Try.underlying2 rfl (hw'.2.1.cellAt 8 (v := .int .i64 (o.by_)) rfl))) ?_
          refine F.va rfl rfl (fun w' hw' => (x_nilCheck rfl)) ?_
          refine F.va rfl rfl (fun w' hw' => (x_field rfl Try.underlying39 rfl sz35 (by decide))) ?_
          refine F.doo rfl rfl ?_
          refine L.call (x_call1 rfl Try.func34 rfl nm34 rfl) (at_c o.to w) ?_
          rintro _ w1 ⟨rfl, hw1⟩
          rw [hw1]
          clear hw1 w1
          refine L.nil ⟨rfl, ⟨h2, hB6, hS⟩, ?_⟩
          refine F.va rfl rfl (fun w' hw' => (x_idxArr (i := at4 o.to) rfl rfl Try.underlying35 sz2 (at4_lt _))) ?_
          refine F.va rfl rfl (fun w' hw' => (x_load (v := .int .i64 (c (at4 o.to))) rfl Try.underlying2 rfl (shc_cell (c := c) hw'.2.2 (at4_lt _)))) ?_
          refine F.va rfl rfl (fun w' hw' => (x_add (κ := .i64) (m := c (at4 o.to)) (k := o.by_) rfl rfl)) ?_
          refine F.nil ?_
          show L _ _ _ _ _ _ _
          refine L.va (x_idxArr (i := at4 o.to) rfl rfl Try.underlying35 sz2 (at4_lt _)) ?_
          refine L.putF (b := Λ.sb) (o := 0 + at4 o.to * 1) (f := (0, 0)) (shC (addC c (at4 o.to) o.by_)) rfl rfl rfl sz2 rfl rfl hs.inv.sh (by have := at4_lt o.to; show 0 + at4 o.to * 1 + 1 ≤ 6; omega) (.inr (Nat.zero_le _)) (by rw [add_assoc_cell]; exact shC_add c (at4_lt _) _) ?_
          have hs := hs.to (i' := i + 1) (j' := j) (c' := addC c (at4 o.to) o.by_) (by rw [opsGo_at ho, if_neg hk1, if_neg hk2, if_pos hk3]) (hs.inv.add hΛ.sep (at4 o.to) o.by_) rfl ⟨rfl, rfl⟩
          refine L.nil ?_
          try clear h1
          try clear h2
          try clear hS
          refine B.nrm ?_
          refine B.nrm ?_
          refine T.nrm ?_
          have hms := meas_next (ops := Λ.bo n) (j := j) hlt
          exact ⟨_, by omega, ⟨i + 1, j, (addC c (at4 o.to) o.by_), rfl, rfl, rfl, rfl, rfl, rfl, hs, hj, (by omega)⟩⟩
        · refine W.seq ?_
          refine W.region rfl ?_
          refine L.va (x_eql rfl rfl) ?_
          refine L.va (x_asB rfl) ?_
          refine L.nil ?_
          show W _ _ _ _ _ _
          refine W.condP rfl (fun hk4 => ?_) (fun hk4 => ?_)
          · refine W.region rfl ?_
            refine L.va (x_field rfl Try.underlying63 rfl sz9 (by decide)) ?_
            refine L.va (x_load rfl Try.underlying9 rfl (hB6.cellAt 9 (v := .string (o.text)) rfl)) ?_
            refine L.va (x_makeIface (v := .string o.text) rfl Try.underlying9 rfl) ?_
            refine L.panicI rfl ?_
            exact ⟨⟨_, [], rfl, rfl⟩, .inl (hs.told (by rw [opsGo_at ho, if_neg hk1, if_neg hk2, if_neg hk3, if_pos hk4]; rfl))⟩
          · refine W.seq ?_
            refine W.region rfl ?_
            refine L.va (x_eql rfl rfl) ?_
            refine L.va (x_asB rfl) ?_
            refine L.nil ?_
            show W _ _ _ _ _ _
            refine W.condP rfl (fun hk5 => ?_) (fun hk5 => ?_)
            · refine W.ret ?_
              repeat (first | refine T.ret ?_ | refine B.ret ?_ | refine N.ret ?_)
              refine ends.none (.inr rfl) rfl ?_
              exact .inl (hs.told (by rw [opsGo_at ho, if_neg hk1, if_neg hk2, if_neg hk3, if_neg hk4, if_pos hk5]; rfl))
            · refine W.seq ?_
              refine W.region rfl ?_
              refine L.va (x_eql rfl rfl) ?_
              refine L.va (x_asB rfl) ?_
              refine L.nil ?_
              show W _ _ _ _ _ _
              refine W.condP rfl (fun hk6 => ?_) (fun hk6 => ?_)
              · refine W.seq ?_
                by_cases hA : c (at4 o.to) < o.least
                · by_cases hB : j < 50
                  · have hB' : (j : Int) < 50 := by omega
                    by_cases hC : 0 ≤ o.cell
                    · by_cases hD : o.cell < (Λ.bo n).length
                      · have hjmp : jumps (Λ.bo n) o j c = true := by simp [jumps, hk6, hA, hB, hC, hD]
                        have h1 := (hs.b1 hΛ hn)
                        have h2 := (hs.b2 hΛ hn)
                        have hS := hs.inv.sh
                        refine W.fl 25 [3] [0,1,2,4,5,8,9,3,6,7,10,11,12,13,14,15,16,17,18,19,20,21,22,23,24] (fun w' => BlkF w' (Λ.b2 n) #[.pointer (some ⟨Λ.sb, 0, none⟩)] 32 (0, 0) ∧ Blk w' b6 #[.int .i64 (o.kind), .int .i64 (o.step.kind), .int .i64 (o.step.obj), .int .i64 (o.step.num), .bool (o.free), .int .i64 (o.cell), .int .i64 (o.least), .int .i64 (o.to), .int .i64 (o.by_), .string (o.text)] 63 ∧ BlkF w' Λ.sb #[.int .i64 (c 0), .int .i64 (c 1), .int .i64 (c 2), .int .i64 (c 3), .bool false, .bool false] 39 (0, 0) ∧ BlkF w' (Λ.b1 n) #[.slice (Λ.ba n) ((Λ.bo n).length) (Λ.bc n)] 64 (0, 0)) (by kernel_rfl) (by kernel_rfl) (by kernel_rfl) (by kernel_rfl) (by kernel_rfl) (⟨h2.keep (Below.refl w.heap.size w).drew, hB6.keep (Below.refl w.heap.size w).drew, hS.keep (Below.refl w.heap.size w).drew, h1.keep (Below.refl w.heap.size w).drew⟩) ?_
                        have hdr : Below w.heap.size w w.drew := (Below.refl w.heap.size w).drew
                        have hs := hs.keep hdr
                        have hB6 := hB6.keep hdr
                        have h1 := h1.keep hdr
                        have h2 := h2.keep hdr
                        have hS := hS.keep hdr
                        clear hdr
                        generalize w.drew = w at *
                        refine F.va rfl rfl (fun w' hw' => (x_load rfl Try.underlying32 rfl (hw'.1.cellAt 0 (v := .pointer (some ⟨Λ.sb, 0, none⟩)) rfl))) ?_
                        refine F.va rfl rfl (fun w' hw' => (x_field rfl Try.underlying63 rfl sz3 (by decide))) ?_
                        refine F.va rfl rfl (fun w' hw' => (x_load rfl Try.underlying3 rfl (hw'.2.1.cellAt 7 (v := .int .i64 (o.to)) rfl))) ?_
                        refine F.va rfl rfl (fun w' hw' => (x_nilCheck rfl)) ?_
                        refine F.va rfl rfl (fun w' hw' => (x_field rfl Try.underlying39 rfl sz35 (by decide))) ?_
                        refine F.va rfl rfl (fun w' hw' => (x_field rfl Try.underlying63 rfl sz2 (by decide))) ?_
                        refine F.va rfl rfl (fun w' hw' => (x_load rfl Try.underlying2 rfl (hw'.2.1.cellAt 6 (v := .int .i64 (o.least)) rfl))) ?_
                        refine F.doo rfl rfl ?_
                        refine L.call (x_call1 rfl Try.func34 rfl nm34 rfl) (at_c o.to w) ?_
                        rintro _ w1 ⟨rfl, hw1⟩
                        rw [hw1]
                        clear hw1 w1
                        refine L.nil ⟨rfl, ⟨h2, hB6, hS, h1⟩, ?_⟩
                        refine F.va rfl rfl (fun w' hw' => (x_idxArr (i := at4 o.to) rfl rfl Try.underlying35 sz2 (at4_lt _))) ?_
                        refine F.va rfl rfl (fun w' hw' => (x_load (v := .int .i64 (c (at4 o.to))) rfl Try.underlying2 rfl (shc_cell (c := c) hw'.2.2.1 (at4_lt _)))) ?_
                        refine F.va rfl rfl (fun w' hw' => (d_boolK (r := true) (decide_eq_true hA) (x_lss (m := c (at4 o.to)) (k := o.least) rfl rfl))) ?_
                        refine F.va rfl rfl (fun w' hw' => (x_mvB rfl)) ?_
                        refine F.on rfl rfl rfl (fun w' hw' => (x_mvI rfl)) ?_
                        refine F.on rfl rfl rfl (fun w' hw' => (d_boolK (r := true) (decide_eq_true hB') (x_lss (m := (j : Int)) (k := 50) rfl rfl))) ?_
                        refine F.va rfl rfl (fun w' hw' => (x_pickT rfl)) ?_
                        refine F.va rfl rfl (fun w' hw' => (x_mvB rfl)) ?_
                        refine F.on rfl rfl rfl (fun w' hw' => (x_field rfl Try.underlying63 rfl sz3 (by decide))) ?_
                        refine F.on rfl rfl rfl (fun w' hw' => (x_load rfl Try.underlying3 rfl (hw'.2.1.cellAt 5 (v := .int .i64 (o.cell)) rfl))) ?_
                        refine F.on rfl rfl rfl (fun w' hw' => (d_boolK (r := true) (decide_eq_true hC) (x_geq (m := o.cell) (k := 0) rfl rfl))) ?_
                        refine F.va rfl rfl (fun w' hw' => (x_pickT rfl)) ?_
                        refine F.va rfl rfl (fun w' hw' => (x_mvB rfl)) ?_
                        refine F.on rfl rfl rfl (fun w' hw' => (x_field rfl Try.underlying63 rfl sz3 (by decide))) ?_
                        refine F.on rfl rfl rfl (fun w' hw' => (x_load rfl Try.underlying3 rfl (hw'.2.1.cellAt 5 (v := .int .i64 (o.cell)) rfl))) ?_
                        refine F.on rfl rfl rfl (fun w' hw' => (x_load rfl Try.underlying64 rfl (hw'.2.2.2.cellAt 0 (v := .slice (Λ.ba n) ((Λ.bo n).length) (Λ.bc n)) rfl))) ?_
                        refine F.on rfl rfl rfl (fun w' hw' => (x_len rfl Try.underlying64 rfl)) ?_
                        refine F.nil ?_
                        show L _ _ _ _ _ _ _
                        refine L.on rfl ?_
                        refine L.va (d_boolK (r := true) (decide_eq_true hD) (x_lss (m := o.cell) (k := ((Λ.bo n).length : Int)) rfl rfl)) ?_
                        refine L.va (x_pickT rfl) ?_
                        refine L.nil ?_
                        try clear h1
                        try clear h2
                        try clear hS
                        show W _ _ _ _ _ _
                        refine W.condT rfl ?_
                        refine W.seq ?_
                        refine W.region rfl ?_
                        refine L.va (x_mvI rfl) ?_
                        refine L.va (x_inc rfl rfl (by omega)) ?_
                        refine L.va (x_asI rfl) ?_
                        refine L.nil ?_
                        show W _ _ _ _ _ _
                        refine W.region rfl ?_
                        refine L.va (x_field rfl Try.underlying63 rfl sz3 (by decide)) ?_
                        have hcl : ((o.cell.toNat : Nat) : Int) = o.cell := by omega
                        refine L.va (x_load (v := .int .i64 ((o.cell.toNat : Nat) : Int)) rfl Try.underlying3 rfl (by rw [hcl]; exact hB6.cellAt 5 rfl)) ?_
                        refine L.va (x_asI rfl) ?_
                        refine L.nil ?_
                        refine B.nrm ?_
                        refine B.nrm ?_
                        refine T.nrm ?_
                        have hms := meas_jump (ops := Λ.bo n) (i := i) (k := o.cell.toNat) hB
                        have hs := hs.to (i' := o.cell.toNat) (j' := j + 1) (c' := c) (by rw [opsGo_at ho, if_neg hk1, if_neg hk2, if_neg hk3, if_neg hk4, if_neg hk5, hjmp]; rfl) hs.inv rfl ⟨rfl, rfl⟩
                        exact ⟨_, by omega, ⟨o.cell.toNat, j + 1, c, rfl, rfl, rfl, rfl, rfl, rfl, hs, (by omega), (by omega)⟩⟩
                      · have hjmp : jumps (Λ.bo n) o j c = false := by simp [jumps, hk6, hA, hB, hC, hD]
                        have h1 := (hs.b1 hΛ hn)
                        have h2 := (hs.b2 hΛ hn)
                        have hS := hs.inv.sh
                        refine W.fl 25 [3] [0,1,2,4,5,8,9,3,6,7,10,11,12,13,14,15,16,17,18,19,20,21,22,23,24] (fun w' => BlkF w' (Λ.b2 n) #[.pointer (some ⟨Λ.sb, 0, none⟩)] 32 (0, 0) ∧ Blk w' b6 #[.int .i64 (o.kind), .int .i64 (o.step.kind), .int .i64 (o.step.obj), .int .i64 (o.step.num), .bool (o.free), .int .i64 (o.cell), .int .i64 (o.least), .int .i64 (o.to), .int .i64 (o.by_), .string (o.text)] 63 ∧ BlkF w' Λ.sb #[.int .i64 (c 0), .int .i64 (c 1), .int .i64 (c 2), .int .i64 (c 3), .bool false, .bool false] 39 (0, 0) ∧ BlkF w' (Λ.b1 n) #[.slice (Λ.ba n) ((Λ.bo n).length) (Λ.bc n)] 64 (0, 0)) (by kernel_rfl) (by kernel_rfl) (by kernel_rfl) (by kernel_rfl) (by kernel_rfl) (⟨h2.keep (Below.refl w.heap.size w).drew, hB6.keep (Below.refl w.heap.size w).drew, hS.keep (Below.refl w.heap.size w).drew, h1.keep (Below.refl w.heap.size w).drew⟩) ?_
                        have hdr : Below w.heap.size w w.drew := (Below.refl w.heap.size w).drew
                        have hs := hs.keep hdr
                        have hB6 := hB6.keep hdr
                        have h1 := h1.keep hdr
                        have h2 := h2.keep hdr
                        have hS := hS.keep hdr
                        clear hdr
                        generalize w.drew = w at *
                        refine F.va rfl rfl (fun w' hw' => (x_load rfl Try.underlying32 rfl (hw'.1.cellAt 0 (v := .pointer (some ⟨Λ.sb, 0, none⟩)) rfl))) ?_
                        refine F.va rfl rfl (fun w' hw' => (x_field rfl Try.underlying63 rfl sz3 (by decide))) ?_
                        refine F.va rfl rfl (fun w' hw' => (x_load rfl Try.underlying3 rfl (hw'.2.1.cellAt 7 (v := .int .i64 (o.to)) rfl))) ?_
                        refine F.va rfl rfl (fun w' hw' => (x_nilCheck rfl)) ?_
                        refine F.va rfl rfl (fun w' hw' => (x_field rfl Try.underlying39 rfl sz35 (by decide))) ?_
                        refine F.va rfl rfl (fun w' hw' => (x_field rfl Try.underlying63 rfl sz2 (by decide))) ?_
                        refine F.va rfl rfl (fun w' hw' => (x_load rfl Try.underlying2 rfl (hw'.2.1.cellAt 6 (v := .int .i64 (o.least)) rfl))) ?_
                        refine F.doo rfl rfl ?_
                        refine L.call (x_call1 rfl Try.func34 rfl nm34 rfl) (at_c o.to w) ?_
                        rintro _ w1 ⟨rfl, hw1⟩
                        rw [hw1]
                        clear hw1 w1
                        refine L.nil ⟨rfl, ⟨h2, hB6, hS, h1⟩, ?_⟩
                        refine F.va rfl rfl (fun w' hw' => (x_idxArr (i := at4 o.to) rfl rfl Try.underlying35 sz2 (at4_lt _))) ?_
                        refine F.va rfl rfl (fun w' hw' => (x_load (v := .int .i64 (c (at4 o.to))) rfl Try.underlying2 rfl (shc_cell (c := c) hw'.2.2.1 (at4_lt _)))) ?_
                        refine F.va rfl rfl (fun w' hw' => (d_boolK (r := true) (decide_eq_true hA) (x_lss (m := c (at4 o.to)) (k := o.least) rfl rfl))) ?_
                        refine F.va rfl rfl (fun w' hw' => (x_mvB rfl)) ?_
                        refine F.on rfl rfl rfl (fun w' hw' => (x_mvI rfl)) ?_
                        refine F.on rfl rfl rfl (fun w' hw' => (d_boolK (r := true) (decide_eq_true hB') (x_lss (m := (j : Int)) (k := 50) rfl rfl))) ?_
                        refine F.va rfl rfl (fun w' hw' => (x_pickT rfl)) ?_
                        refine F.va rfl rfl (fun w' hw' => (x_mvB rfl)) ?_
                        refine F.on rfl rfl rfl (fun w' hw' => (x_field rfl Try.underlying63 rfl sz3 (by decide))) ?_
                        refine F.on rfl rfl rfl (fun w' hw' => (x_load rfl Try.underlying3 rfl (hw'.2.1.cellAt 5 (v := .int .i64 (o.cell)) rfl))) ?_
                        refine F.on rfl rfl rfl (fun w' hw' => (d_boolK (r := true) (decide_eq_true hC) (x_geq (m := o.cell) (k := 0) rfl rfl))) ?_
                        refine F.va rfl rfl (fun w' hw' => (x_pickT rfl)) ?_
                        refine F.va rfl rfl (fun w' hw' => (x_mvB rfl)) ?_
                        refine F.on rfl rfl rfl (fun w' hw' => (x_field rfl Try.underlying63 rfl sz3 (by decide))) ?_
                        refine F.on rfl rfl rfl (fun w' hw' => (x_load rfl Try.underlying3 rfl (hw'.2.1.cellAt 5 (v := .int .i64 (o.cell)) rfl))) ?_
                        refine F.on rfl rfl rfl (fun w' hw' => (x_load rfl Try.underlying64 rfl (hw'.2.2.2.cellAt 0 (v := .slice (Λ.ba n) ((Λ.bo n).length) (Λ.bc n)) rfl))) ?_
                        refine F.on rfl rfl rfl (fun w' hw' => (x_len rfl Try.underlying64 rfl)) ?_
                        refine F.nil ?_
                        show L _ _ _ _ _ _ _
                        refine L.on rfl ?_
                        refine L.va (d_boolK (r := false) (decide_eq_false hD) (x_lss (m := o.cell) (k := ((Λ.bo n).length : Int)) rfl rfl)) ?_
                        refine L.va (x_pickT rfl) ?_
                        refine L.nil ?_
                        try clear h1
                        try clear h2
                        try clear hS
                        show W _ _ _ _ _ _
                        refine W.condF rfl ?_
                        refine W.skip ?_
                        refine B.nrm ?_
                        refine B.nrm ?_
                        refine T.nrm ?_
                        have hms := meas_next (ops := Λ.bo n) (j := j) hlt
                        exact ⟨_, by omega, ⟨i + 1, j, c, rfl, rfl, rfl, rfl, rfl, rfl, (hs.to (i' := i + 1) (j' := j) (c' := c) (by rw [opsGo_at ho, if_neg hk1, if_neg hk2, if_neg hk3, if_neg hk4, if_neg hk5, hjmp]; rfl) hs.inv rfl ⟨rfl, rfl⟩), hj, (by omega)⟩⟩
                    · have hjmp : jumps (Λ.bo n) o j c = false := by simp [jumps, hk6, hA, hB, hC]
                      have h1 := (hs.b1 hΛ hn)
                      have h2 := (hs.b2 hΛ hn)
                      have hS := hs.inv.sh
                      refine W.fl 25 [3] [0,1,2,4,5,8,9,3,6,7,10,11,12,13,14,15,16,17,18,19,20,21,22,23,24] (fun w' => BlkF w' (Λ.b2 n) #[.pointer (some ⟨Λ.sb, 0, none⟩)] 32 (0, 0) ∧ Blk w' b6 #[.int .i64 (o.kind), .int .i64 (o.step.kind), .int .i64 (o.step.obj), .int .i64 (o.step.num), .bool (o.free), .int .i64 (o.cell), .int .i64 (o.least), .int .i64 (o.to), .int .i64 (o.by_), .string (o.text)] 63 ∧ BlkF w' Λ.sb #[.int .i64 (c 0), .int .i64 (c 1), .int .i64 (c 2), .int .i64 (c 3), .bool false, .bool false] 39 (0, 0)) (by kernel_rfl) (by kernel_rfl) (by kernel_rfl) (by kernel_rfl) (by kernel_rfl) (⟨h2.keep (Below.refl w.heap.size w).drew, hB6.keep (Below.refl w.heap.size w).drew, hS.keep (Below.refl w.heap.size w).drew⟩) ?_
                      have hdr : Below w.heap.size w w.drew := (Below.refl w.heap.size w).drew
                      have hs := hs.keep hdr
                      have hB6 := hB6.keep hdr
                      have h1 := h1.keep hdr
                      have h2 := h2.keep hdr
                      have hS := hS.keep hdr
                      clear hdr
                      generalize w.drew = w at *
                      refine F.va rfl rfl (fun w' hw' => (x_load rfl Try.underlying32 rfl (hw'.1.cellAt 0 (v := .pointer (some ⟨Λ.sb, 0, none⟩)) rfl))) ?_
                      refine F.va rfl rfl (fun w' hw' => (x_field rfl Try.underlying63 rfl sz3 (by decide))) ?_
                      refine F.va rfl rfl (fun w' hw' => (x_load rfl Try.underlying3 rfl (hw'.2.1.cellAt 7 (v := .int .i64 (o.to)) rfl))) ?_
                      refine F.va rfl rfl (fun w' hw' => (x_nilCheck rfl)) ?_
                      refine F.va rfl rfl (fun w' hw' => (x_field rfl Try.underlying39 rfl sz35 (by decide))) ?_
                      refine F.va rfl rfl (fun w' hw' => (x_field rfl Try.underlying63 rfl sz2 (by decide))) ?_
                      refine F.va rfl rfl (fun w' hw' => (x_load rfl Try.underlying2 rfl (hw'.2.1.cellAt 6 (v := .int .i64 (o.least)) rfl))) ?_
                      refine F.doo rfl rfl ?_
                      refine L.call (x_call1 rfl Try.func34 rfl nm34 rfl) (at_c o.to w) ?_
                      rintro _ w1 ⟨rfl, hw1⟩
                      rw [hw1]
                      clear hw1 w1
                      refine L.nil ⟨rfl, ⟨h2, hB6, hS⟩, ?_⟩
                      refine F.va rfl rfl (fun w' hw' => (x_idxArr (i := at4 o.to) rfl rfl Try.underlying35 sz2 (at4_lt _))) ?_
                      refine F.va rfl rfl (fun w' hw' => (x_load (v := .int .i64 (c (at4 o.to))) rfl Try.underlying2 rfl (shc_cell (c := c) hw'.2.2 (at4_lt _)))) ?_
                      refine F.va rfl rfl (fun w' hw' => (d_boolK (r := true) (decide_eq_true hA) (x_lss (m := c (at4 o.to)) (k := o.least) rfl rfl))) ?_
                      refine F.va rfl rfl (fun w' hw' => (x_mvB rfl)) ?_
                      refine F.on rfl rfl rfl (fun w' hw' => (x_mvI rfl)) ?_
                      refine F.on rfl rfl rfl (fun w' hw' => (d_boolK (r := true) (decide_eq_true hB') (x_lss (m := (j : Int)) (k := 50) rfl rfl))) ?_
                      refine F.va rfl rfl (fun w' hw' => (x_pickT rfl)) ?_
                      refine F.va rfl rfl (fun w' hw' => (x_mvB rfl)) ?_
                      refine F.on rfl rfl rfl (fun w' hw' => (x_field rfl Try.underlying63 rfl sz3 (by decide))) ?_
                      refine F.on rfl rfl rfl (fun w' hw' => (x_load rfl Try.underlying3 rfl (hw'.2.1.cellAt 5 (v := .int .i64 (o.cell)) rfl))) ?_
                      refine F.on rfl rfl rfl (fun w' hw' => (d_boolK (r := false) (decide_eq_false hC) (x_geq (m := o.cell) (k := 0) rfl rfl))) ?_
                      refine F.va rfl rfl (fun w' hw' => (x_pickT rfl)) ?_
                      refine F.va rfl rfl (fun w' hw' => (x_mvB rfl)) ?_
                      refine F.off rfl rfl rfl ?_
                      refine F.off rfl rfl rfl ?_
                      refine F.off rfl rfl rfl ?_
                      refine F.off rfl rfl rfl ?_
                      refine F.nil ?_
                      show L _ _ _ _ _ _ _
                      refine L.off rfl ?_
                      refine L.va (x_pickF rfl) ?_
                      refine L.nil ?_
                      try clear h1
                      try clear h2
                      try clear hS
                      show W _ _ _ _ _ _
                      refine W.condF rfl ?_
                      refine W.skip ?_
                      refine B.nrm ?_
                      refine B.nrm ?_
                      refine T.nrm ?_
                      have hms := meas_next (ops := Λ.bo n) (j := j) hlt
                      exact ⟨_, by omega, ⟨i + 1, j, c, rfl, rfl, rfl, rfl, rfl, rfl, (hs.to (i' := i + 1) (j' := j) (c' := c) (by rw [opsGo_at ho, if_neg hk1, if_neg hk2, if_neg hk3, if_neg hk4, if_neg hk5, hjmp]; rfl) hs.inv rfl ⟨rfl, rfl⟩), hj, (by omega)⟩⟩
                  · have hB' : ¬ (j : Int) < 50 := by omega
                    have hjmp : jumps (Λ.bo n) o j c = false := by simp [jumps, hk6, hA, hB]
                    have h1 := (hs.b1 hΛ hn)
                    have h2 := (hs.b2 hΛ hn)
                    have hS := hs.inv.sh
                    refine W.fl 25 [3] [0,1,2,4,5,8,9,3,6,7,10,11,12,13,14,15,16,17,18,19,20,21,22,23,24] (fun w' => BlkF w' (Λ.b2 n) #[.pointer (some ⟨Λ.sb, 0, none⟩)] 32 (0, 0) ∧ Blk w' b6 #[.int .i64 (o.kind), .int .i64 (o.step.kind), .int .i64 (o.step.obj), .int .i64 (o.step.num), .bool (o.free), .int .i64 (o.cell), .int .i64 (o.least), .int .i64 (o.to), .int .i64 (o.by_), .string (o.text)] 63 ∧ BlkF w' Λ.sb #[.int .i64 (c 0), .int .i64 (c 1), .int .i64 (c 2), .int .i64 (c 3), .bool false, .bool false] 39 (0, 0)) (by kernel_rfl) (by kernel_rfl) (by kernel_rfl) (by kernel_rfl) (by kernel_rfl) (⟨h2.keep (Below.refl w.heap.size w).drew, hB6.keep (Below.refl w.heap.size w).drew, hS.keep (Below.refl w.heap.size w).drew⟩) ?_
                    have hdr : Below w.heap.size w w.drew := (Below.refl w.heap.size w).drew
                    have hs := hs.keep hdr
                    have hB6 := hB6.keep hdr
                    have h1 := h1.keep hdr
                    have h2 := h2.keep hdr
                    have hS := hS.keep hdr
                    clear hdr
                    generalize w.drew = w at *
                    refine F.va rfl rfl (fun w' hw' => (x_load rfl Try.underlying32 rfl (hw'.1.cellAt 0 (v := .pointer (some ⟨Λ.sb, 0, none⟩)) rfl))) ?_
                    refine F.va rfl rfl (fun w' hw' => (x_field rfl Try.underlying63 rfl sz3 (by decide))) ?_
                    refine F.va rfl rfl (fun w' hw' => (x_load rfl Try.underlying3 rfl (hw'.2.1.cellAt 7 (v := .int .i64 (o.to)) rfl))) ?_
                    refine F.va rfl rfl (fun w' hw' => (x_nilCheck rfl)) ?_
                    refine F.va rfl rfl (fun w' hw' => (x_field rfl Try.underlying39 rfl sz35 (by decide))) ?_
                    refine F.va rfl rfl (fun w' hw' => (x_field rfl Try.underlying63 rfl sz2 (by decide))) ?_
                    refine F.va rfl rfl (fun w' hw' => (x_load rfl Try.underlying2 rfl (hw'.2.1.cellAt 6 (v := .int .i64 (o.least)) rfl))) ?_
                    refine F.doo rfl rfl ?_
                    refine L.call (x_call1 rfl Try.func34 rfl nm34 rfl) (at_c o.to w) ?_
                    rintro _ w1 ⟨rfl, hw1⟩
                    rw [hw1]
                    clear hw1 w1
                    refine L.nil ⟨rfl, ⟨h2, hB6, hS⟩, ?_⟩
                    refine F.va rfl rfl (fun w' hw' => (x_idxArr (i := at4 o.to) rfl rfl Try.underlying35 sz2 (at4_lt _))) ?_
                    refine F.va rfl rfl (fun w' hw' => (x_load (v := .int .i64 (c (at4 o.to))) rfl Try.underlying2 rfl (shc_cell (c := c) hw'.2.2 (at4_lt _)))) ?_
                    refine F.va rfl rfl (fun w' hw' => (d_boolK (r := true) (decide_eq_true hA) (x_lss (m := c (at4 o.to)) (k := o.least) rfl rfl))) ?_
                    refine F.va rfl rfl (fun w' hw' => (x_mvB rfl)) ?_
                    refine F.on rfl rfl rfl (fun w' hw' => (x_mvI rfl)) ?_
                    refine F.on rfl rfl rfl (fun w' hw' => (d_boolK (r := false) (decide_eq_false hB') (x_lss (m := (j : Int)) (k := 50) rfl rfl))) ?_
                    refine F.va rfl rfl (fun w' hw' => (x_pickT rfl)) ?_
                    refine F.va rfl rfl (fun w' hw' => (x_mvB rfl)) ?_
                    refine F.off rfl rfl rfl ?_
                    refine F.off rfl rfl rfl ?_
                    refine F.off rfl rfl rfl ?_
                    refine F.va rfl rfl (fun w' hw' => (x_pickF rfl)) ?_
                    refine F.va rfl rfl (fun w' hw' => (x_mvB rfl)) ?_
                    refine F.off rfl rfl rfl ?_
                    refine F.off rfl rfl rfl ?_
                    refine F.off rfl rfl rfl ?_
                    refine F.off rfl rfl rfl ?_
                    refine F.nil ?_
                    show L _ _ _ _ _ _ _
                    refine L.off rfl ?_
                    refine L.va (x_pickF rfl) ?_
                    refine L.nil ?_
                    try clear h1
                    try clear h2
                    try clear hS
                    show W _ _ _ _ _ _
                    refine W.condF rfl ?_
                    refine W.skip ?_
                    refine B.nrm ?_
                    refine B.nrm ?_
                    refine T.nrm ?_
                    have hms := meas_next (ops := Λ.bo n) (j := j) hlt
                    exact ⟨_, by omega, ⟨i + 1, j, c, rfl, rfl, rfl, rfl, rfl, rfl, (hs.to (i' := i + 1) (j' := j) (c' := c) (by rw [opsGo_at ho, if_neg hk1, if_neg hk2, if_neg hk3, if_neg hk4, if_neg hk5, hjmp]; rfl) hs.inv rfl ⟨rfl, rfl⟩), hj, (by omega)⟩⟩
                · have hjmp : jumps (Λ.bo n) o j c = false := by simp [jumps, hk6, hA]
                  have h1 := (hs.b1 hΛ hn)
                  have h2 := (hs.b2 hΛ hn)
                  have hS := hs.inv.sh
                  refine W.fl 25 [3] [0,1,2,4,5,8,9,3,6,7,10,11,12,13,14,15,16,17,18,19,20,21,22,23,24] (fun w' => BlkF w' (Λ.b2 n) #[.pointer (some ⟨Λ.sb, 0, none⟩)] 32 (0, 0) ∧ Blk w' b6 #[.int .i64 (o.kind), .int .i64 (o.step.kind), .int .i64 (o.step.obj), .int .i64 (o.step.num), .bool (o.free), .int .i64 (o.cell), .int .i64 (o.least), .int .i64 (o.to), .int .i64 (o.by_), .string (o.text)] 63 ∧ BlkF w' Λ.sb #[.int .i64 (c 0), .int .i64 (c 1), .int .i64 (c 2), .int .i64 (c 3), .bool false, .bool false] 39 (0, 0)) (by kernel_rfl) (by kernel_rfl) (by kernel_rfl) (by kernel_rfl) (by kernel_rfl) (⟨h2.keep (Below.refl w.heap.size w).drew, hB6.keep (Below.refl w.heap.size w).drew, hS.keep (Below.refl w.heap.size w).drew⟩) ?_
                  have hdr : Below w.heap.size w w.drew := (Below.refl w.heap.size w).drew
                  have hs := hs.keep hdr
                  have hB6 := hB6.keep hdr
                  have h1 := h1.keep hdr
                  have h2 := h2.keep hdr
                  have hS := hS.keep hdr
                  clear hdr
                  generalize w.drew = w at *
                  refine F.va rfl rfl (fun w' hw' => (x_load rfl Try.underlying32 rfl (hw'.1.cellAt 0 (v := .pointer (some ⟨Λ.sb, 0, none⟩)) rfl))) ?_
                  refine F.va rfl rfl (fun w' hw' => (x_field rfl Try.underlying63 rfl sz3 (by decide))) ?_
                  refine F.va rfl rfl (fun w' hw' => (x_load rfl Try.underlying3 rfl (hw'.2.1.cellAt 7 (v := .int .i64 (o.to)) rfl))) ?_
                  refine F.va rfl rfl (fun w' hw' => (x_nilCheck rfl)) ?_
                  refine F.va rfl rfl (fun w' hw' => (x_field rfl Try.underlying39 rfl sz35 (by decide))) ?_
                  refine F.va rfl rfl (fun w' hw' => (x_field rfl Try.underlying63 rfl sz2 (by decide))) ?_
                  refine F.va rfl rfl (fun w' hw' => (x_load rfl Try.underlying2 rfl (hw'.2.1.cellAt 6 (v := .int .i64 (o.least)) rfl))) ?_
                  refine F.doo rfl rfl ?_
                  refine L.call (x_call1 rfl Try.func34 rfl nm34 rfl) (at_c o.to w) ?_
                  rintro _ w1 ⟨rfl, hw1⟩
                  rw [hw1]
                  clear hw1 w1
                  refine L.nil ⟨rfl, ⟨h2, hB6, hS⟩, ?_⟩
                  refine F.va rfl rfl (fun w' hw' => (x_idxArr (i := at4 o.to) rfl rfl Try.underlying35 sz2 (at4_lt _))) ?_
                  refine F.va rfl rfl (fun w' hw' => (x_load (v := .int .i64 (c (at4 o.to))) rfl Try.underlying2 rfl (shc_cell (c := c) hw'.2.2 (at4_lt _)))) ?_
                  refine F.va rfl rfl (fun w' hw' => (d_boolK (r := false) (decide_eq_false hA) (x_lss (m := c (at4 o.to)) (k := o.least) rfl rfl))) ?_
                  refine F.va rfl rfl (fun w' hw' => (x_mvB rfl)) ?_
                  refine F.off rfl rfl rfl ?_
                  refine F.off rfl rfl rfl ?_
                  refine F.va rfl rfl (fun w' hw' => (x_pickF rfl)) ?_
                  refine F.va rfl rfl (fun w' hw' => (x_mvB rfl)) ?_
                  refine F.off rfl rfl rfl ?_
                  refine F.off rfl rfl rfl ?_
                  refine F.off rfl rfl rfl ?_
                  refine F.va rfl rfl (fun w' hw' => (x_pickF rfl)) ?_
                  refine F.va rfl rfl (fun w' hw' => (x_mvB rfl)) ?_
                  refine F.off rfl rfl rfl ?_
                  refine F.off rfl rfl rfl ?_
                  refine F.off rfl rfl rfl ?_
                  refine F.off rfl rfl rfl ?_
                  refine F.nil ?_
                  show L _ _ _ _ _ _ _
                  refine L.off rfl ?_
                  refine L.va (x_pickF rfl) ?_
                  refine L.nil ?_
                  try clear h1
                  try clear h2
                  try clear hS
                  show W _ _ _ _ _ _
                  refine W.condF rfl ?_
                  refine W.skip ?_
                  refine B.nrm ?_
                  refine B.nrm ?_
                  refine T.nrm ?_
                  have hms := meas_next (ops := Λ.bo n) (j := j) hlt
                  exact ⟨_, by omega, ⟨i + 1, j, c, rfl, rfl, rfl, rfl, rfl, rfl, (hs.to (i' := i + 1) (j' := j) (c' := c) (by rw [opsGo_at ho, if_neg hk1, if_neg hk2, if_neg hk3, if_neg hk4, if_neg hk5, hjmp]; rfl) hs.inv rfl ⟨rfl, rfl⟩), hj, (by omega)⟩⟩
              · refine W.skip ?_
                refine B.nrm ?_
                refine B.nrm ?_
                refine T.nrm ?_
                have hms := meas_next (ops := Λ.bo n) (j := j) hlt
                exact ⟨_, by omega, ⟨i + 1, j, c, rfl, rfl, rfl, rfl, rfl, rfl, (hs.to (i' := i + 1) (j' := j) (c' := c) (by rw [opsGo_at ho, if_neg hk1, if_neg hk2, if_neg hk3, if_neg hk4, if_neg hk5, if_neg (by simp [jumps, hk6])]) hs.inv rfl ⟨rfl, rfl⟩), hj, (by omega)⟩⟩
  · refine W.exit ?_
    repeat (first | refine T.exit ?_ | refine N.exit ?_ | refine B.exitNe (by decide) ?_)
    refine B.exitEq ?_
    repeat (first | refine T.nrm ?_ | refine B.nrm ?_ | refine N.nrm ?_)
    refine ends.none (.inl rfl) rfl ?_
    exact .inl (hs.told (opsGo_end (by omega)))

end Go.Vy.Sc
end
/- Bodies under a script: what sched.Run answers, told without a program; how many notes there can be. -/
section
namespace Go.Vy.Sc
open Go Go.Conc Go.Yc Go.RowKit Go.Proofs Go.Proofs.Ytfmoeemolgjodaa
open Go.Vc Go.Wg
open Go.ConcN (sumTo sumTo_upd sumTo_congr sumTo_le)
/-! ### The run of bodies, told without places -/
@[reducible] def pSys (m : Nat) (bo : Nat → List OpD) : Sys where
  S := Cells
  L := Nat × Nat
  m := m
  s0 := fun _ => 0
  nil := fun _ => false
  stp := fun i l => (((bo i)[l.1]?).map (·.step)).getD sp0
  rdy := fun i l s => match (bo i)[l.1]? with
    | some o => o.free || decide (o.least ≤ s (at4 o.cell))
    | none => true
  beg := fun i s => opsGo (bo i) 0 0 s
  go := fun i l s => match (bo i)[l.1]? with
    | some o => opsGo (bo i) (l.1 + 1) l.2 (addC s (at4 o.to) o.by_)
    | none => ⟨s, [], .inr 1⟩
  Inv := fun _ _ _ => True
  lb := 0
  pl := fun _ => .all
abbrev PB (m : Nat) (bo : Nat → List OpD) (sc : Nat → Int) (n : Nat) : PR (pSys m bo) := (pSys m bo).pn sc n
section
variable {Λ : Lay}
def toP (p : PR (bodiesSys Λ)) : PR (pSys Λ.m Λ.bo) := ⟨p.s, p.ft, p.evs, p.nts, p.outs, p.who, p.used⟩
theorem toP_bgn (p : PR (bodiesSys Λ)) : toP ((bodiesSys Λ).bgn p) = (pSys Λ.m Λ.bo).bgn (toP p) := rfl
theorem toP_begs : ∀ n, toP ((bodiesSys Λ).begs n) = (pSys Λ.m Λ.bo).begs n
  | 0 => rfl
  | n + 1 => by
    show toP ((bodiesSys Λ).bgn ((bodiesSys Λ).begs n)) = (pSys Λ.m Λ.bo).bgn ((pSys Λ.m Λ.bo).begs n)
    rw [toP_bgn, toP_begs n]
theorem toP_turn (p : PR (bodiesSys Λ)) (i : Nat) : toP ((bodiesSys Λ).turn p i) = (pSys Λ.m Λ.bo).turn (toP p) i := by
  unfold Sys.turn
  rcases hx : p.ft[i]? with _ | (l | x)
  · have hx' : (toP p).ft[i]? = none := hx
    rw [hx']
  · have hx' : (toP p).ft[i]? = some (.inl l) := hx
    rw [hx']; rfl
  · have hx' : (toP p).ft[i]? = some (.inr x) := hx
    rw [hx']
theorem toP_isRdy (p : PR (bodiesSys Λ)) (i : Nat) : (bodiesSys Λ).isRdy p i = (pSys Λ.m Λ.bo).isRdy (toP p) i := by
  unfold Sys.isRdy
  rcases hx : p.ft[i]? with _ | (l | x)
  · have hx' : (toP p).ft[i]? = none := hx
    rw [hx']
  · have hx' : (toP p).ft[i]? = some (.inl l) := hx
    rw [hx']; rfl
  · have hx' : (toP p).ft[i]? = some (.inr x) := hx
    rw [hx']
theorem toP_rds (p : PR (bodiesSys Λ)) : (bodiesSys Λ).rds p = (pSys Λ.m Λ.bo).rds (toP p) := by
  unfold Sys.rds
  exact congrArg (fun f => (List.range Λ.m).filter f) (funext fun i => toP_isRdy p i)
theorem toP_step (p : PR (bodiesSys Λ)) (e : Int) : toP ((bodiesSys Λ).step p e) = (pSys Λ.m Λ.bo).step (toP p) e := by
  unfold Sys.step
  rw [toP_rds]
  cases ((pSys Λ.m Λ.bo).rds (toP p))[pickIx e ((pSys Λ.m Λ.bo).rds (toP p)).length]? with
  | none => rfl
  | some i => exact toP_turn p i
theorem toP_pn (sc : Nat → Int) : ∀ n, toP ((bodiesSys Λ).pn sc n) = (pSys Λ.m Λ.bo).pn sc n
  | 0 => toP_begs _
  | n + 1 => by
    show toP ((bodiesSys Λ).step ((bodiesSys Λ).pn sc n) (sc n)) = (pSys Λ.m Λ.bo).step ((pSys Λ.m Λ.bo).pn sc n) (sc n)
    rw [toP_step, toP_pn sc n]
theorem toP_wt (j : Nat) (x : Option ((Nat × Nat) ⊕ Nat)) : wtOf (bodiesSys Λ) j x = wtOf (pSys Λ.m Λ.bo) j x := by
  rcases x with _ | (l | x) <;> rfl
end
/-! ### How many notes -/
def potF (ops : List OpD) : (Nat × Nat) ⊕ Nat → Nat
  | .inl (i, j) => meas ops i j
  | .inr _ => 0
theorem opsGo_nts (ops : List OpD) : ∀ (μ i j : Nat) (c : Cells), meas ops i j = μ → (opsGo ops i j c).nts.length + potF ops (opsGo ops i j c).fate ≤ μ := by
  intro μ
  induction μ using Nat.strongRecOn with
  | _ μ ih =>
  intro i j c hμ
  rcases Nat.lt_or_ge i ops.length with hi | hi
  · obtain ⟨o, ho⟩ : ∃ o, ops[i]? = some o := ⟨_, List.getElem?_eq_getElem hi⟩
    have hn := meas_next (j := j) hi
    have hstep : ∀ c', (opsGo ops (i + 1) j c').nts.length + potF ops (opsGo ops (i + 1) j c').fate ≤ meas ops (i + 1) j := fun c' => ih _ (by omega) (i + 1) j c' rfl
    rw [opsGo_at ho]
    split
    · show 0 + meas ops i j ≤ μ
      omega
    split
    · have := hstep c
      show ((opsGo ops (i + 1) j c).nts.length + 1) + potF ops (opsGo ops (i + 1) j c).fate ≤ μ
      omega
    split
    · have := hstep (addC c (at4 o.to) o.by_); omega
    split
    · exact Nat.zero_le _
    split
    · exact Nat.zero_le _
    split
    · rename_i hj
      have hj' : j < 50 := by
        simp only [jumps, Bool.and_eq_true, decide_eq_true_eq] at hj
        exact hj.1.1.2
      have hm := meas_jump (ops := ops) (i := i) (k := o.cell.toNat) hj'
      have := ih _ (by omega) o.cell.toNat (j + 1) c rfl
      omega
    · have := hstep c; omega
  · rw [opsGo_end (by omega)]
    exact Nat.zero_le _
/-- What a client may still tell. -/
def potN (bo : Nat → List OpD) (ft : List ((Nat × Nat) ⊕ Nat)) (i : Nat) : Nat := match ft[i]? with
  | some f => potF (bo i) f
  | none => meas (bo i) 0 0
section
variable {m : Nat} {bo : Nat → List OpD}
def NtsOk (m : Nat) (bo : Nat → List OpD) (p : PR (pSys m bo)) : Prop := p.ft.length ≤ m ∧ p.nts.length + sumTo m (potN bo p.ft) ≤ sumTo m fun i => meas (bo i) 0 0
theorem sumTo_upd1 {f : Nat → Nat} {g : Nat → Nat} {i m : Nat} (hi : i < m) (h : ∀ j, j ≠ i → f j = g j) : sumTo m f + g i = sumTo m g + f i := by
  have := sumTo_upd (α := Nat) g (f i) (fun x => x) hi
  have h2 : sumTo m (fun a => (Go.ConcN.upd g i (f i)) a) = sumTo m f := sumTo_congr fun j _ => by
    by_cases hj : j = i
    · subst hj; exact Go.ConcN.upd_same _ _ _
    · rw [Go.ConcN.upd_ne _ _ hj, h j hj]
  simp only [h2] at this
  exact this
theorem tell_len (i n : Nat) (l : List Nte) : (tell i n l).length = l.length := by simp [tell]
theorem NtsOk.bgn {p : PR (pSys m bo)} (h : NtsOk m bo p) (hl : p.ft.length < m) : NtsOk m bo ((pSys m bo).bgn p) := by
  obtain ⟨h1, h2⟩ := h
  have hb : (pSys m bo).bgn p = { p with s := (opsGo (bo p.ft.length) 0 0 p.s).s, ft := p.ft ++ [(opsGo (bo p.ft.length) 0 0 p.s).fate], nts := p.nts ++ tell p.ft.length p.evs.length (opsGo (bo p.ft.length) 0 0 p.s).nts, outs := p.outs ++ [opsGo (bo p.ft.length) 0 0 p.s], who := p.who ++ [none] } := rfl
  rw [hb]
  refine ⟨?_, ?_⟩
  · show (p.ft ++ [_]).length ≤ m
    rw [List.length_append]; exact hl
  · have hs := opsGo_nts (bo p.ft.length) _ 0 0 p.s rfl
    have hq := sumTo_upd1 (f := potN bo (p.ft ++ [(opsGo (bo p.ft.length) 0 0 p.s).fate])) (g := potN bo p.ft) hl fun j hj => by
      unfold potN
      rcases Nat.lt_or_ge j p.ft.length with z | z
      · rw [List.getElem?_append_left z]
      · rw [List.getElem?_eq_none z, List.getElem?_eq_none]
        rw [List.length_append]
        show p.ft.length + 1 ≤ j
        omega
    have e1 : potN bo (p.ft ++ [(opsGo (bo p.ft.length) 0 0 p.s).fate]) p.ft.length = potF (bo p.ft.length) (opsGo (bo p.ft.length) 0 0 p.s).fate := by
      unfold potN; simp
    have e2 : potN bo p.ft p.ft.length = meas (bo p.ft.length) 0 0 := by
      unfold potN; simp
    show (p.nts ++ tell _ _ _).length + sumTo m (potN bo (p.ft ++ [_])) ≤ _
    rw [List.length_append, tell_len]
    omega
theorem NtsOk.turn {p : PR (pSys m bo)} (h : NtsOk m bo p) (i : Nat) : NtsOk m bo ((pSys m bo).turn p i) := by
  obtain ⟨h1, h2⟩ := h
  unfold Sys.turn
  split
  · rename_i l hl
    obtain ⟨hil, _⟩ := List.getElem?_eq_some_iff.1 hl
    have hs : ((pSys m bo).go i l p.s).nts.length + potF (bo i) ((pSys m bo).go i l p.s).fate ≤ potF (bo i) (.inl l) := by
      obtain ⟨k, j⟩ := l
      show ((match (bo i)[k]? with | some o => opsGo (bo i) (k + 1) j (addC p.s (at4 o.to) o.by_) | none => ⟨p.s, [], .inr 1⟩ : Out' Cells (Nat × Nat))).nts.length + potF (bo i) (match (bo i)[k]? with | some o => opsGo (bo i) (k + 1) j (addC p.s (at4 o.to) o.by_) | none => ⟨p.s, [], .inr 1⟩ : Out' Cells (Nat × Nat)).fate ≤ meas (bo i) k j
      cases ho : (bo i)[k]? with
      | none => exact Nat.zero_le _
      | some o =>
        have := opsGo_nts (bo i) _ (k + 1) j (addC p.s (at4 o.to) o.by_) rfl
        have := meas_next (ops := bo i) (j := j) (List.getElem?_eq_some_iff.1 ho).1
        show (opsGo _ _ _ _).nts.length + potF _ (opsGo _ _ _ _).fate ≤ _
        omega
    refine ⟨?_, ?_⟩
    · show (p.ft.set i _).length ≤ m
      rw [List.length_set]; exact h1
    · have hq := sumTo_upd1 (m := m) (i := i) (f := potN bo (p.ft.set i ((pSys m bo).go i l p.s).fate)) (g := potN bo p.ft) (by omega) fun j hj => by
        unfold potN
        rw [List.getElem?_set_ne (Ne.symm hj)]
      have e1 : potN bo (p.ft.set i ((pSys m bo).go i l p.s).fate) i = potF (bo i) ((pSys m bo).go i l p.s).fate := by
        unfold potN; simp [hil]
      have e2 : potN bo p.ft i = potF (bo i) (.inl l) := by
        have hl' : p.ft[i]? = some (.inl l) := hl
        unfold potN; rw [hl']
      show (p.nts ++ tell _ _ _).length + sumTo m (potN bo (p.ft.set i _)) ≤ _
      rw [List.length_append, tell_len]
      omega
  · exact ⟨h1, h2⟩
theorem nts_ok (sc : Nat → Int) : ∀ n, NtsOk m bo (PB m bo sc n)
  | 0 => by
    have : ∀ k, k ≤ m → NtsOk m bo ((pSys m bo).begs k) := by
      intro k
      induction k with
      | zero => intro _; exact ⟨Nat.zero_le _, by show 0 + sumTo m _ ≤ _; rw [Nat.zero_add, sumTo_congr (g := fun i => meas (bo i) 0 0)]; exact Nat.le_refl _; intro i _; rfl⟩
      | succ k ih => intro hk; exact (ih (by omega)).bgn (by rw [Sys.len_begs]; omega)
    exact this m (Nat.le_refl _)
  | n + 1 => by
    show NtsOk m bo ((pSys m bo).step (PB m bo sc n) (sc n))
    unfold Sys.step
    split
    · exact (nts_ok sc n).turn _
    · exact nts_ok sc n
theorem nts_len (hm : m ≤ 16) (hl : ∀ i, i < m → (bo i).length ≤ 1048576) (sc : Nat → Int) (n : Nat) : (PB m bo sc n).nts.length ≤ 1000000000 := by
  have h1 := (nts_ok (m := m) (bo := bo) sc n).2
  have h2 : sumTo m (fun i => meas (bo i) 0 0) ≤ 53477427 * m := sumTo_le fun i hi => by
    have := hl i hi
    unfold meas
    omega
  omega
end
/-! ### Bodies as they lie -/
structure BodsAt (w : World) (ba : Option Addr) (m : Nat) (bo : Nat → List OpD) (aa : Nat → Option Addr) (cc : Nat → Nat) : Prop where
  sl : SL ba m
  row : ∀ i, i < m → w.cell? ⟨ab ba, ao ba + i * 1, none⟩ = some (.slice (aa i) (bo i).length (cc i))
  rsl : ∀ i, i < m → SL (aa i) (bo i).length
  op : ∀ i, i < m → ∀ (k : Nat) (o : OpD), (bo i)[k]? = some o → ∀ (j : Nat) (v : Value), (opC o)[j]? = some v → w.cell? ⟨ab (aa i), ao (aa i) + k * 10 + j, none⟩ = some v
  len : ∀ i, i < m → (bo i).length ≤ 1048576
  text : ∀ i, i < m → ∀ (k : Nat) (o : OpD), (bo i)[k]? = some o → o.text.size ≤ 1000000000000
theorem cell_lt {w : World} {a : Addr} {v : Value} (h : w.cell? a = some v) : a.block < w.heap.size := by
  unfold World.cell? at h
  rcases Nat.lt_or_ge a.block w.heap.size with z | z
  · exact z
  · rw [Array.getElem?_eq_none z] at h; simp at h
theorem cell_nn {w : World} {a : Addr} {v : Value} (h : w.cell? a = some v) : w.heap[a.block]? ≠ some nothing := by
  unfold World.cell? at h
  intro e
  rw [e] at h
  simp [nothing] at h
theorem cell_keep {w0 w : World} {a : Addr} {v : Value} (h : w0.cell? a = some v) (hb : Below w0.heap.size w0 w) : w.cell? a = some v := by
  rw [(cell_of_heap (u := w0) (u' := w) (a := a) (hb.block _ (cell_lt h))).1]; exact h
theorem BodsAt.keep {w w' : World} {ba : Option Addr} {m : Nat} {bo : Nat → List OpD} {aa : Nat → Option Addr} {cc : Nat → Nat} (h : BodsAt w ba m bo aa cc) (hb : Below w.heap.size w w') : BodsAt w' ba m bo aa cc :=
  ⟨h.sl, fun i hi => cell_keep (h.row i hi) hb, h.rsl, fun i hi k o ho j v hv => cell_keep (h.op i hi k o ho j v hv) hb, h.len, h.text⟩
def fvB (b1 b2 : Nat → Nat) (k : Nat) : Value := .func (.func 40) #[] #[.pointer (some ⟨b1 k, 0, none⟩), .pointer (some ⟨b2 k, 0, none⟩)]
/-- The boxes that the bodies' closures hold. -/
structure Boxes (w : World) (B m : Nat) (bo : Nat → List OpD) (aa : Nat → Option Addr) (cc : Nat → Nat) (sb : Nat) (b1 b2 : Nat → Nat) : Prop where
  le : ∀ i, i < m → B ≤ b1 i ∧ B ≤ b2 i
  one : ∀ i, i < m → BlkF w (b1 i) #[.slice (aa i) (bo i).length (cc i)] 64 (0, 0)
  two : ∀ i, i < m → BlkF w (b2 i) #[.pointer (some ⟨sb, 0, none⟩)] 32 (0, 0)
theorem Boxes.keep {w w' : World} {B m sb : Nat} {bo : Nat → List OpD} {aa : Nat → Option Addr} {cc : Nat → Nat} {b1 b2 : Nat → Nat} (h : Boxes w B m bo aa cc sb b1 b2) (hb : Below w.heap.size w w') : Boxes w' B m bo aa cc sb b1 b2 :=
  ⟨h.le, fun i hi => (hb.block _ (h.one i hi).lt).trans (h.one i hi), fun i hi => (hb.block _ (h.two i hi).lt).trans (h.two i hi)⟩
/-- What a play has left. -/
structure PlayM (B m : Nat) (bo : Nat → List OpD) (sn : Nat) (sc : Nat → Int) (w : World) (R : Rn) : Prop where
  mem : RunM w B R
  hm : R.m = m
  evs : R.evs = (PB m bo sc sn).evs
  nts : R.nts = (PB m bo sc sn).nts
  used : R.used = (PB m bo sc sn).used
  ends : ∀ j, j < m → R.ends[j]? = some (endOf (PB m bo sc sn).ft[j]?)
  wts : ∀ j, j < m → R.wts[j]? = some (wtOf (pSys m bo) j ((PB m bo sc sn).ft[j]?))
  stuck : R.stuck = ((PB m bo sc sn).ft.any (·.isLeft) && ((pSys m bo).rds (PB m bo sc sn)).isEmpty)
  fp : ∀ b, R.fp b → B ≤ b
theorem PlayM.congr {B m sn : Nat} {bo : Nat → List OpD} {sc : Nat → Int} {w w' : World} {R : Rn} (h : PlayM B m bo sn sc w R) (he : ∀ k, R.fp k → w'.heap[k]? = w.heap[k]?) : PlayM B m bo sn sc w' R :=
  ⟨h.mem.congr he, h.hm, h.evs, h.nts, h.used, h.ends, h.wts, h.stuck, h.fp⟩
theorem PlayM.keep {B m sn : Nat} {bo : Nat → List OpD} {sc : Nat → Int} {w w' : World} {R : Rn} (h : PlayM B m bo sn sc w R) (hb : Below w.heap.size w w') : PlayM B m bo sn sc w' R := h.congr fun k hk => hb.block k (h.mem.lt hk)
theorem PlayM.down {B B' m sn : Nat} {bo : Nat → List OpD} {sc : Nat → Int} {w : World} {R : Rn} (h : PlayM B' m bo sn sc w R) (hB : B ≤ B') : PlayM B m bo sn sc w R := by
  obtain ⟨h1, h2, h3, h4, h5, h6, h7, h8, h9⟩ := h
  exact ⟨⟨h1.run, h1.cls.down hB, h1.evs.down hB, h1.nts.down hB, h1.ends, h1.wts, h1.lend, h1.lwts, h1.lcl, h1.blk⟩, h2, h3, h4, h5, h6, h7, h8, fun b hb => Nat.le_trans hB (h9 b hb)⟩
/-- sched.Run on such bodies. -/
theorem play_run {lb : Nat} {pl : Nat → Plug} {m sn sb lc gc : Nat} {bo : Nat → List OpD} {sc : Nat → Int} {ba l g : Option Addr} {aa : Nat → Option Addr} {cc : Nat → Nat} {b1 b2 : Nat → Nat} {tl : List Value} {w0 w : World} (hBo : BodsAt w0 ba m bo aa cc) (hb : Below w0.heap.size w0 w) (hm : m ≤ 16) (hsn : sn ≤ 262144)
    (hl : Own w w0.heap.size 52 1 l m lc ((List.range m).map (fvB b1 b2))) {gn : Nat} (hg : Own w w0.heap.size 3 1 g gn gc ((List.range sn).map (fun j => .int .i64 (sc j)) ++ tl)) (hgn : sn ≤ gn) (hS : BlkF w sb (shC fun _ => 0) 39 (0, 0)) (hsb : w0.heap.size ≤ sb) (hx : Boxes w w0.heap.size m bo aa cc sb b1 b2) :
    @C Try.prog (loneCtx lb pl) 19 #[.slice l m lc, .slice g sn gc] w fun v w' => ∃ R, v = .tuple #[outV R, .int .i64 0] ∧ PlayM w.heap.size m bo sn sc w' R ∧ ¬ R.fp sb ∧ BlkF w' sb (shC (PB m bo sc sn).s) 39 (0, 0) ∧ w.grownBy w' (some sb) := by
  classical
  let RO : Nat → Prop := fun b => ∃ i, i < m ∧ (b = b1 i ∨ b = b2 i ∨ (0 < (bo i).length ∧ b = ab (aa i)))
  let Λ : Lay := ⟨m, sb, bo, aa, cc, b1, b2, RO, w, lb, pl⟩
  have hBw := hBo.keep hb
  have hop0 : ∀ i, i < m → 0 < (bo i).length → ∃ v, w0.cell? ⟨ab (aa i), ao (aa i) + 0 * 10 + 0, none⟩ = some v := fun i hi hl0 => by
    obtain ⟨o, ho⟩ : ∃ o, (bo i)[0]? = some o := ⟨_, List.getElem?_eq_getElem hl0⟩
    exact ⟨_, hBo.op i hi 0 o ho 0 _ rfl⟩
  have hlow : ∀ i, i < m → 0 < (bo i).length → ab (aa i) < w0.heap.size := fun i hi hl0 => by
    obtain ⟨v, hv⟩ := hop0 i hi hl0
    exact cell_lt hv
  have hsep : ¬ RO sb := by
    rintro ⟨i, hi, h | h | ⟨h0, h⟩⟩
    · exact BlkF.ne hS (hx.one i hi) (by decide) h
    · exact BlkF.ne hS (hx.two i hi) (by decide) h
    · have := hlow i hi h0; omega
  have hrolt : ∀ b, RO b → b < w.heap.size ∧ w.heap[b]? ≠ some nothing := by
    rintro b ⟨i, hi, rfl | rfl | ⟨h0, rfl⟩⟩
    · exact ⟨(hx.one i hi).lt, blkF_ne_nothing (hx.one i hi) Nat.one_pos⟩
    · exact ⟨(hx.two i hi).lt, blkF_ne_nothing (hx.two i hi) Nat.one_pos⟩
    · obtain ⟨v, hv⟩ := hop0 i hi h0
      have hv' := cell_keep hv hb
      exact ⟨cell_lt hv', cell_nn hv'⟩
  have hΛ : LayOk Λ := ⟨hBw.op, hBw.rsl, hsep, fun i hi h0 => ⟨i, hi, .inr (.inr ⟨h0, rfl⟩)⟩, fun i hi => ⟨i, hi, .inl rfl⟩, fun i hi => ⟨i, hi, .inr (.inl rfl)⟩, hx.one, hx.two, fun i hi => Nat.le_trans (hBo.len i hi) (by decide), hBo.text⟩
  let Mn : Nat → Option Obj := fun b => if b = sb ∨ RO b then none else w.heap[b]?
  have hO : RunOk (bodiesSys Λ) (fun _ => 40) (fun i => #[.pointer (some ⟨b1 i, 0, none⟩), .pointer (some ⟨b2 i, 0, none⟩)]) (fvB b1 b2) l g sn sc := by
    refine ⟨bodies_ok Λ, hm, hsn, hl.sl, fun h => hg.sl (by omega), fun i hi => .inr ⟨rfl, rfl, _, Try.func40, rfl, nm40⟩, ?_, fun base i cb top u F hi _ hs => ?_⟩
    · have := nts_len (bo := bo) hm hBo.len sc sn
      have h2 := congrArg PR.nts (toP_pn (Λ := Λ) sc sn)
      have h3 : ((bodiesSys Λ).pn sc sn).nts = (PB m bo sc sn).nts := h2
      rw [h3]; exact this
    · obtain ⟨rfl, h1⟩ := BSt.start hs
      exact body_p hΛ hi _ u h1 (Proc ((bodiesSys Λ).cfg (fun _ => 40) ((bodiesSys Λ).pn sc sn) base i cb top)) rfl top fun e u2 fr he hf hl => .done hf hl he
  have key := run_c (Mn := Mn) (w0 := w) (F := Λ.F) (bc := lc) (scp := gc) hO (fun b o h => by
      have h : (if b = sb ∨ RO b then none else w.heap[b]?) = some o := h
      split at h
      · cases h
      · exact h) ⟨rfl, hS, fun b hb => ⟨rfl, hrolt b hb⟩, fun k => ⟨by show (_ : Int) ≤ 0; decide, by show (0 : Int) ≤ _; decide⟩⟩ (fun b hb => if_pos hb) (fun w' hw j hj => by
      have hj : j < m := hj
      have hla : l ≠ none := hl.some_of (by omega)
      have hb2 : ¬ (ab l = sb ∨ RO (ab l)) := by
        obtain ⟨cur, hc, hle, _⟩ := hl.row hla
        have hc : BlkF w (ab l) cur _ (0, 0) := hc
        rintro (h | ⟨i, hi, h | h | ⟨h0, h⟩⟩)
        · exact BlkF.ne hc hS (by decide) h
        · exact BlkF.ne hc (hx.one i hi) (by decide) h
        · exact BlkF.ne hc (hx.two i hi) (by decide) h
        · have := hlow i hi h0; omega
      have h1 : Mn (ab l) = w.heap[ab l]? := if_neg hb2
      have h2 : w'.heap[ab l]? = w.heap[ab l]? := by
        rw [← h1]; refine hw _ ?_
        rw [h1, Array.getElem?_eq_getElem (hl.lt hla)]; simp
      rw [(cell_of_heap (u := w) (u' := w') (a := ⟨ab l, ao l + j * 1, none⟩) h2).1, hl.off, Nat.zero_add, Nat.mul_one]
      exact hl.cell (by simp [hj])) (fun w' hw j hj => by
      have hla : g ≠ none := hg.some_of (by omega)
      have hb2 : ¬ (ab g = sb ∨ RO (ab g)) := by
        obtain ⟨cur, hc, hle, _⟩ := hg.row hla
        have hc : BlkF w (ab g) cur _ (0, 0) := hc
        rintro (h | ⟨i, hi, h | h | ⟨h0, h⟩⟩)
        · exact BlkF.ne hc hS (by decide) h
        · exact BlkF.ne hc (hx.one i hi) (by decide) h
        · exact BlkF.ne hc (hx.two i hi) (by decide) h
        · have := hlow i hi h0; omega
      have h1 : Mn (ab g) = w.heap[ab g]? := if_neg hb2
      have h2 : w'.heap[ab g]? = w.heap[ab g]? := by
        rw [← h1]; refine hw _ ?_
        rw [h1, Array.getElem?_eq_getElem (hg.lt hla)]; simp
      rw [(cell_of_heap (u := w) (u' := w') (a := ⟨ab g, ao g + j * 1, none⟩) h2).1, hg.off, Nat.zero_add, Nat.mul_one]
      refine hg.cell ?_
      rw [List.getElem?_append_left (by simp [hj])]
      simp [hj])
  refine @Calls.mono _ (loneCtx lb pl) _ _ _ _ _ key fun e w' he => ?_
  cases e with
  | panicked ch => exact he.elim
  | outgrown => exact he.elim
  | returned v =>
    obtain ⟨R, rfl, hD⟩ := he
    obtain ⟨F, ⟨rfl, hI⟩, hF⟩ := hD.inv
    have hpn := toP_pn (Λ := Λ) sc sn
    have hs : ((bodiesSys Λ).pn sc sn).s = (PB m bo sc sn).s := congrArg PR.s hpn
    refine ⟨R, rfl, ⟨hD.mem, hD.m, hD.evs.trans (congrArg PR.evs hpn), hD.nts.trans (congrArg PR.nts hpn), hD.used.trans (congrArg PR.used hpn), fun j hj => ?_, fun j hj => ?_, ?_, hD.fp⟩, hF sb (.inl rfl), ?_, hD.os, hD.tape, hD.output, hD.size, fun b hb hne => ?_⟩
    · rw [hD.ends j hj]
      exact congrArg (fun x : List ((Nat × Nat) ⊕ Nat) => some (endOf x[j]?)) (congrArg PR.ft hpn)
    · rw [hD.wts j hj]
      exact (congrArg some (toP_wt j _)).trans (congrArg (fun x : List ((Nat × Nat) ⊕ Nat) => some (wtOf (pSys m bo) j x[j]?)) (congrArg PR.ft hpn))
    · rw [hD.stuck, toP_rds, hpn]
      exact congrArg (fun x : List ((Nat × Nat) ⊕ Nat) => (x.any (·.isLeft) && _)) (congrArg PR.ft hpn)
    · rw [← hs]; exact hI.sh
    · have hne' : b ≠ sb := fun e => hne (by rw [e])
      by_cases hr : RO b
      · exact (hI.ro b hr).1
      · have h1 : Mn b = w.heap[b]? := if_neg fun h => h.elim hne' hr
        rw [← h1]
        refine hD.keep b ?_
        rw [h1, Array.getElem?_eq_getElem hb]; simp
end Go.Vy.Sc
end
/- Results that lie in cells. Nothing here speaks of a program. -/
section
namespace Go.Vc
open Go Go.RowKit
end Go.Vc
namespace Go.Vy
open Go Go.Conc Go.Yc Go.RowKit
open Go.Vc
theorem results_cell_tmp2 {fn : Func} {p u v : Tmp} {ty : TypeId} (h : fn.results = #[.cell p ty, .tmp u, .tmp v]) (tmps : Array Value) (P : Program) (w : World) :
    (results fn tmps).run P w = ((do let a ← asAddr (tmps.getD p undef); let x ← loadVar ty a; pure (.tuple #[x, tmps.getD u undef, tmps.getD v undef])) : Sem Value).run P w := by
  simp [results, h]
theorem load_whole {P : Program} {w : World} {b : Nat} {cs : Array Value} {T E : TypeId} {d : TypeDesc} (hT : P.underlying T = some d) (hu : flatB d = false) (hs : (P.info? T).map (·.size) = some cs.size) (hB : Blk w b cs E) : (loadVar T ⟨b, 0, Option.none⟩).run P w = .ok (.agg cs) w := by
  have h2 : ∀ j v, cs.toList[j]? = some v → w.cell? ((⟨b, 0, Option.none⟩ : Addr).add j) = some v := fun j v hj => by
    rw [Addr.add_lit, Nat.zero_add]; exact hB.cell (by simpa using hj)
  have := run_loadCells_list (P := P) (w := w) ⟨b, 0, Option.none⟩ cs.toList h2
  simp only [Array.length_toList] at this
  simp [loadVar, Go.Vc.run_isAgg hT, hu, Go.Vc.run_sizeOf hs, this]
theorem ends.cellTmp2 {P : Program} [Ctx P] {fn : Func} {R : Value → World → Prop} {x : Exit} {e : Env} {w : World} {t u v b : Nat} {cs : Array Value} {T E : TypeId} {d : TypeDesc} (hx : x = .normal ∨ x = .ret) (hr : fn.results = #[.cell t T, .tmp u, .tmp v])
    (he : e t = .pointer (some ⟨b, 0, Option.none⟩)) (hT : P.underlying T = some d) (hu : flatB d = false) (hs : (P.info? T).map (·.size) = some cs.size) (hB : Blk w b cs E) (h : R (.tuple #[.agg cs, e u, e v]) w) : ends P fn R x e w :=
  ⟨hx, _, fun tmps ht => resDoes_tame tame_results fun τ d' => by
    have hB : Blk (onT w τ d') b cs E := hB
    generalize onT w τ d' = w at hB ⊢
    have h3 : tmps.getD t undef = .pointer (some ⟨b, 0, Option.none⟩) := by rw [ht, he]
    rw [results_cell_tmp2 hr, h3]
    simp [asAddr, load_whole hT hu hs hB, ht], h⟩
theorem d_bool {P : Program} {S : Sem Next} {w : World} {p : Prop} [Decidable p] {r : Bool} (h : decide p = r) (hd : Does P S w (.val (.bool (decide p))) w) : Does P S w (.val (.bool r)) w := h ▸ hd
theorem Own.neBlk {w : World} {B s n c b : Nat} {E T : TypeId} {a : Option Addr} {xs : List Value} {cs : Array Value} {f : Nat × Nat} (h : Own w B E s a n c xs) (hb : BlkF w b cs T f) (hne : E ≠ T) : a ≠ none → ab a ≠ b := fun ha => by
  obtain ⟨cur, hc, _⟩ := h.row ha
  have hc : BlkF w (ab a) cur E (0, 0) := hc
  exact hc.ne hb hne
end Go.Vy
end
/- A play: bodies under a script. -/
section
namespace Go.Vy.Sc
open Go Go.Conc Go.Yc Go.RowKit Go.Proofs Go.Proofs.Ytfmoeemolgjodaa
open Go.Vc Go.Wg
theorem Boxes.mod {w w' : World} {B B' m sb : Nat} {TS : List TypeId} {bo : Nat → List OpD} {aa : Nat → Option Addr} {cc : Nat → Nat} {b1 b2 : Nat → Nat} (h : Boxes w B m bo aa cc sb b1 b2) (hm : ModT w w' B' TS) (hT : (TS.contains 64 || TS.contains 32) = false) : Boxes w' B m bo aa cc sb b1 b2 := by
  rw [Bool.or_eq_false_iff] at hT
  exact ⟨h.le, fun i hi => Blk.mod (h.one i hi) hm hT.1, fun i hi => Blk.mod (h.two i hi) hm hT.2⟩
theorem Boxes.snoc {w : World} {B m sb x y : Nat} {bo : Nat → List OpD} {aa : Nat → Option Addr} {cc : Nat → Nat} {b1 b2 : Nat → Nat} (h : Boxes w B m bo aa cc sb b1 b2) (hx : BlkF w x #[.slice (aa m) (bo m).length (cc m)] 64 (0, 0)) (hy : BlkF w y #[.pointer (some ⟨sb, 0, none⟩)] 32 (0, 0)) (lx : B ≤ x) (ly : B ≤ y) : Boxes w B (m + 1) bo aa cc sb (upN b1 m x) (upN b2 m y) := by
  have key : ∀ i, i < m + 1 → i ≠ m → i < m := fun i hi hn => by omega
  refine ⟨fun i hi => ?_, fun i hi => ?_, fun i hi => ?_⟩ <;> by_cases hn : i = m
  · subst hn; rw [upN_eq, upN_eq]; exact ⟨lx, ly⟩
  · rw [upN_ne hn, upN_ne hn]; exact h.le i (key i hi hn)
  · subst hn; rw [upN_eq]; exact hx
  · rw [upN_ne hn]; exact h.one i (key i hi hn)
  · subst hn; rw [upN_eq]; exact hy
  · rw [upN_ne hn]; exact h.two i (key i hi hn)
theorem range_fv {m x y : Nat} {b1 b2 : Nat → Nat} : (List.range (m + 1)).map (fvB (upN b1 m x) (upN b2 m y)) = (List.range m).map (fvB b1 b2) ++ [.func (.func 40) #[] #[.pointer (some ⟨x, 0, none⟩), .pointer (some ⟨y, 0, none⟩)]] := by
  rw [List.range_succ, List.map_append]
  congr 1
  · apply List.map_congr_left
    intro i hi
    have : i ≠ m := by have : i < m := by simpa using hi
                       omega
    unfold fvB
    rw [upN_ne this, upN_ne this]
  · simp [fvB, upN_eq]
theorem PlayM.otherB {B m sn b : Nat} {bo : Nat → List OpD} {sc : Nat → Int} {w w' : World} {R : Rn} (h : PlayM B m bo sn sc w R) (hg : w.grownBy w' (some b)) (hn : ¬ R.fp b) : PlayM B m bo sn sc w' R :=
  h.congr fun k hk => hg.block k (h.mem.lt hk) fun e => hn (by cases e; exact hk)
/-- A script as it lies. -/
structure ScAt (w : World) (sa : Option Addr) (sn scp : Nat) (sc : Nat → Int) : Prop where
  sl : SL sa sn
  nil : sa = none → sn = 0 ∧ scp = 0
  cap : sn ≤ scp
  cell : ∀ j, j < sn → w.cell? ⟨ab sa, ao sa + j * 1, none⟩ = some (.int .i64 (sc j))
theorem ScAt.keep {w w' : World} {sa : Option Addr} {sn scp : Nat} {sc : Nat → Int} (h : ScAt w sa sn scp sc) (hb : Below w.heap.size w w') : ScAt w' sa sn scp sc := ⟨h.sl, h.nil, h.cap, fun j hj => cell_keep (h.cell j hj) hb⟩
theorem ScAt.src {w : World} {sa : Option Addr} {sn scp : Nat} {sc : Nat → Int} (h : ScAt w sa sn scp sc) (ad : Addr) (had : sa = some ad) (j : Nat) (u : Value) (hj : ((List.range sn).map fun j => Value.int .i64 (sc j))[j]? = some u) : w.cell? (ad.add j) = some u := by
  have hl : j < sn := by
    have := (List.getElem?_eq_some_iff.1 hj).1
    simpa using this
  have := h.cell j hl
  have hs := h.sl (by omega)
  rw [had] at hs
  have hs := Option.some.inj hs
  rw [hs, Addr.add_lit]
  rw [had] at this
  rw [Nat.mul_one] at this
  simp [hl] at hj
  rw [← hj]; exact this

theorem buP_0 : Try.prog.built 31 [] = some #[.slice none 0 0, .slice none 0 0, .slice none 0 0, .slice none 0 0, .bool false, .int .i64 0] := by kernel_rfl
theorem buP_1 : Try.prog.built 39 [] = some #[.int .i64 0, .int .i64 0, .int .i64 0, .int .i64 0, .bool false, .bool false] := by kernel_rfl
section
variable [Ctx Try.prog]

theorem mkbody_c (sb n c : Nat) (a : Option Addr) (w0 : World) : C Try.prog 30 #[.pointer (some ⟨sb, 0, none⟩), .slice a n c] w0 fun v w => ∃ x y, v = .func (.func 40) #[] #[.pointer (some ⟨x, 0, none⟩), .pointer (some ⟨y, 0, none⟩)] ∧ BlkF w x #[.slice a n c] 64 (0, 0) ∧ BlkF w y #[.pointer (some ⟨sb, 0, none⟩)] 32 (0, 0) ∧ w0.heap.size ≤ x ∧ w0.heap.size ≤ y ∧ Below w0.heap.size w0 w := by
  refine C.enter (n := 6) Try.func30 rfl rfl ?_
  have hb : Below w0.heap.size w0 w0 := Below.refl _ _
  skip
  refine W.seq ?_
  refine W.region rfl ?_
  refine L.box (cs := #[.pointer (some (⟨sb, 0, none⟩))]) rfl rfl (fun w b2 F2 => ?_)
  have lt2 : w0.heap.size ≤ b2 := by have h9 := F2.here; have h8 := hb.size; omega
  have hb := cl_step hb F2.below
  have hB2 := F2.blk
  refine L.box (cs := #[.slice a n c]) rfl rfl (fun w b3 F3 => ?_)
  have lt3 : w0.heap.size ≤ b3 := by have h9 := F3.here; have h8 := hb.size; omega
  have hb := cl_step hb F3.below
  have hB2 := hB2.keep F3.below
  have hB3 := F3.blk
  refine L.va x_assign ?_
  refine L.nil ?_
  show W _ _ _ _ _ _
  refine W.seq ?_
  refine W.region rfl ?_
  refine L.va (x_makeFuncL (l := [.tmp 3, .tmp 2]) (vs := [.pointer (some ⟨b3, 0, none⟩), .pointer (some ⟨b2, 0, none⟩)]) rfl) ?_
  refine L.va (x_asF rfl) ?_
  refine L.nil ?_
  show W _ _ _ _ _ _
  refine W.ret ?_
  repeat (first | refine T.ret ?_ | refine B.ret ?_ | refine N.ret ?_)
  refine ends.one (.inr rfl) rfl ?_
  exact ⟨_, _, rfl, hB3, hB2, lt3, lt2, hb⟩

theorem runbig_c (ba sa : Option Addr) (m bc sn scp : Nat) (w0 : World) (h : 16 < m) : C Try.prog 19 #[.slice ba m bc, .slice sa sn scp] w0 fun v w => v = .tuple #[.agg #[.slice none 0 0, .slice none 0 0, .slice none 0 0, .slice none 0 0, .bool false, .int .i64 0], .int .i64 90] ∧ Below w0.heap.size w0 w := by
  refine C.enter (n := 83) Try.func19 rfl rfl ?_
  have hb : Below w0.heap.size w0 w0 := Below.refl _ _
  refine W.seq ?_
  refine W.region rfl ?_
  refine L.alloc (cs := #[.slice none 0 0, .slice none 0 0, .slice none 0 0, .slice none 0 0, .bool false, .int .i64 0]) zr31 rfl (fun w b4 F4 => ?_)
  have lt4 : w0.heap.size ≤ b4 := by have h9 := F4.here; have h8 := hb.size; omega
  have hb := cl_step hb F4.below
  have hB4 := F4.blk
  refine L.va (x_asI rfl) ?_
  refine L.nil ?_
  show W _ _ _ _ _ _
  refine W.seq ?_
  refine W.seq ?_
  refine W.region rfl ?_
  refine L.va (x_mvS rfl) ?_
  refine L.va (x_len rfl Try.underlying49 rfl) ?_
  refine L.va (x_gtr rfl rfl) ?_
  refine L.nil ?_
  show W _ _ _ _ _ _
  refine W.condT (congrArg Value.bool (decide_eq_true (by omega))) ?_
  refine W.seq ?_
  refine W.region rfl ?_
  refine L.va (x_build (parts := []) rfl buP_0) ?_
  refine L.put (b := b4) (o := 0) (vs := [.slice none 0 0, .slice none 0 0, .slice none 0 0, .slice none 0 0, .bool false, .int .i64 0]) #[.slice none 0 0, .slice none 0 0, .slice none 0 0, .slice none 0 0, .bool false, .int .i64 0] rfl rfl rfl sz31 rfl rfl hB4 (Nat.le_of_ble_eq_true rfl) rfl (fun w hnew hg hsz => ?_)
  have hm0 := ModT.put0 hB4 hg
  have hb := below_gr hb hb.size hg lt4
  have hB4 := hnew
  clear hm0
  refine L.va (x_asI rfl) ?_
  refine L.nil ?_
  show W _ _ _ _ _ _
  refine W.ret ?_
  repeat (first | refine T.ret ?_ | refine B.ret ?_ | refine N.ret ?_)
  refine ends.cellTmp (cs := #[.slice none 0 0, .slice none 0 0, .slice none 0 0, .slice none 0 0, .bool false, .int .i64 0]) (.inr rfl) rfl rfl Try.underlying31 rfl sz31 hB4 ?_
  exact ⟨rfl, hb⟩

theorem runlong_c (ba sa : Option Addr) (m bc sn scp : Nat) (w0 : World) (hm : m ≤ 16) (h : 262144 < sn) : C Try.prog 19 #[.slice ba m bc, .slice sa sn scp] w0 fun v w => v = .tuple #[.agg #[.slice none 0 0, .slice none 0 0, .slice none 0 0, .slice none 0 0, .bool false, .int .i64 0], .int .i64 1] ∧ Below w0.heap.size w0 w := by
  refine C.enter (n := 83) Try.func19 rfl rfl ?_
  have hb : Below w0.heap.size w0 w0 := Below.refl _ _
  refine W.seq ?_
  refine W.region rfl ?_
  refine L.alloc (cs := #[.slice none 0 0, .slice none 0 0, .slice none 0 0, .slice none 0 0, .bool false, .int .i64 0]) zr31 rfl (fun w b4 F4 => ?_)
  have lt4 : w0.heap.size ≤ b4 := by have h9 := F4.here; have h8 := hb.size; omega
  have hb := cl_step hb F4.below
  have hB4 := F4.blk
  refine L.va (x_asI rfl) ?_
  refine L.nil ?_
  show W _ _ _ _ _ _
  refine W.seq ?_
  refine W.seq ?_
  refine W.region rfl ?_
  refine L.va (x_mvS rfl) ?_
  refine L.va (x_len rfl Try.underlying49 rfl) ?_
  refine L.va (x_gtr rfl rfl) ?_
  refine L.nil ?_
  show W _ _ _ _ _ _
  refine W.condF (congrArg Value.bool (decide_eq_false (by omega))) ?_
  refine W.skip ?_
  show W _ _ _ _ _ _
  refine W.seq ?_
  refine W.seq ?_
  refine W.region rfl ?_
  refine L.va (x_mvS rfl) ?_
  refine L.va (x_len rfl Try.underlying26 rfl) ?_
  refine L.va (x_gtr rfl rfl) ?_
  refine L.nil ?_
  show W _ _ _ _ _ _
  refine W.condT (congrArg Value.bool (decide_eq_true (by omega))) ?_
  refine W.seq ?_
  refine W.region rfl ?_
  refine L.va (x_build (parts := []) rfl buP_0) ?_
  refine L.put (b := b4) (o := 0) (vs := [.slice none 0 0, .slice none 0 0, .slice none 0 0, .slice none 0 0, .bool false, .int .i64 0]) #[.slice none 0 0, .slice none 0 0, .slice none 0 0, .slice none 0 0, .bool false, .int .i64 0] rfl rfl rfl sz31 rfl rfl hB4 (Nat.le_of_ble_eq_true rfl) rfl (fun w hnew hg hsz => ?_)
  have hm0 := ModT.put0 hB4 hg
  have hb := below_gr hb hb.size hg lt4
  have hB4 := hnew
  clear hm0
  refine L.va (x_asI rfl) ?_
  refine L.nil ?_
  show W _ _ _ _ _ _
  refine W.ret ?_
  repeat (first | refine T.ret ?_ | refine B.ret ?_ | refine N.ret ?_)
  refine ends.cellTmp (cs := #[.slice none 0 0, .slice none 0 0, .slice none 0 0, .slice none 0 0, .bool false, .int .i64 0]) (.inr rfl) rfl rfl Try.underlying31 rfl sz31 hB4 ?_
  exact ⟨rfl, hb⟩

end

set_option maxHeartbeats 1000000 in
theorem play_c {lb : Nat} {pl : Nat → Plug} {m bc sn scp : Nat} {bo : Nat → List OpD} {sc : Nat → Int} {ba sa : Option Addr} {aa : Nat → Option Addr} {cc : Nat → Nat} (w0 : World) (hBo : BodsAt w0 ba m bo aa cc) (hSc : ScAt w0 sa sn scp sc) (hm : m ≤ 16) (hsn : sn ≤ 262144) : @C Try.prog (loneCtx lb pl) 14 #[.slice ba m bc, .slice sa sn scp] w0 fun v w => ∃ R sb, v = .tuple #[outV R, .pointer (some ⟨sb, 0, none⟩), .int .i64 0] ∧ PlayM w0.heap.size m bo sn sc w R ∧ ¬ R.fp sb ∧ BlkF w sb #[.int .i64 ((PB m bo sc sn).s 0), .int .i64 ((PB m bo sc sn).s 1), .int .i64 ((PB m bo sc sn).s 2), .int .i64 ((PB m bo sc sn).s 3), .bool false, .bool true] 39 (0, 0) ∧ w0.heap.size ≤ sb ∧ Below w0.heap.size w0 w := by
  letI : Ctx Try.prog := loneCtx lb pl
  refine C.enter (n := 68) Try.func14 rfl rfl ?_
  have hb : Below w0.heap.size w0 w0 := Below.refl _ _
  refine W.seq ?_
  refine W.region rfl ?_
  refine L.alloc (cs := #[.slice none 0 0, .slice none 0 0, .slice none 0 0, .slice none 0 0, .bool false, .int .i64 0]) zr31 rfl (fun w b4 F4 => ?_)
  have lt4 : w0.heap.size ≤ b4 := by have h9 := F4.here; have h8 := hb.size; omega
  have hb := cl_step hb F4.below
  have hB4 := F4.blk
  refine L.va (x_asP rfl) ?_
  refine L.va (x_asI rfl) ?_
  refine L.nil ?_
  show W _ _ _ _ _ _
  refine W.seq ?_
  refine W.region rfl ?_
  refine L.va (x_build (parts := []) rfl buP_1) ?_
  refine L.box (cs := #[.int .i64 0, .int .i64 0, .int .i64 0, .int .i64 0, .bool false, .bool false]) rfl rfl (fun w b14 F14 => ?_)
  have lt14 : w0.heap.size ≤ b14 := by have h9 := F14.here; have h8 := hb.size; omega
  have hb := cl_step hb F14.below
  have hB4 := hB4.keep F14.below
  have hB14 := F14.blk
  refine L.va (x_asP rfl) ?_
  refine L.nil ?_
  show W _ _ _ _ _ _
  refine W.seq ?_
  refine W.region rfl ?_
  refine L.va (x_asS rfl) ?_
  refine L.nil ?_
  show W _ _ _ _ _ _
  refine W.seq ?_
  refine W.seq ?_
  refine W.region rfl ?_
  refine L.va (x_asI rfl) ?_
  refine L.nil ?_
  show W _ _ _ _ _ _
  refine W.block ?_
  refine W.loop (fun k e w => ∃ (i : Nat), ∃ (l : Option Addr), ∃ (lc : Nat), ∃ (b1 : Nat → Nat), ∃ (b2 : Nat → Nat), k = m - i ∧ e 0 = .slice ba m bc ∧ e 1 = .slice sa sn scp ∧ e 4 = .pointer (some ⟨b4, 0, none⟩) ∧ e 5 = .pointer none ∧ e 6 = .int .i64 0 ∧ e 7 = .pointer (some ⟨b14, 0, none⟩) ∧ e 8 = .slice l i lc ∧ e 9 = .int .i64 (i : Int) ∧ i ≤ m ∧ Own w w0.heap.size 52 1 l i lc ((List.range i).map (fvB b1 b2)) ∧ Boxes w w0.heap.size i bo aa cc b14 b1 b2 ∧ Blk w b4 #[.slice none 0 0, .slice none 0 0, .slice none 0 0, .slice none 0 0, .bool false, .int .i64 0] 31 ∧ Blk w b14 #[.int .i64 0, .int .i64 0, .int .i64 0, .int .i64 0, .bool false, .bool false] 39 ∧ Below w0.heap.size w0 w) _ ⟨0, none, 0, (fun _ => 0), (fun _ => 0), rfl, rfl, rfl, rfl, rfl, rfl, rfl, rfl, rfl, Nat.zero_le _, Own.nil _ _ _ _, ⟨fun i hi => absurd hi (Nat.not_lt_zero _), fun i hi => absurd hi (Nat.not_lt_zero _), fun i hi => absurd hi (Nat.not_lt_zero _)⟩, hB4, hB14, hb⟩ ?_
  rintro k e w ⟨i, l, lc, b1, b2, hk, s0, s1, s4, s5, s6, s7, s8, s9, hi, hl, hx, hB4, hB14, hb⟩
  rw [upd_id s0, upd_id s1, upd_id s4, upd_id s5, upd_id s6, upd_id s7, upd_id s8, upd_id s9]
  clear s0 s1 s4 s5 s6 s7 s8 s9
  refine W.seq ?_
  refine W.seq ?_
  refine W.region rfl ?_
  refine L.va (x_mvI rfl) ?_
  refine L.va (x_mvS rfl) ?_
  refine L.va (x_len rfl Try.underlying25 rfl) ?_
  refine L.va (x_lss rfl rfl) ?_
  refine L.nil ?_
  show W _ _ _ _ _ _
  refine W.condP rfl (fun h18 => ?_) (fun h18 => ?_)
  · have hlt : i < m := by omega
    refine W.skip ?_
    show W _ _ _ _ _ _
    refine W.seq ?_
    refine W.block ?_
    refine W.region rfl ?_
    refine L.va (x_mvS rfl) ?_
    refine L.va (x_mvP rfl) ?_
    refine L.va (x_mvS rfl) ?_
    refine L.va (x_mvI rfl) ?_
    refine L.va (x_idx (i := i) rfl rfl Try.underlying25 sz64 hBo.sl hlt) ?_
    refine L.va (x_load (v := .slice (aa i) (bo i).length (cc i)) rfl Try.underlying64 rfl ((hBo.keep hb).row i hlt)) ?_
    refine L.call (x_call2 rfl rfl Try.func30 rfl nm30 rfl) (mkbody_c b14 (bo i).length (cc i) (aa i) w) ?_
    rintro _ w1 ⟨x, y, rfl, hx1, hy1, lx, ly, hbw⟩
    have lx := Nat.le_trans hb.size lx
    have ly := Nat.le_trans hb.size ly
    have hb := cl_step hb hbw
    have hl := hl.keep hbw
    have hx := hx.keep hbw
    have hB4 := hB4.keep hbw
    have hB14 := hB14.keep hbw
    clear hbw
    rename World => w
    have hx1 : Blk w x #[.slice (aa i) (bo i).length (cc i)] 64 := hx1
    have hy1 : Blk w y #[.pointer (some ⟨b14, 0, none⟩)] 32 := hy1
    refine L.build1 (cs := #[.func (.func 40) #[] #[.pointer (some (⟨x, 0, none⟩)), .pointer (some (⟨y, 0, none⟩))]]) rfl rfl Try.underlying49 sz52 rfl ⟨_, zr52⟩ (by decide) (fun w b28 F28 => ?_)
    have lt28 : w0.heap.size ≤ b28 := by have h9 := F28.here; have h8 := hb.size; omega
    have hb := cl_step hb F28.below
    have hl := hl.keep F28.below
    have hx := hx.keep F28.below
    have hB4 := hB4.keep F28.below
    have hB14 := hB14.keep F28.below
    have hx1 := hx1.keep F28.below
    have hy1 := hy1.keep F28.below
    have hB28 := F28.blk
    refine L.appendAny (B := w0.heap.size) (m := 1) rfl rfl Try.underlying49 in52 rfl (by decide) hl (fun h => by cases h) (news := [.func (.func 40) #[] #[.pointer (some (⟨x, 0, none⟩)), .pointer (some (⟨y, 0, none⟩))]]) rfl (fun ad had j u hj => by
      cases had
      rw [Addr.add_lit]
      match j, hj with
      | 0, hj => cases hj; exact hB28.cellAt 0 rfl) (fun u hu => by simp only [List.mem_cons, List.not_mem_nil, or_false] at hu; subst hu; rfl) (by omega) (by omega) hb.size (fun l2 lc2 w2 hO2 hg2 hbel _ => ?_)
    have hmo : ModT w w2 w0.heap.size [52] := ModT.app hl hg2 hbel rfl hO2
    have hb := hb.trans hbel
    have hx := hx.mod hmo rfl
    have hB4 := hB4.mod hmo rfl
    have hB14 := hB14.mod hmo rfl
    have hx1 := hx1.mod hmo rfl
    have hy1 := hy1.mod hmo rfl
    -- LOST hB28
    clear hmo hg2 hbel hl
    rename World => w
    refine L.va (x_asS rfl) ?_
    refine L.nil ?_
    refine B.nrm ?_
    show W _ _ _ _ _ _
    refine W.region rfl ?_
    refine L.va (x_mvI rfl) ?_
    refine L.va (x_inc rfl rfl (by omega)) ?_
    refine L.va (x_asI rfl) ?_
    refine L.nil ?_
    refine T.nrm ?_
    exact ⟨_, by omega, ⟨i + 1, l2, lc2, (upN b1 i x), (upN b2 i y), rfl, rfl, rfl, rfl, rfl, rfl, rfl, rfl, rfl, (by omega), (by rw [range_fv]; exact hO2), (hx.snoc hx1 hy1 lx ly), hB4, hB14, hb⟩⟩
  · obtain rfl : m = i := by omega
    refine W.exit ?_
    repeat (first | refine T.exit ?_ | refine N.exit ?_ | refine B.exitNe (by decide) ?_)
    refine B.exitEq ?_
    show W _ _ _ _ _ _
    refine W.seq ?_
    refine W.region rfl ?_
    refine L.build0 Try.underlying26 sz3 (fun w b30 F30 => ?_)
    have lt30 : w0.heap.size ≤ b30 := by have h9 := F30.here; have h8 := hb.size; omega
    have hb := cl_step hb F30.below
    have hl := hl.keep F30.below
    have hx := hx.keep F30.below
    have hB4 := hB4.keep F30.below
    have hB14 := hB14.keep F30.below
    have hB30 := F30.blk
    have hO : Own w w0.heap.size 3 1 (some ⟨b30, 0, none⟩) 0 0 [] := Own.ofBlk (c := 0) hB30 rfl lt30 (by decide) (by decide)
    clear hB30
    refine L.va (x_mvS rfl) ?_
    refine L.appendAny (B := w0.heap.size) (m := sn) rfl rfl Try.underlying26 in3 rfl (by decide) hO hSc.nil (news := (List.range sn).map fun j => .int .i64 (sc j)) (by simp) (fun ad had j u hj => (hSc.keep hb).src ad had j u hj) (fun u hu => by obtain ⟨j, _, rfl⟩ := List.mem_map.1 hu; rfl) (by omega) (by omega) hb.size (fun g1 gc1 w2 hO2 hg2 hbel _ => ?_)
    have hmo : ModT w w2 w0.heap.size [3] := ModT.app hO hg2 hbel rfl hO2
    have hb := hb.trans hbel
    have hl := hl.mod hmo rfl
    have hx := hx.mod hmo rfl
    have hB4 := hB4.mod hmo rfl
    have hB14 := hB14.mod hmo rfl
    clear hmo hg2 hbel hO
    rename World => w
    have hO := hO2
    clear hO2
    refine L.buildF (vs := [(0, .int .i64 77), (1, .int .i64 78)]) (cs := #[.int .i64 77, .int .i64 78]) rfl Try.underlying26 sz3 zr3 (by decide) (by kernel_rfl) (fun w b33 F33 => ?_)
    have lt33 : w0.heap.size ≤ b33 := by have h9 := F33.here; have h8 := hb.size; omega
    have hb := cl_step hb F33.below
    have hl := hl.keep F33.below
    have hx := hx.keep F33.below
    have hB4 := hB4.keep F33.below
    have hB14 := hB14.keep F33.below
    have hO := hO.keep F33.below
    have hB33 := F33.blk
    refine L.appendAny (B := w0.heap.size) (m := 2) rfl rfl Try.underlying26 in3 rfl (by decide) hO (fun h => by cases h) (news := [.int .i64 77, .int .i64 78]) rfl (fun ad had j u hj => by
        cases had
        rw [Addr.add_lit]
        match j, hj with
        | 0, hj => cases hj; exact hB33.cellAt 0 rfl
        | 1, hj => cases hj; exact hB33.cellAt 1 rfl) (fun u hu => by simp only [List.mem_cons, List.not_mem_nil, or_false] at hu; rcases hu with rfl | rfl <;> rfl) (by omega) (by omega) hb.size (fun g gc w2 hO2 hg2 hbel _ => ?_)
    have hmo : ModT w w2 w0.heap.size [3] := ModT.app hO hg2 hbel rfl hO2
    have hb := hb.trans hbel
    have hl := hl.mod hmo rfl
    have hx := hx.mod hmo rfl
    have hB4 := hB4.mod hmo rfl
    have hB14 := hB14.mod hmo rfl
    -- LOST hB33
    clear hmo hg2 hbel hO
    rename World => w
    have hO := hO2
    clear hO2
    have hgc : sn ≤ gc := by
        obtain ⟨_, _, _, h, _⟩ := hO.row (hO.some_of (by omega))
        omega
    rw [List.nil_append] at hO
    refine L.va (x_asS rfl) ?_
    refine L.nil ?_
    show W _ _ _ _ _ _
    refine W.seq ?_
    refine W.region rfl ?_
    refine L.va (x_mvS rfl) ?_
    refine L.va (x_mvS rfl) ?_
    refine L.va (x_mvS rfl) ?_
    refine L.va (x_len rfl Try.underlying26 rfl) ?_
    refine L.va (x_sliceTo (k := sn) rfl rfl Try.underlying26 sz3 hgc) ?_
    have hn4 : b4 ≠ b14 := BlkF.ne (blkF_of hB4) (blkF_of hB14) (by decide)
    refine L.call (x_call2 rfl rfl Try.func19 rfl nm19 rfl) (play_run hBo hb hm hsn hl hO (by omega) hB14 lt14 hx) ?_
    rintro _ w1 ⟨R, rfl, hP, hns, hS, hgr⟩
    have hO := hO.otherB hgr (Own.neBlk hO (blkF_of hB14) (by decide))
    have hf4 : ¬ R.fp b4 := fun z => by have := hP.fp _ z; have := hB4.lt; omega
    have hB4 := hB4.other hgr hn4
    have hP := hP.down hb.size
    have hb := below_gr hb hb.size hgr lt14
    have hB14 : Blk w1 b14 #[.int .i64 ((PB m bo sc sn).s 0), .int .i64 ((PB m bo sc sn).s 1), .int .i64 ((PB m bo sc sn).s 2), .int .i64 ((PB m bo sc sn).s 3), .bool false, .bool false] 39 := hS
    clear hS hgr hl hx
    rename World => w
    refine L.va (x_mvT rfl) ?_
    refine L.va (x_extract rfl rfl) ?_
    refine L.va (x_extract rfl rfl) ?_
    refine L.alloc (cs := #[.slice none 0 0, .slice none 0 0, .slice none 0 0, .slice none 0 0, .bool false, .int .i64 0]) zr31 rfl (fun w b11 F11 => ?_)
    have lt11 : w0.heap.size ≤ b11 := by have h9 := F11.here; have h8 := hb.size; omega
    have ne11hB4 := F11.ne hB4
    have hn11 : ¬ R.fp b11 := fun z => by have := hP.mem.lt z; have := F11.here; omega
    have hb := cl_step hb F11.below
    have hB4 := hB4.keep F11.below
    have hB14 := hB14.keep F11.below
    have hO := hO.keep F11.below
    have hP := hP.keep F11.below
    have hB11 := F11.blk
    refine L.put (b := b11) (o := 0) (vs := [.slice (R.ea) (R.evs.length) (R.ec), .slice (R.na) (R.nts.length) (R.nc), .slice (some ⟨R.eb, 0, none⟩) (R.m) (R.m), .slice (some ⟨R.wb, 0, none⟩) (R.m) (R.m), .bool (R.stuck), .int .i64 (R.used : Int)]) #[.slice (R.ea) (R.evs.length) (R.ec), .slice (R.na) (R.nts.length) (R.nc), .slice (some ⟨R.eb, 0, none⟩) (R.m) (R.m), .slice (some ⟨R.wb, 0, none⟩) (R.m) (R.m), .bool (R.stuck), .int .i64 (R.used : Int)] rfl rfl rfl sz31 rfl rfl hB11 (Nat.le_of_ble_eq_true rfl) rfl (fun w hnew hg hsz => ?_)
    have hm0 := ModT.put0 hB11 hg
    have hb := below_gr hb hb.size hg lt11
    have hB4 := hB4.other hg ne11hB4
    have hB14 := hB14.mod hm0 rfl
    have hO := hO.mod hm0 rfl
    have hP := hP.otherB hg hn11
    have hB11 := hnew
    clear hm0
    refine L.va (x_asI rfl) ?_
    refine L.nil ?_
    show W _ _ _ _ _ _
    refine W.seq ?_
    refine W.region rfl ?_
    refine L.va (x_mvP rfl) ?_
    refine L.va (x_nilCheck rfl) ?_
    refine L.va (x_field rfl Try.underlying39 rfl sz4 (by decide)) ?_
    refine L.put (b := b14) (o := 5) (vs := [.bool true]) #[.int .i64 ((PB m bo sc sn).s 0), .int .i64 ((PB m bo sc sn).s 1), .int .i64 ((PB m bo sc sn).s 2), .int .i64 ((PB m bo sc sn).s 3), .bool false, .bool true] rfl rfl rfl sz4 rfl rfl hB14 (Nat.le_of_ble_eq_true rfl) rfl (fun w hnew hg hsz => ?_)
    have hm0 := ModT.put0 hB14 hg
    have hb := below_gr hb hb.size hg lt14
    have hB4 := hB4.mod hm0 rfl
    have hO := hO.mod hm0 rfl
    have hP := hP.otherB hg hns
    have hB11 := hB11.mod hm0 rfl
    have hB14 := hnew
    clear hm0
    refine L.nil ?_
    show W _ _ _ _ _ _
    refine W.seq ?_
    refine W.seq ?_
    refine W.region rfl ?_
    refine L.va (x_mvS rfl) ?_
    refine L.va (x_mvS rfl) ?_
    refine L.va (x_len rfl Try.underlying26 rfl) ?_
    refine L.va (x_idx (i := sn) rfl rfl Try.underlying26 sz3 hO.sl (by omega)) ?_
    refine L.va (x_load (v := .int .i64 77) rfl Try.underlying3 rfl (by rw [hO.off, Nat.zero_add, Nat.mul_one]; exact hO.cell (by rw [List.getElem?_append_right (by simp)]; simp))) ?_
    refine L.va (d_bool (r := false) (by decide) (x_neq (m := 77) (k := 77) rfl rfl)) ?_
    refine L.va (x_mvB rfl) ?_
    refine L.on rfl ?_
    refine L.va (x_mvS rfl) ?_
    refine L.on rfl ?_
    refine L.va (x_mvS rfl) ?_
    refine L.on rfl ?_
    refine L.va (x_len rfl Try.underlying26 rfl) ?_
    refine L.on rfl ?_
    refine L.va (x_inc rfl rfl (by omega)) ?_
    refine L.on rfl ?_
    refine L.va (x_idx (i := sn + 1) rfl rfl Try.underlying26 sz3 hO.sl (by omega)) ?_
    refine L.on rfl ?_
    refine L.va (x_load (v := .int .i64 78) rfl Try.underlying3 rfl (by rw [hO.off, Nat.zero_add, Nat.mul_one]; exact hO.cell (by rw [List.getElem?_append_right (by simp)]; simp))) ?_
    refine L.on rfl ?_
    refine L.va (d_bool (r := false) (by decide) (x_neq (m := 78) (k := 78) rfl rfl)) ?_
    refine L.va (x_pickF rfl) ?_
    refine L.nil ?_
    show W _ _ _ _ _ _
    refine W.condF rfl ?_
    refine W.skip ?_
    show W _ _ _ _ _ _
    refine W.seq ?_
    refine W.region rfl ?_
    refine L.va (x_loadAgg (cs := [.slice (R.ea) (R.evs.length) (R.ec), .slice (R.na) (R.nts.length) (R.nc), .slice (some ⟨R.eb, 0, none⟩) (R.m) (R.m), .slice (some ⟨R.wb, 0, none⟩) (R.m) (R.m), .bool (R.stuck), .int .i64 (R.used : Int)]) rfl Try.underlying31 rfl sz31 rfl (hB11.aggAt rfl)) ?_
    refine L.va (x_mvP rfl) ?_
    refine L.va (x_mvI rfl) ?_
    refine L.put (b := b4) (o := 0) (vs := [.slice (R.ea) (R.evs.length) (R.ec), .slice (R.na) (R.nts.length) (R.nc), .slice (some ⟨R.eb, 0, none⟩) (R.m) (R.m), .slice (some ⟨R.wb, 0, none⟩) (R.m) (R.m), .bool (R.stuck), .int .i64 (R.used : Int)]) #[.slice (R.ea) (R.evs.length) (R.ec), .slice (R.na) (R.nts.length) (R.nc), .slice (some ⟨R.eb, 0, none⟩) (R.m) (R.m), .slice (some ⟨R.wb, 0, none⟩) (R.m) (R.m), .bool (R.stuck), .int .i64 (R.used : Int)] rfl rfl rfl sz31 rfl rfl hB4 (Nat.le_of_ble_eq_true rfl) rfl (fun w hnew hg hsz => ?_)
    have hm0 := ModT.put0 hB4 hg
    have hb := below_gr hb hb.size hg lt4
    have hB14 := hB14.mod hm0 rfl
    have hO := hO.mod hm0 rfl
    have hP := hP.otherB hg hf4
    have hB11 := hB11.other hg (Ne.symm ne11hB4)
    have hB4 := hnew
    clear hm0
    refine L.va (x_asP rfl) ?_
    refine L.va (x_asI rfl) ?_
    refine L.nil ?_
    show W _ _ _ _ _ _
    refine W.ret ?_
    repeat (first | refine T.ret ?_ | refine B.ret ?_ | refine N.ret ?_)
    refine ends.cellTmp2 (cs := #[.slice (R.ea) (R.evs.length) (R.ec), .slice (R.na) (R.nts.length) (R.nc), .slice (some ⟨R.eb, 0, none⟩) (R.m) (R.m), .slice (some ⟨R.wb, 0, none⟩) (R.m) (R.m), .bool (R.stuck), .int .i64 (R.used : Int)]) (.inr rfl) rfl rfl Try.underlying31 rfl sz31 hB4 ?_
    exact ⟨R, b14, rfl, hP, hns, hB14, lt14, hb⟩

set_option maxHeartbeats 1000000 in
theorem play_big_c {lb : Nat} {pl : Nat → Plug} {m bc sn scp : Nat} {bo : Nat → List OpD} {sc : Nat → Int} {ba sa : Option Addr} {aa : Nat → Option Addr} {cc : Nat → Nat} (w0 : World) (hBo : BodsAt w0 ba m bo aa cc) (hSc : ScAt w0 sa sn scp sc) (hmb : m ≤ 1000000000000) (hsn : sn ≤ 1000000000000) (h : 16 < m) : @C Try.prog (loneCtx lb pl) 14 #[.slice ba m bc, .slice sa sn scp] w0 fun v w => ∃ sb, v = .tuple #[.agg #[.slice none 0 0, .slice none 0 0, .slice none 0 0, .slice none 0 0, .bool false, .int .i64 0], .pointer (some ⟨sb, 0, none⟩), .int .i64 90] ∧ BlkF w sb #[.int .i64 0, .int .i64 0, .int .i64 0, .int .i64 0, .bool false, .bool true] 39 (0, 0) ∧ w0.heap.size ≤ sb ∧ Below w0.heap.size w0 w := by
  letI : Ctx Try.prog := loneCtx lb pl
  refine C.enter (n := 68) Try.func14 rfl rfl ?_
  have hb : Below w0.heap.size w0 w0 := Below.refl _ _
  refine W.seq ?_
  refine W.region rfl ?_
  refine L.alloc (cs := #[.slice none 0 0, .slice none 0 0, .slice none 0 0, .slice none 0 0, .bool false, .int .i64 0]) zr31 rfl (fun w b4 F4 => ?_)
  have lt4 : w0.heap.size ≤ b4 := by have h9 := F4.here; have h8 := hb.size; omega
  have hb := cl_step hb F4.below
  have hB4 := F4.blk
  refine L.va (x_asP rfl) ?_
  refine L.va (x_asI rfl) ?_
  refine L.nil ?_
  show W _ _ _ _ _ _
  refine W.seq ?_
  refine W.region rfl ?_
  refine L.va (x_build (parts := []) rfl buP_1) ?_
  refine L.box (cs := #[.int .i64 0, .int .i64 0, .int .i64 0, .int .i64 0, .bool false, .bool false]) rfl rfl (fun w b14 F14 => ?_)
  have lt14 : w0.heap.size ≤ b14 := by have h9 := F14.here; have h8 := hb.size; omega
  have hb := cl_step hb F14.below
  have hB4 := hB4.keep F14.below
  have hB14 := F14.blk
  refine L.va (x_asP rfl) ?_
  refine L.nil ?_
  show W _ _ _ _ _ _
  refine W.seq ?_
  refine W.region rfl ?_
  refine L.va (x_asS rfl) ?_
  refine L.nil ?_
  show W _ _ _ _ _ _
  refine W.seq ?_
  refine W.seq ?_
  refine W.region rfl ?_
  refine L.va (x_asI rfl) ?_
  refine L.nil ?_
  show W _ _ _ _ _ _
  refine W.block ?_
  refine W.loop (fun k e w => ∃ (i : Nat), ∃ (l : Option Addr), ∃ (lc : Nat), ∃ (b1 : Nat → Nat), ∃ (b2 : Nat → Nat), k = m - i ∧ e 0 = .slice ba m bc ∧ e 1 = .slice sa sn scp ∧ e 4 = .pointer (some ⟨b4, 0, none⟩) ∧ e 5 = .pointer none ∧ e 6 = .int .i64 0 ∧ e 7 = .pointer (some ⟨b14, 0, none⟩) ∧ e 8 = .slice l i lc ∧ e 9 = .int .i64 (i : Int) ∧ i ≤ m ∧ Own w w0.heap.size 52 1 l i lc ((List.range i).map (fvB b1 b2)) ∧ Boxes w w0.heap.size i bo aa cc b14 b1 b2 ∧ Blk w b4 #[.slice none 0 0, .slice none 0 0, .slice none 0 0, .slice none 0 0, .bool false, .int .i64 0] 31 ∧ Blk w b14 #[.int .i64 0, .int .i64 0, .int .i64 0, .int .i64 0, .bool false, .bool false] 39 ∧ Below w0.heap.size w0 w) _ ⟨0, none, 0, (fun _ => 0), (fun _ => 0), rfl, rfl, rfl, rfl, rfl, rfl, rfl, rfl, rfl, Nat.zero_le _, Own.nil _ _ _ _, ⟨fun i hi => absurd hi (Nat.not_lt_zero _), fun i hi => absurd hi (Nat.not_lt_zero _), fun i hi => absurd hi (Nat.not_lt_zero _)⟩, hB4, hB14, hb⟩ ?_
  rintro k e w ⟨i, l, lc, b1, b2, hk, s0, s1, s4, s5, s6, s7, s8, s9, hi, hl, hx, hB4, hB14, hb⟩
  rw [upd_id s0, upd_id s1, upd_id s4, upd_id s5, upd_id s6, upd_id s7, upd_id s8, upd_id s9]
  clear s0 s1 s4 s5 s6 s7 s8 s9
  refine W.seq ?_
  refine W.seq ?_
  refine W.region rfl ?_
  refine L.va (x_mvI rfl) ?_
  refine L.va (x_mvS rfl) ?_
  refine L.va (x_len rfl Try.underlying25 rfl) ?_
  refine L.va (x_lss rfl rfl) ?_
  refine L.nil ?_
  show W _ _ _ _ _ _
  refine W.condP rfl (fun h18 => ?_) (fun h18 => ?_)
  · have hlt : i < m := by omega
    refine W.skip ?_
    show W _ _ _ _ _ _
    refine W.seq ?_
    refine W.block ?_
    refine W.region rfl ?_
    refine L.va (x_mvS rfl) ?_
    refine L.va (x_mvP rfl) ?_
    refine L.va (x_mvS rfl) ?_
    refine L.va (x_mvI rfl) ?_
    refine L.va (x_idx (i := i) rfl rfl Try.underlying25 sz64 hBo.sl hlt) ?_
    refine L.va (x_load (v := .slice (aa i) (bo i).length (cc i)) rfl Try.underlying64 rfl ((hBo.keep hb).row i hlt)) ?_
    refine L.call (x_call2 rfl rfl Try.func30 rfl nm30 rfl) (mkbody_c b14 (bo i).length (cc i) (aa i) w) ?_
    rintro _ w1 ⟨x, y, rfl, hx1, hy1, lx, ly, hbw⟩
    have lx := Nat.le_trans hb.size lx
    have ly := Nat.le_trans hb.size ly
    have hb := cl_step hb hbw
    have hl := hl.keep hbw
    have hx := hx.keep hbw
    have hB4 := hB4.keep hbw
    have hB14 := hB14.keep hbw
    clear hbw
    rename World => w
    have hx1 : Blk w x #[.slice (aa i) (bo i).length (cc i)] 64 := hx1
    have hy1 : Blk w y #[.pointer (some ⟨b14, 0, none⟩)] 32 := hy1
    refine L.build1 (cs := #[.func (.func 40) #[] #[.pointer (some (⟨x, 0, none⟩)), .pointer (some (⟨y, 0, none⟩))]]) rfl rfl Try.underlying49 sz52 rfl ⟨_, zr52⟩ (by decide) (fun w b28 F28 => ?_)
    have lt28 : w0.heap.size ≤ b28 := by have h9 := F28.here; have h8 := hb.size; omega
    have hb := cl_step hb F28.below
    have hl := hl.keep F28.below
    have hx := hx.keep F28.below
    have hB4 := hB4.keep F28.below
    have hB14 := hB14.keep F28.below
    have hx1 := hx1.keep F28.below
    have hy1 := hy1.keep F28.below
    have hB28 := F28.blk
    refine L.appendAny (B := w0.heap.size) (m := 1) rfl rfl Try.underlying49 in52 rfl (by decide) hl (fun h => by cases h) (news := [.func (.func 40) #[] #[.pointer (some (⟨x, 0, none⟩)), .pointer (some (⟨y, 0, none⟩))]]) rfl (fun ad had j u hj => by
      cases had
      rw [Addr.add_lit]
      match j, hj with
      | 0, hj => cases hj; exact hB28.cellAt 0 rfl) (fun u hu => by simp only [List.mem_cons, List.not_mem_nil, or_false] at hu; subst hu; rfl) (by omega) (by omega) hb.size (fun l2 lc2 w2 hO2 hg2 hbel _ => ?_)
    have hmo : ModT w w2 w0.heap.size [52] := ModT.app hl hg2 hbel rfl hO2
    have hb := hb.trans hbel
    have hx := hx.mod hmo rfl
    have hB4 := hB4.mod hmo rfl
    have hB14 := hB14.mod hmo rfl
    have hx1 := hx1.mod hmo rfl
    have hy1 := hy1.mod hmo rfl
    -- LOST hB28
    clear hmo hg2 hbel hl
    rename World => w
    refine L.va (x_asS rfl) ?_
    refine L.nil ?_
    refine B.nrm ?_
    show W _ _ _ _ _ _
    refine W.region rfl ?_
    refine L.va (x_mvI rfl) ?_
    refine L.va (x_inc rfl rfl (by omega)) ?_
    refine L.va (x_asI rfl) ?_
    refine L.nil ?_
    refine T.nrm ?_
    exact ⟨_, by omega, ⟨i + 1, l2, lc2, (upN b1 i x), (upN b2 i y), rfl, rfl, rfl, rfl, rfl, rfl, rfl, rfl, rfl, (by omega), (by rw [range_fv]; exact hO2), (hx.snoc hx1 hy1 lx ly), hB4, hB14, hb⟩⟩
  · obtain rfl : m = i := by omega
    refine W.exit ?_
    repeat (first | refine T.exit ?_ | refine N.exit ?_ | refine B.exitNe (by decide) ?_)
    refine B.exitEq ?_
    show W _ _ _ _ _ _
    refine W.seq ?_
    refine W.region rfl ?_
    refine L.build0 Try.underlying26 sz3 (fun w b30 F30 => ?_)
    have lt30 : w0.heap.size ≤ b30 := by have h9 := F30.here; have h8 := hb.size; omega
    have hb := cl_step hb F30.below
    have hl := hl.keep F30.below
    have hx := hx.keep F30.below
    have hB4 := hB4.keep F30.below
    have hB14 := hB14.keep F30.below
    have hB30 := F30.blk
    have hO : Own w w0.heap.size 3 1 (some ⟨b30, 0, none⟩) 0 0 [] := Own.ofBlk (c := 0) hB30 rfl lt30 (by decide) (by decide)
    clear hB30
    refine L.va (x_mvS rfl) ?_
    refine L.appendAny (B := w0.heap.size) (m := sn) rfl rfl Try.underlying26 in3 rfl (by decide) hO hSc.nil (news := (List.range sn).map fun j => .int .i64 (sc j)) (by simp) (fun ad had j u hj => (hSc.keep hb).src ad had j u hj) (fun u hu => by obtain ⟨j, _, rfl⟩ := List.mem_map.1 hu; rfl) (by omega) (by omega) hb.size (fun g1 gc1 w2 hO2 hg2 hbel _ => ?_)
    have hmo : ModT w w2 w0.heap.size [3] := ModT.app hO hg2 hbel rfl hO2
    have hb := hb.trans hbel
    have hl := hl.mod hmo rfl
    have hx := hx.mod hmo rfl
    have hB4 := hB4.mod hmo rfl
    have hB14 := hB14.mod hmo rfl
    clear hmo hg2 hbel hO
    rename World => w
    have hO := hO2
    clear hO2
    refine L.buildF (vs := [(0, .int .i64 77), (1, .int .i64 78)]) (cs := #[.int .i64 77, .int .i64 78]) rfl Try.underlying26 sz3 zr3 (by decide) (by kernel_rfl) (fun w b33 F33 => ?_)
    have lt33 : w0.heap.size ≤ b33 := by have h9 := F33.here; have h8 := hb.size; omega
    have hb := cl_step hb F33.below
    have hl := hl.keep F33.below
    have hx := hx.keep F33.below
    have hB4 := hB4.keep F33.below
    have hB14 := hB14.keep F33.below
    have hO := hO.keep F33.below
    have hB33 := F33.blk
    refine L.appendAny (B := w0.heap.size) (m := 2) rfl rfl Try.underlying26 in3 rfl (by decide) hO (fun h => by cases h) (news := [.int .i64 77, .int .i64 78]) rfl (fun ad had j u hj => by
        cases had
        rw [Addr.add_lit]
        match j, hj with
        | 0, hj => cases hj; exact hB33.cellAt 0 rfl
        | 1, hj => cases hj; exact hB33.cellAt 1 rfl) (fun u hu => by simp only [List.mem_cons, List.not_mem_nil, or_false] at hu; rcases hu with rfl | rfl <;> rfl) (by omega) (by omega) hb.size (fun g gc w2 hO2 hg2 hbel _ => ?_)
    have hmo : ModT w w2 w0.heap.size [3] := ModT.app hO hg2 hbel rfl hO2
    have hb := hb.trans hbel
    have hl := hl.mod hmo rfl
    have hx := hx.mod hmo rfl
    have hB4 := hB4.mod hmo rfl
    have hB14 := hB14.mod hmo rfl
    -- LOST hB33
    clear hmo hg2 hbel hO
    rename World => w
    have hO := hO2
    clear hO2
    have hgc : sn ≤ gc := by
        obtain ⟨_, _, _, h, _⟩ := hO.row (hO.some_of (by omega))
        omega
    rw [List.nil_append] at hO
    refine L.va (x_asS rfl) ?_
    refine L.nil ?_
    show W _ _ _ _ _ _
    refine W.seq ?_
    refine W.region rfl ?_
    refine L.va (x_mvS rfl) ?_
    refine L.va (x_mvS rfl) ?_
    refine L.va (x_mvS rfl) ?_
    refine L.va (x_len rfl Try.underlying26 rfl) ?_
    refine L.va (x_sliceTo (k := sn) rfl rfl Try.underlying26 sz3 hgc) ?_
    refine L.call (x_call2 rfl rfl Try.func19 rfl nm19 rfl) (runbig_c l g m lc sn gc w h) ?_
    rintro _ w1 ⟨rfl, hbw⟩
    have hb := cl_step hb hbw
    have hl := hl.keep hbw
    have hx := hx.keep hbw
    have hB4 := hB4.keep hbw
    have hB14 := hB14.keep hbw
    have hO := hO.keep hbw
    clear hbw
    rename World => w
    refine L.va (x_mvT rfl) ?_
    refine L.va (x_extract rfl rfl) ?_
    refine L.va (x_extract rfl rfl) ?_
    refine L.alloc (cs := #[.slice none 0 0, .slice none 0 0, .slice none 0 0, .slice none 0 0, .bool false, .int .i64 0]) zr31 rfl (fun w b11 F11 => ?_)
    have lt11 : w0.heap.size ≤ b11 := by have h9 := F11.here; have h8 := hb.size; omega
    have ne11hB4 := F11.ne hB4
    have hb := cl_step hb F11.below
    have hl := hl.keep F11.below
    have hx := hx.keep F11.below
    have hB4 := hB4.keep F11.below
    have hB14 := hB14.keep F11.below
    have hO := hO.keep F11.below
    have hB11 := F11.blk
    refine L.put (b := b11) (o := 0) (vs := [.slice none 0 0, .slice none 0 0, .slice none 0 0, .slice none 0 0, .bool false, .int .i64 0]) #[.slice none 0 0, .slice none 0 0, .slice none 0 0, .slice none 0 0, .bool false, .int .i64 0] rfl rfl rfl sz31 rfl rfl hB11 (Nat.le_of_ble_eq_true rfl) rfl (fun w hnew hg hsz => ?_)
    have hm0 := ModT.put0 hB11 hg
    have hb := below_gr hb hb.size hg lt11
    have hl := hl.mod hm0 rfl
    have hx := hx.mod hm0 rfl
    have hB4 := hB4.other hg ne11hB4
    have hB14 := hB14.mod hm0 rfl
    have hO := hO.mod hm0 rfl
    have hB11 := hnew
    clear hm0
    refine L.va (x_asI rfl) ?_
    refine L.nil ?_
    show W _ _ _ _ _ _
    refine W.seq ?_
    refine W.region rfl ?_
    refine L.va (x_mvP rfl) ?_
    refine L.va (x_nilCheck rfl) ?_
    refine L.va (x_field rfl Try.underlying39 rfl sz4 (by decide)) ?_
    refine L.put (b := b14) (o := 5) (vs := [.bool true]) #[.int .i64 0, .int .i64 0, .int .i64 0, .int .i64 0, .bool false, .bool true] rfl rfl rfl sz4 rfl rfl hB14 (Nat.le_of_ble_eq_true rfl) rfl (fun w hnew hg hsz => ?_)
    have hm0 := ModT.put0 hB14 hg
    have hb := below_gr hb hb.size hg lt14
    have hl := hl.mod hm0 rfl
    have hx := hx.mod hm0 rfl
    have hB4 := hB4.mod hm0 rfl
    have hO := hO.mod hm0 rfl
    have hB11 := hB11.mod hm0 rfl
    have hB14 := hnew
    clear hm0
    refine L.nil ?_
    show W _ _ _ _ _ _
    refine W.seq ?_
    refine W.seq ?_
    refine W.region rfl ?_
    refine L.va (x_mvS rfl) ?_
    refine L.va (x_mvS rfl) ?_
    refine L.va (x_len rfl Try.underlying26 rfl) ?_
    refine L.va (x_idx (i := sn) rfl rfl Try.underlying26 sz3 hO.sl (by omega)) ?_
    refine L.va (x_load (v := .int .i64 77) rfl Try.underlying3 rfl (by rw [hO.off, Nat.zero_add, Nat.mul_one]; exact hO.cell (by rw [List.getElem?_append_right (by simp)]; simp))) ?_
    refine L.va (d_bool (r := false) (by decide) (x_neq (m := 77) (k := 77) rfl rfl)) ?_
    refine L.va (x_mvB rfl) ?_
    refine L.on rfl ?_
    refine L.va (x_mvS rfl) ?_
    refine L.on rfl ?_
    refine L.va (x_mvS rfl) ?_
    refine L.on rfl ?_
    refine L.va (x_len rfl Try.underlying26 rfl) ?_
    refine L.on rfl ?_
    refine L.va (x_inc rfl rfl (by omega)) ?_
    refine L.on rfl ?_
    refine L.va (x_idx (i := sn + 1) rfl rfl Try.underlying26 sz3 hO.sl (by omega)) ?_
    refine L.on rfl ?_
    refine L.va (x_load (v := .int .i64 78) rfl Try.underlying3 rfl (by rw [hO.off, Nat.zero_add, Nat.mul_one]; exact hO.cell (by rw [List.getElem?_append_right (by simp)]; simp))) ?_
    refine L.on rfl ?_
    refine L.va (d_bool (r := false) (by decide) (x_neq (m := 78) (k := 78) rfl rfl)) ?_
    refine L.va (x_pickF rfl) ?_
    refine L.nil ?_
    show W _ _ _ _ _ _
    refine W.condF rfl ?_
    refine W.skip ?_
    show W _ _ _ _ _ _
    refine W.seq ?_
    refine W.region rfl ?_
    refine L.va (x_loadAgg (cs := [.slice none 0 0, .slice none 0 0, .slice none 0 0, .slice none 0 0, .bool false, .int .i64 0]) rfl Try.underlying31 rfl sz31 rfl (hB11.aggAt rfl)) ?_
    refine L.va (x_mvP rfl) ?_
    refine L.va (x_mvI rfl) ?_
    refine L.put (b := b4) (o := 0) (vs := [.slice none 0 0, .slice none 0 0, .slice none 0 0, .slice none 0 0, .bool false, .int .i64 0]) #[.slice none 0 0, .slice none 0 0, .slice none 0 0, .slice none 0 0, .bool false, .int .i64 0] rfl rfl rfl sz31 rfl rfl hB4 (Nat.le_of_ble_eq_true rfl) rfl (fun w hnew hg hsz => ?_)
    have hm0 := ModT.put0 hB4 hg
    have hb := below_gr hb hb.size hg lt4
    have hl := hl.mod hm0 rfl
    have hx := hx.mod hm0 rfl
    have hB14 := hB14.mod hm0 rfl
    have hO := hO.mod hm0 rfl
    have hB11 := hB11.other hg (Ne.symm ne11hB4)
    have hB4 := hnew
    clear hm0
    refine L.va (x_asP rfl) ?_
    refine L.va (x_asI rfl) ?_
    refine L.nil ?_
    show W _ _ _ _ _ _
    refine W.ret ?_
    repeat (first | refine T.ret ?_ | refine B.ret ?_ | refine N.ret ?_)
    refine ends.cellTmp2 (cs := #[.slice none 0 0, .slice none 0 0, .slice none 0 0, .slice none 0 0, .bool false, .int .i64 0]) (.inr rfl) rfl rfl Try.underlying31 rfl sz31 hB4 ?_
    exact ⟨b14, rfl, hB14, lt14, hb⟩

set_option maxHeartbeats 1000000 in
theorem play_long_c {lb : Nat} {pl : Nat → Plug} {m bc sn scp : Nat} {bo : Nat → List OpD} {sc : Nat → Int} {ba sa : Option Addr} {aa : Nat → Option Addr} {cc : Nat → Nat} (w0 : World) (hBo : BodsAt w0 ba m bo aa cc) (hSc : ScAt w0 sa sn scp sc) (hm : m ≤ 16) (hsn : sn ≤ 1000000000000) (h : 262144 < sn) : @C Try.prog (loneCtx lb pl) 14 #[.slice ba m bc, .slice sa sn scp] w0 fun v w => ∃ sb, v = .tuple #[.agg #[.slice none 0 0, .slice none 0 0, .slice none 0 0, .slice none 0 0, .bool false, .int .i64 0], .pointer (some ⟨sb, 0, none⟩), .int .i64 1] ∧ BlkF w sb #[.int .i64 0, .int .i64 0, .int .i64 0, .int .i64 0, .bool false, .bool true] 39 (0, 0) ∧ w0.heap.size ≤ sb ∧ Below w0.heap.size w0 w := by
  letI : Ctx Try.prog := loneCtx lb pl
  refine C.enter (n := 68) Try.func14 rfl rfl ?_
  have hb : Below w0.heap.size w0 w0 := Below.refl _ _
  refine W.seq ?_
  refine W.region rfl ?_
  refine L.alloc (cs := #[.slice none 0 0, .slice none 0 0, .slice none 0 0, .slice none 0 0, .bool false, .int .i64 0]) zr31 rfl (fun w b4 F4 => ?_)
  have lt4 : w0.heap.size ≤ b4 := by have h9 := F4.here; have h8 := hb.size; omega
  have hb := cl_step hb F4.below
  have hB4 := F4.blk
  refine L.va (x_asP rfl) ?_
  refine L.va (x_asI rfl) ?_
  refine L.nil ?_
  show W _ _ _ _ _ _
  refine W.seq ?_
  refine W.region rfl ?_
  refine L.va (x_build (parts := []) rfl buP_1) ?_
  refine L.box (cs := #[.int .i64 0, .int .i64 0, .int .i64 0, .int .i64 0, .bool false, .bool false]) rfl rfl (fun w b14 F14 => ?_)
  have lt14 : w0.heap.size ≤ b14 := by have h9 := F14.here; have h8 := hb.size; omega
  have hb := cl_step hb F14.below
  have hB4 := hB4.keep F14.below
  have hB14 := F14.blk
  refine L.va (x_asP rfl) ?_
  refine L.nil ?_
  show W _ _ _ _ _ _
  refine W.seq ?_
  refine W.region rfl ?_
  refine L.va (x_asS rfl) ?_
  refine L.nil ?_
  show W _ _ _ _ _ _
  refine W.seq ?_
  refine W.seq ?_
  refine W.region rfl ?_
  refine L.va (x_asI rfl) ?_
  refine L.nil ?_
  show W _ _ _ _ _ _
  refine W.block ?_
  refine W.loop (fun k e w => ∃ (i : Nat), ∃ (l : Option Addr), ∃ (lc : Nat), ∃ (b1 : Nat → Nat), ∃ (b2 : Nat → Nat), k = m - i ∧ e 0 = .slice ba m bc ∧ e 1 = .slice sa sn scp ∧ e 4 = .pointer (some ⟨b4, 0, none⟩) ∧ e 5 = .pointer none ∧ e 6 = .int .i64 0 ∧ e 7 = .pointer (some ⟨b14, 0, none⟩) ∧ e 8 = .slice l i lc ∧ e 9 = .int .i64 (i : Int) ∧ i ≤ m ∧ Own w w0.heap.size 52 1 l i lc ((List.range i).map (fvB b1 b2)) ∧ Boxes w w0.heap.size i bo aa cc b14 b1 b2 ∧ Blk w b4 #[.slice none 0 0, .slice none 0 0, .slice none 0 0, .slice none 0 0, .bool false, .int .i64 0] 31 ∧ Blk w b14 #[.int .i64 0, .int .i64 0, .int .i64 0, .int .i64 0, .bool false, .bool false] 39 ∧ Below w0.heap.size w0 w) _ ⟨0, none, 0, (fun _ => 0), (fun _ => 0), rfl, rfl, rfl, rfl, rfl, rfl, rfl, rfl, rfl, Nat.zero_le _, Own.nil _ _ _ _, ⟨fun i hi => absurd hi (Nat.not_lt_zero _), fun i hi => absurd hi (Nat.not_lt_zero _), fun i hi => absurd hi (Nat.not_lt_zero _)⟩, hB4, hB14, hb⟩ ?_
  rintro k e w ⟨i, l, lc, b1, b2, hk, s0, s1, s4, s5, s6, s7, s8, s9, hi, hl, hx, hB4, hB14, hb⟩
  rw [upd_id s0, upd_id s1, upd_id s4, upd_id s5, upd_id s6, upd_id s7, upd_id s8, upd_id s9]
  clear s0 s1 s4 s5 s6 s7 s8 s9
  refine W.seq ?_
  refine W.seq ?_
  refine W.region rfl ?_
  refine L.va (x_mvI rfl) ?_
  refine L.va (x_mvS rfl) ?_
  refine L.va (x_len rfl Try.underlying25 rfl) ?_
  refine L.va (x_lss rfl rfl) ?_
  refine L.nil ?_
  show W _ _ _ _ _ _
  refine W.condP rfl (fun h18 => ?_) (fun h18 => ?_)
  · have hlt : i < m := by omega
    refine W.skip ?_
    show W _ _ _ _ _ _
    refine W.seq ?_
    refine W.block ?_
    refine W.region rfl ?_
    refine L.va (x_mvS rfl) ?_
    refine L.va (x_mvP rfl) ?_
    refine L.va (x_mvS rfl) ?_
    refine L.va (x_mvI rfl) ?_
    refine L.va (x_idx (i := i) rfl rfl Try.underlying25 sz64 hBo.sl hlt) ?_
    refine L.va (x_load (v := .slice (aa i) (bo i).length (cc i)) rfl Try.underlying64 rfl ((hBo.keep hb).row i hlt)) ?_
    refine L.call (x_call2 rfl rfl Try.func30 rfl nm30 rfl) (mkbody_c b14 (bo i).length (cc i) (aa i) w) ?_
    rintro _ w1 ⟨x, y, rfl, hx1, hy1, lx, ly, hbw⟩
    have lx := Nat.le_trans hb.size lx
    have ly := Nat.le_trans hb.size ly
    have hb := cl_step hb hbw
    have hl := hl.keep hbw
    have hx := hx.keep hbw
    have hB4 := hB4.keep hbw
    have hB14 := hB14.keep hbw
    clear hbw
    rename World => w
    have hx1 : Blk w x #[.slice (aa i) (bo i).length (cc i)] 64 := hx1
    have hy1 : Blk w y #[.pointer (some ⟨b14, 0, none⟩)] 32 := hy1
    refine L.build1 (cs := #[.func (.func 40) #[] #[.pointer (some (⟨x, 0, none⟩)), .pointer (some (⟨y, 0, none⟩))]]) rfl rfl Try.underlying49 sz52 rfl ⟨_, zr52⟩ (by decide) (fun w b28 F28 => ?_)
    have lt28 : w0.heap.size ≤ b28 := by have h9 := F28.here; have h8 := hb.size; omega
    have hb := cl_step hb F28.below
    have hl := hl.keep F28.below
    have hx := hx.keep F28.below
    have hB4 := hB4.keep F28.below
    have hB14 := hB14.keep F28.below
    have hx1 := hx1.keep F28.below
    have hy1 := hy1.keep F28.below
    have hB28 := F28.blk
    refine L.appendAny (B := w0.heap.size) (m := 1) rfl rfl Try.underlying49 in52 rfl (by decide) hl (fun h => by cases h) (news := [.func (.func 40) #[] #[.pointer (some (⟨x, 0, none⟩)), .pointer (some (⟨y, 0, none⟩))]]) rfl (fun ad had j u hj => by
      cases had
      rw [Addr.add_lit]
      match j, hj with
      | 0, hj => cases hj; exact hB28.cellAt 0 rfl) (fun u hu => by simp only [List.mem_cons, List.not_mem_nil, or_false] at hu; subst hu; rfl) (by omega) (by omega) hb.size (fun l2 lc2 w2 hO2 hg2 hbel _ => ?_)
    have hmo : ModT w w2 w0.heap.size [52] := ModT.app hl hg2 hbel rfl hO2
    have hb := hb.trans hbel
    have hx := hx.mod hmo rfl
    have hB4 := hB4.mod hmo rfl
    have hB14 := hB14.mod hmo rfl
    have hx1 := hx1.mod hmo rfl
    have hy1 := hy1.mod hmo rfl
    -- LOST hB28
    clear hmo hg2 hbel hl
    rename World => w
    refine L.va (x_asS rfl) ?_
    refine L.nil ?_
    refine B.nrm ?_
    show W _ _ _ _ _ _
    refine W.region rfl ?_
    refine L.va (x_mvI rfl) ?_
    refine L.va (x_inc rfl rfl (by omega)) ?_
    refine L.va (x_asI rfl) ?_
    refine L.nil ?_
    refine T.nrm ?_
    exact ⟨_, by omega, ⟨i + 1, l2, lc2, (upN b1 i x), (upN b2 i y), rfl, rfl, rfl, rfl, rfl, rfl, rfl, rfl, rfl, (by omega), (by rw [range_fv]; exact hO2), (hx.snoc hx1 hy1 lx ly), hB4, hB14, hb⟩⟩
  · obtain rfl : m = i := by omega
    refine W.exit ?_
    repeat (first | refine T.exit ?_ | refine N.exit ?_ | refine B.exitNe (by decide) ?_)
    refine B.exitEq ?_
    show W _ _ _ _ _ _
    refine W.seq ?_
    refine W.region rfl ?_
    refine L.build0 Try.underlying26 sz3 (fun w b30 F30 => ?_)
    have lt30 : w0.heap.size ≤ b30 := by have h9 := F30.here; have h8 := hb.size; omega
    have hb := cl_step hb F30.below
    have hl := hl.keep F30.below
    have hx := hx.keep F30.below
    have hB4 := hB4.keep F30.below
    have hB14 := hB14.keep F30.below
    have hB30 := F30.blk
    have hO : Own w w0.heap.size 3 1 (some ⟨b30, 0, none⟩) 0 0 [] := Own.ofBlk (c := 0) hB30 rfl lt30 (by decide) (by decide)
    clear hB30
    refine L.va (x_mvS rfl) ?_
    refine L.appendAny (B := w0.heap.size) (m := sn) rfl rfl Try.underlying26 in3 rfl (by decide) hO hSc.nil (news := (List.range sn).map fun j => .int .i64 (sc j)) (by simp) (fun ad had j u hj => (hSc.keep hb).src ad had j u hj) (fun u hu => by obtain ⟨j, _, rfl⟩ := List.mem_map.1 hu; rfl) (by omega) (by omega) hb.size (fun g1 gc1 w2 hO2 hg2 hbel _ => ?_)
    have hmo : ModT w w2 w0.heap.size [3] := ModT.app hO hg2 hbel rfl hO2
    have hb := hb.trans hbel
    have hl := hl.mod hmo rfl
    have hx := hx.mod hmo rfl
    have hB4 := hB4.mod hmo rfl
    have hB14 := hB14.mod hmo rfl
    clear hmo hg2 hbel hO
    rename World => w
    have hO := hO2
    clear hO2
    refine L.buildF (vs := [(0, .int .i64 77), (1, .int .i64 78)]) (cs := #[.int .i64 77, .int .i64 78]) rfl Try.underlying26 sz3 zr3 (by decide) (by kernel_rfl) (fun w b33 F33 => ?_)
    have lt33 : w0.heap.size ≤ b33 := by have h9 := F33.here; have h8 := hb.size; omega
    have hb := cl_step hb F33.below
    have hl := hl.keep F33.below
    have hx := hx.keep F33.below
    have hB4 := hB4.keep F33.below
    have hB14 := hB14.keep F33.below
    have hO := hO.keep F33.below
    have hB33 := F33.blk
    refine L.appendAny (B := w0.heap.size) (m := 2) rfl rfl Try.underlying26 in3 rfl (by decide) hO (fun h => by cases h) (news := [.int .i64 77, .int .i64 78]) rfl (fun ad had j u hj => by
        cases had
        rw [Addr.add_lit]
        match j, hj with
        | 0, hj => cases hj; exact hB33.cellAt 0 rfl
        | 1, hj => cases hj; exact hB33.cellAt 1 rfl) (fun u hu => by simp only [List.mem_cons, List.not_mem_nil, or_false] at hu; rcases hu with rfl | rfl <;> rfl) (by omega) (by omega) hb.size (fun g gc w2 hO2 hg2 hbel _ => ?_)
    have hmo : ModT w w2 w0.heap.size [3] := ModT.app hO hg2 hbel rfl hO2
    have hb := hb.trans hbel
    have hl := hl.mod hmo rfl
    have hx := hx.mod hmo rfl
    have hB4 := hB4.mod hmo rfl
    have hB14 := hB14.mod hmo rfl
    -- LOST hB33
    clear hmo hg2 hbel hO
    rename World => w
    have hO := hO2
    clear hO2
    have hgc : sn ≤ gc := by
        obtain ⟨_, _, _, h, _⟩ := hO.row (hO.some_of (by omega))
        omega
    rw [List.nil_append] at hO
    refine L.va (x_asS rfl) ?_
    refine L.nil ?_
    show W _ _ _ _ _ _
    refine W.seq ?_
    refine W.region rfl ?_
    refine L.va (x_mvS rfl) ?_
    refine L.va (x_mvS rfl) ?_
    refine L.va (x_mvS rfl) ?_
    refine L.va (x_len rfl Try.underlying26 rfl) ?_
    refine L.va (x_sliceTo (k := sn) rfl rfl Try.underlying26 sz3 hgc) ?_
    refine L.call (x_call2 rfl rfl Try.func19 rfl nm19 rfl) (runlong_c l g m lc sn gc w hm h) ?_
    rintro _ w1 ⟨rfl, hbw⟩
    have hb := cl_step hb hbw
    have hl := hl.keep hbw
    have hx := hx.keep hbw
    have hB4 := hB4.keep hbw
    have hB14 := hB14.keep hbw
    have hO := hO.keep hbw
    clear hbw
    rename World => w
    refine L.va (x_mvT rfl) ?_
    refine L.va (x_extract rfl rfl) ?_
    refine L.va (x_extract rfl rfl) ?_
    refine L.alloc (cs := #[.slice none 0 0, .slice none 0 0, .slice none 0 0, .slice none 0 0, .bool false, .int .i64 0]) zr31 rfl (fun w b11 F11 => ?_)
    have lt11 : w0.heap.size ≤ b11 := by have h9 := F11.here; have h8 := hb.size; omega
    have ne11hB4 := F11.ne hB4
    have hb := cl_step hb F11.below
    have hl := hl.keep F11.below
    have hx := hx.keep F11.below
    have hB4 := hB4.keep F11.below
    have hB14 := hB14.keep F11.below
    have hO := hO.keep F11.below
    have hB11 := F11.blk
    refine L.put (b := b11) (o := 0) (vs := [.slice none 0 0, .slice none 0 0, .slice none 0 0, .slice none 0 0, .bool false, .int .i64 0]) #[.slice none 0 0, .slice none 0 0, .slice none 0 0, .slice none 0 0, .bool false, .int .i64 0] rfl rfl rfl sz31 rfl rfl hB11 (Nat.le_of_ble_eq_true rfl) rfl (fun w hnew hg hsz => ?_)
    have hm0 := ModT.put0 hB11 hg
    have hb := below_gr hb hb.size hg lt11
    have hl := hl.mod hm0 rfl
    have hx := hx.mod hm0 rfl
    have hB4 := hB4.other hg ne11hB4
    have hB14 := hB14.mod hm0 rfl
    have hO := hO.mod hm0 rfl
    have hB11 := hnew
    clear hm0
    refine L.va (x_asI rfl) ?_
    refine L.nil ?_
    show W _ _ _ _ _ _
    refine W.seq ?_
    refine W.region rfl ?_
    refine L.va (x_mvP rfl) ?_
    refine L.va (x_nilCheck rfl) ?_
    refine L.va (x_field rfl Try.underlying39 rfl sz4 (by decide)) ?_
    refine L.put (b := b14) (o := 5) (vs := [.bool true]) #[.int .i64 0, .int .i64 0, .int .i64 0, .int .i64 0, .bool false, .bool true] rfl rfl rfl sz4 rfl rfl hB14 (Nat.le_of_ble_eq_true rfl) rfl (fun w hnew hg hsz => ?_)
    have hm0 := ModT.put0 hB14 hg
    have hb := below_gr hb hb.size hg lt14
    have hl := hl.mod hm0 rfl
    have hx := hx.mod hm0 rfl
    have hB4 := hB4.mod hm0 rfl
    have hO := hO.mod hm0 rfl
    have hB11 := hB11.mod hm0 rfl
    have hB14 := hnew
    clear hm0
    refine L.nil ?_
    show W _ _ _ _ _ _
    refine W.seq ?_
    refine W.seq ?_
    refine W.region rfl ?_
    refine L.va (x_mvS rfl) ?_
    refine L.va (x_mvS rfl) ?_
    refine L.va (x_len rfl Try.underlying26 rfl) ?_
    refine L.va (x_idx (i := sn) rfl rfl Try.underlying26 sz3 hO.sl (by omega)) ?_
    refine L.va (x_load (v := .int .i64 77) rfl Try.underlying3 rfl (by rw [hO.off, Nat.zero_add, Nat.mul_one]; exact hO.cell (by rw [List.getElem?_append_right (by simp)]; simp))) ?_
    refine L.va (d_bool (r := false) (by decide) (x_neq (m := 77) (k := 77) rfl rfl)) ?_
    refine L.va (x_mvB rfl) ?_
    refine L.on rfl ?_
    refine L.va (x_mvS rfl) ?_
    refine L.on rfl ?_
    refine L.va (x_mvS rfl) ?_
    refine L.on rfl ?_
    refine L.va (x_len rfl Try.underlying26 rfl) ?_
    refine L.on rfl ?_
    refine L.va (x_inc rfl rfl (by omega)) ?_
    refine L.on rfl ?_
    refine L.va (x_idx (i := sn + 1) rfl rfl Try.underlying26 sz3 hO.sl (by omega)) ?_
    refine L.on rfl ?_
    refine L.va (x_load (v := .int .i64 78) rfl Try.underlying3 rfl (by rw [hO.off, Nat.zero_add, Nat.mul_one]; exact hO.cell (by rw [List.getElem?_append_right (by simp)]; simp))) ?_
    refine L.on rfl ?_
    refine L.va (d_bool (r := false) (by decide) (x_neq (m := 78) (k := 78) rfl rfl)) ?_
    refine L.va (x_pickF rfl) ?_
    refine L.nil ?_
    show W _ _ _ _ _ _
    refine W.condF rfl ?_
    refine W.skip ?_
    show W _ _ _ _ _ _
    refine W.seq ?_
    refine W.region rfl ?_
    refine L.va (x_loadAgg (cs := [.slice none 0 0, .slice none 0 0, .slice none 0 0, .slice none 0 0, .bool false, .int .i64 0]) rfl Try.underlying31 rfl sz31 rfl (hB11.aggAt rfl)) ?_
    refine L.va (x_mvP rfl) ?_
    refine L.va (x_mvI rfl) ?_
    refine L.put (b := b4) (o := 0) (vs := [.slice none 0 0, .slice none 0 0, .slice none 0 0, .slice none 0 0, .bool false, .int .i64 0]) #[.slice none 0 0, .slice none 0 0, .slice none 0 0, .slice none 0 0, .bool false, .int .i64 0] rfl rfl rfl sz31 rfl rfl hB4 (Nat.le_of_ble_eq_true rfl) rfl (fun w hnew hg hsz => ?_)
    have hm0 := ModT.put0 hB4 hg
    have hb := below_gr hb hb.size hg lt4
    have hl := hl.mod hm0 rfl
    have hx := hx.mod hm0 rfl
    have hB14 := hB14.mod hm0 rfl
    have hO := hO.mod hm0 rfl
    have hB11 := hB11.other hg (Ne.symm ne11hB4)
    have hB4 := hnew
    clear hm0
    refine L.va (x_asP rfl) ?_
    refine L.va (x_asI rfl) ?_
    refine L.nil ?_
    show W _ _ _ _ _ _
    refine W.ret ?_
    repeat (first | refine T.ret ?_ | refine B.ret ?_ | refine N.ret ?_)
    refine ends.cellTmp2 (cs := #[.slice none 0 0, .slice none 0 0, .slice none 0 0, .slice none 0 0, .bool false, .int .i64 0]) (.inr rfl) rfl rfl Try.underlying31 rfl sz31 hB4 ?_
    exact ⟨b14, rfl, hB14, lt14, hb⟩

end Go.Vy.Sc
end
/- The run that the law's own check goes through. -/
section
namespace Go.Vy.Sc
open Go Go.Conc Go.Yc Go.RowKit Go.Proofs Go.Proofs.Ytfmoeemolgjodaa
open Go.Vc Go.Wg
def liveOp (k : Int) : OpD := ⟨1, ⟨k, 0, 0⟩, true, 0, 0, 0, 0, ByteArray.empty⟩
def liveOps : List OpD := [liveOp 1, liveOp 2]
def liveSc : Nat → Int := fun j => if j = 1 then 1 else 0
theorem live0 (c : Cells) : opsGo liveOps 0 0 c = ⟨c, [], .inl (0, 0)⟩ := (opsGo_at (o := liveOp 1) rfl).trans (if_pos rfl)
theorem live1 (c : Cells) : opsGo liveOps 1 0 c = ⟨c, [], .inl (1, 0)⟩ := (opsGo_at (o := liveOp 2) rfl).trans (if_pos rfl)
theorem live2 (c : Cells) : opsGo liveOps 2 0 c = ⟨c, [], .inr 1⟩ := opsGo_end (by decide)
abbrev liveS : Sys := pSys 2 fun _ => liveOps
theorem live_beg : (liveS.begs 2).ft = [.inl (0, 0), .inl (0, 0)] ∧ (liveS.begs 2).evs = [] := by
  simp [Sys.begs, Sys.bgn, Sys.p0, live0]
theorem live_step {p : PR liveS} {e : Int} {i : Nat} (h : (liveS.rds p)[pickIx e (liveS.rds p).length]? = some i) : liveS.step p e = liveS.turn p i := by
  unfold Sys.step; rw [h]
theorem live_rds {p : PR liveS} (a b : Bool) (ha : liveS.isRdy p 0 = a) (hb : liveS.isRdy p 1 = b) : liveS.rds p = [0, 1].filter fun i => if i = 0 then a else b := by
  unfold Sys.rds
  have : List.range liveS.m = [0, 1] := rfl
  rw [this]
  apply List.filter_congr
  intro i hi
  simp only [List.mem_cons, List.not_mem_nil, or_false] at hi
  rcases hi with rfl | rfl
  · simp [ha]
  · simp [hb]
theorem live_evs : (PB 2 (fun _ => liveOps) liveSc 4).evs = [(0, ⟨1, 0, 0⟩), (1, ⟨1, 0, 0⟩), (0, ⟨2, 0, 0⟩), (1, ⟨2, 0, 0⟩)] := by
  obtain ⟨h1, h2⟩ := live_beg
  show (liveS.step (liveS.step (liveS.step (liveS.step (liveS.begs 2) 0) 1) 0) 0).evs = _
  generalize liveS.begs 2 = p0 at *
  have r0 : liveS.rds p0 = [0, 1] := live_rds true true (by simp [Sys.isRdy, h1, liveOps, liveOp]) (by simp [Sys.isRdy, h1, liveOps, liveOp])
  have s0 : liveS.step p0 0 = liveS.turn p0 0 := live_step (by rw [r0]; rfl)
  have t0 : (liveS.turn p0 0).ft = [.inl (1, 0), .inl (0, 0)] ∧ (liveS.turn p0 0).evs = [(0, ⟨1, 0, 0⟩)] := by
    have h3 : p0.ft[0]? = some (.inl (0, 0)) := by rw [h1]; rfl
    have e : (liveOps)[0]? = some (liveOp 1) := rfl
    unfold Sys.turn; rw [h3]; simp only []
    rw [h1, h2]
    simp only [e, Nat.zero_add, live1]
    exact ⟨rfl, rfl⟩
  rw [s0]
  generalize liveS.turn p0 0 = p1 at *
  obtain ⟨h1, h2⟩ := t0
  have r1 : liveS.rds p1 = [0, 1] := live_rds true true (by simp [Sys.isRdy, h1, liveOps, liveOp]) (by simp [Sys.isRdy, h1, liveOps, liveOp])
  have s1 : liveS.step p1 1 = liveS.turn p1 1 := live_step (by rw [r1]; rfl)
  have t1 : (liveS.turn p1 1).ft = [.inl (1, 0), .inl (1, 0)] ∧ (liveS.turn p1 1).evs = [(0, ⟨1, 0, 0⟩), (1, ⟨1, 0, 0⟩)] := by
    have h3 : p1.ft[1]? = some (.inl (0, 0)) := by rw [h1]; rfl
    have e : (liveOps)[0]? = some (liveOp 1) := rfl
    unfold Sys.turn; rw [h3]; simp only []
    rw [h1, h2]
    simp only [e, Nat.zero_add, live1]
    exact ⟨rfl, rfl⟩
  rw [s1]
  generalize liveS.turn p1 1 = p2 at *
  obtain ⟨h1, h2⟩ := t1
  have r2 : liveS.rds p2 = [0, 1] := live_rds true true (by simp [Sys.isRdy, h1, liveOps, liveOp]) (by simp [Sys.isRdy, h1, liveOps, liveOp])
  have s2 : liveS.step p2 0 = liveS.turn p2 0 := live_step (by rw [r2]; rfl)
  have t2 : (liveS.turn p2 0).ft = [.inr 1, .inl (1, 0)] ∧ (liveS.turn p2 0).evs = [(0, ⟨1, 0, 0⟩), (1, ⟨1, 0, 0⟩), (0, ⟨2, 0, 0⟩)] := by
    have h3 : p2.ft[0]? = some (.inl (1, 0)) := by rw [h1]; rfl
    have e : (liveOps)[1]? = some (liveOp 2) := rfl
    unfold Sys.turn; rw [h3]; simp only []
    rw [h1, h2]
    simp only [e, Nat.reduceAdd, live2]
    exact ⟨rfl, rfl⟩
  rw [s2]
  generalize liveS.turn p2 0 = p3 at *
  obtain ⟨h1, h2⟩ := t2
  have r3 : liveS.rds p3 = [1] := live_rds false true (by simp [Sys.isRdy, h1]) (by simp [Sys.isRdy, h1, liveOps, liveOp])
  have s3 : liveS.step p3 0 = liveS.turn p3 1 := live_step (by rw [r3]; rfl)
  rw [s3]
  have h3 : p3.ft[1]? = some (.inl (1, 0)) := by rw [h1]; rfl
  unfold Sys.turn; rw [h3]; simp only []
  rw [h2]; rfl
theorem live_bods {w : World} {b9 b13 : Nat} (h9 : BlkF w b9 ((opC (liveOp 1) ++ opC (liveOp 2)).toArray) 63 (0, 0)) (h13 : BlkF w b13 #[.slice (some ⟨b9, 0, none⟩) 2 2, .slice (some ⟨b9, 0, none⟩) 2 2] 64 (0, 0)) :
    BodsAt w (some ⟨b13, 0, none⟩) 2 (fun _ => liveOps) (fun _ => some ⟨b9, 0, none⟩) (fun _ => 2) := by
  have h9 : Blk w b9 ((opC (liveOp 1) ++ opC (liveOp 2)).toArray) 63 := h9
  have h13 : Blk w b13 #[.slice (some ⟨b9, 0, none⟩) 2 2, .slice (some ⟨b9, 0, none⟩) 2 2] 64 := h13
  refine ⟨fun _ => rfl, fun i hi => ?_, fun i hi _ => rfl, fun i hi k o ho j v hv => ?_, fun i hi => by decide, fun i hi k o ho => ?_⟩
  · match i, hi with
    | 0, _ => exact h13.cellAt 0 rfl
    | 1, _ => exact h13.cellAt 1 rfl
  · have hjl : j < 10 := (List.getElem?_eq_some_iff.1 hv).1
    match k, ho with
    | 0, ho =>
      cases ho
      have := h9.cellAt j (v := v) (by simp only [List.getElem?_toArray]; rw [List.getElem?_append_left (by exact hjl)]; exact hv)
      show w.cell? ⟨b9, 0 + 0 * 10 + j, none⟩ = some v
      rw [show 0 + 0 * 10 + j = j by omega]; exact this
    | 1, ho =>
      cases ho
      have := h9.cellAt (10 + j) (v := v) (by simp only [List.getElem?_toArray]; rw [List.getElem?_append_right (by show 10 ≤ 10 + j; omega)]; simpa [opC] using hv)
      show w.cell? ⟨b9, 0 + 1 * 10 + j, none⟩ = some v
      rw [show 0 + 1 * 10 + j = 10 + j by omega]; exact this
  · match k, ho with
    | 0, ho => cases ho; decide
    | 1, ho => cases ho; decide
theorem live_sc {w : World} {b : Nat} (h : BlkF w b #[.int .i64 0, .int .i64 1, .int .i64 0, .int .i64 0] 3 (0, 0)) : ScAt w (some ⟨b, 0, none⟩) 4 4 liveSc := by
  have h : Blk w b #[.int .i64 0, .int .i64 1, .int .i64 0, .int .i64 0] 3 := h
  refine ⟨fun _ => rfl, (fun h => by cases h), by decide, fun j hj => ?_⟩
  match j, hj with
  | 0, _ => exact h.cellAt 0 rfl
  | 1, _ => exact h.cellAt 1 rfl
  | 2, _ => exact h.cellAt 2 rfl
  | 3, _ => exact h.cellAt 3 rfl
end Go.Vy.Sc
end
/- The law's own check answers true. -/
section
namespace Go.Vy.Sc
open Go Go.Conc Go.Yc Go.RowKit Go.Proofs Go.Proofs.Ytfmoeemolgjodaa
open Go.Vc Go.Wg

theorem buQ_0 (x0 : Int) : Try.prog.built 43 [(0, .int .i64 x0)] = some #[.int .i64 x0, .int .i64 0, .int .i64 0] := by kernel_rfl
theorem buQ_1 (x0 : Int) (x1 : Int) (x2 : Int) (x3 : Int) (x4 : Bool) : Try.prog.built 63 [(0, .int .i64 x0), (1, .agg #[.int .i64 x1, .int .i64 x2, .int .i64 x3]), (2, .bool x4)] = some #[.int .i64 x0, .int .i64 x1, .int .i64 x2, .int .i64 x3, .bool x4, .int .i64 0, .int .i64 0, .int .i64 0, .int .i64 0, .string ByteArray.empty] := by kernel_rfl
section
variable [Ctx Try.prog]

theorem errno_c (n : Int) (w0 : World) : C Try.prog 12 #[.int .i64 n] w0 fun v w => v = .int .i64 n ∧ w = w0 := by
  refine C.enter (n := 4) Try.func12 rfl rfl ?_
  refine W.seq ?_
  refine W.region rfl ?_
  refine L.va (x_asI rfl) ?_
  refine L.nil ?_
  show W _ _ _ _ _ _
  refine W.seq ?_
  refine W.region rfl ?_
  refine L.va (x_mvI rfl) ?_
  refine L.va (x_asI rfl) ?_
  refine L.nil ?_
  show W _ _ _ _ _ _
  refine W.ret ?_
  repeat (first | refine T.ret ?_ | refine B.ret ?_ | refine N.ret ?_)
  refine ends.one (.inr rfl) rfl ?_
  exact ⟨rfl, rfl⟩

end

theorem live_c {lb : Nat} {pl : Nat → Plug} (w0 : World) : @C Try.prog (loneCtx lb pl) 13 #[] w0 fun v w => v = .bool true ∧ Below w0.heap.size w0 w := by
  letI : Ctx Try.prog := loneCtx lb pl
  refine C.enter (n := 45) Try.func13 rfl rfl ?_
  have hb : Below w0.heap.size w0 w0 := Below.refl _ _
  refine W.seq ?_
  refine W.region rfl ?_
  refine L.va (x_asB rfl) ?_
  refine L.nil ?_
  show W _ _ _ _ _ _
  refine W.seq ?_
  refine W.region rfl ?_
  refine L.va (x_build (parts := [(0, .const (.int .i64 1))]) rfl (buQ_0 1)) ?_
  refine L.va (x_build (parts := [(0, .const (.int .i64 1)), (1, .tmp 5), (2, .const (.bool true))]) rfl (buQ_1 1 1 0 0 true)) ?_
  refine L.va (x_build (parts := [(0, .const (.int .i64 2))]) rfl (buQ_0 2)) ?_
  refine L.va (x_build (parts := [(0, .const (.int .i64 1)), (1, .tmp 7), (2, .const (.bool true))]) rfl (buQ_1 1 2 0 0 true)) ?_
  refine L.buildF (vs := [(0, .agg #[.int .i64 1, .int .i64 1, .int .i64 0, .int .i64 0, .bool true, .int .i64 0, .int .i64 0, .int .i64 0, .int .i64 0, .string ByteArray.empty]), (1, .agg #[.int .i64 1, .int .i64 2, .int .i64 0, .int .i64 0, .bool true, .int .i64 0, .int .i64 0, .int .i64 0, .int .i64 0, .string ByteArray.empty])]) (cs := #[.int .i64 1, .int .i64 1, .int .i64 0, .int .i64 0, .bool true, .int .i64 0, .int .i64 0, .int .i64 0, .int .i64 0, .string ByteArray.empty, .int .i64 1, .int .i64 2, .int .i64 0, .int .i64 0, .bool true, .int .i64 0, .int .i64 0, .int .i64 0, .int .i64 0, .string ByteArray.empty]) rfl Try.underlying64 sz63 zr63 (by decide) (by kernel_rfl) (fun w b9 F9 => ?_)
  have lt9 : w0.heap.size ≤ b9 := by have h9 := F9.here; have h8 := hb.size; omega
  have hb := cl_step hb F9.below
  have hB9 := F9.blk
  refine L.va (x_asS rfl) ?_
  refine L.nil ?_
  show W _ _ _ _ _ _
  refine W.seq ?_
  refine W.region rfl ?_
  refine L.va (x_mvS rfl) ?_
  refine L.va (x_mvS rfl) ?_
  refine L.buildF (vs := [(0, .slice (some ⟨b9, 0, none⟩) 2 2), (1, .slice (some ⟨b9, 0, none⟩) 2 2)]) (cs := #[.slice (some ⟨b9, 0, none⟩) 2 2, .slice (some ⟨b9, 0, none⟩) 2 2]) rfl Try.underlying25 sz64 zr64 (by decide) (by kernel_rfl) (fun w b13 F13 => ?_)
  have lt13 : w0.heap.size ≤ b13 := by have h9 := F13.here; have h8 := hb.size; omega
  have hb := cl_step hb F13.below
  have hB9 := hB9.keep F13.below
  have hB13 := F13.blk
  refine L.buildF (vs := [(0, .int .i64 0), (1, .int .i64 1), (2, .int .i64 0), (3, .int .i64 0)]) (cs := #[.int .i64 0, .int .i64 1, .int .i64 0, .int .i64 0]) rfl Try.underlying26 sz3 zr3 (by decide) (by kernel_rfl) (fun w b14 F14 => ?_)
  have lt14 : w0.heap.size ≤ b14 := by have h9 := F14.here; have h8 := hb.size; omega
  have hb := cl_step hb F14.below
  have hB9 := hB9.keep F14.below
  have hB13 := hB13.keep F14.below
  have hB14 := F14.blk
  refine L.call (x_call2 rfl rfl Try.func14 rfl nm14 rfl) (play_c w (live_bods (blkF_of hB9) (blkF_of hB13)) (live_sc (blkF_of hB14)) (by decide) (by decide)) ?_
  rintro _ w1 ⟨R, sb, rfl, hP, _, _, _, hbw⟩
  have hP := hP.down hb.size
  have hb := cl_step hb hbw
  have hB9 := hB9.keep hbw
  have hB13 := hB13.keep hbw
  have hB14 := hB14.keep hbw
  clear hbw
  rename World => w
  have hev := hP.evs.trans live_evs
  refine L.va (x_mvT rfl) ?_
  refine L.va (x_extract rfl rfl) ?_
  refine L.va (x_extract rfl rfl) ?_
  refine L.va (x_extract rfl rfl) ?_
  refine L.alloc (cs := #[.slice none 0 0, .slice none 0 0, .slice none 0 0, .slice none 0 0, .bool false, .int .i64 0]) zr31 rfl (fun w b2 F2 => ?_)
  have lt2 : w0.heap.size ≤ b2 := by have h9 := F2.here; have h8 := hb.size; omega
  have hn2 : ¬ R.fp b2 := fun z => by have := hP.mem.lt z; have := F2.here; omega
  have hb := cl_step hb F2.below
  have hP := hP.keep F2.below
  have hB2 := F2.blk
  refine L.put (b := b2) (o := 0) (vs := [.slice (R.ea) (R.evs.length) (R.ec), .slice (R.na) (R.nts.length) (R.nc), .slice (some ⟨R.eb, 0, none⟩) (R.m) (R.m), .slice (some ⟨R.wb, 0, none⟩) (R.m) (R.m), .bool (R.stuck), .int .i64 (R.used : Int)]) #[.slice (R.ea) (R.evs.length) (R.ec), .slice (R.na) (R.nts.length) (R.nc), .slice (some ⟨R.eb, 0, none⟩) (R.m) (R.m), .slice (some ⟨R.wb, 0, none⟩) (R.m) (R.m), .bool (R.stuck), .int .i64 (R.used : Int)] rfl rfl rfl sz31 rfl rfl hB2 (Nat.le_of_ble_eq_true rfl) rfl (fun w hnew hg hsz => ?_)
  have hm0 := ModT.put0 hB2 hg
  have hb := below_gr hb hb.size hg lt2
  have hP := hP.otherB hg hn2
  have hB2 := hnew
  clear hm0
  refine L.va (x_asP rfl) ?_
  refine L.va (x_asI rfl) ?_
  refine L.nil ?_
  show W _ _ _ _ _ _
  refine W.seq ?_
  refine W.region rfl ?_
  refine L.va (x_mvI rfl) ?_
  refine L.call (x_call1 rfl Try.func12 rfl nm12 rfl) (errno_c 0 _) ?_
  rintro _ w1 ⟨rfl, hw1⟩
  rw [hw1]
  clear hw1 w1
  refine L.va (d_bool (r := true) (by decide) (x_eql (m := 0) (k := 0) rfl rfl)) ?_
  refine L.va (x_mvB rfl) ?_
  refine L.on rfl ?_
  refine L.va (x_field rfl Try.underlying31 rfl sz27 (by decide)) ?_
  refine L.on rfl ?_
  refine L.va (x_load rfl Try.underlying27 rfl (hB2.cellAt 0 (v := .slice (R.ea) (R.evs.length) (R.ec)) rfl)) ?_
  refine L.on rfl ?_
  refine L.va (x_lenK (m := 4) (by rw [hev]; rfl) rfl Try.underlying27 rfl) ?_
  refine L.on rfl ?_
  refine L.va (d_bool (r := true) (by decide) (x_eql (m := 4) (k := 4) rfl rfl)) ?_
  refine L.va (x_pickT rfl) ?_
  refine L.va (x_mvB rfl) ?_
  refine L.on rfl ?_
  refine L.va (x_field rfl Try.underlying31 rfl sz27 (by decide)) ?_
  refine L.on rfl ?_
  refine L.va (x_load rfl Try.underlying27 rfl (hB2.cellAt 0 (v := .slice (R.ea) (R.evs.length) (R.ec)) rfl)) ?_
  refine L.on rfl ?_
  refine L.va (x_idx (i := 1) rfl rfl Try.underlying27 sz45 hP.mem.evs.sl (by rw [hev]; decide)) ?_
  refine L.on rfl ?_
  refine L.va (x_field rfl Try.underlying45 rfl sz3 (by decide)) ?_
  refine L.on rfl ?_
  refine L.va (x_load (v := .int .i64 1) rfl Try.underlying3 rfl (by rw [hP.mem.evs.off]; exact hP.mem.evs.cell (j := 4) (by rw [hev]; rfl))) ?_
  refine L.on rfl ?_
  refine L.va (d_bool (r := true) (by decide) (x_eql (m := 1) (k := 1) rfl rfl)) ?_
  refine L.va (x_pickT rfl) ?_
  refine L.va (x_mvB rfl) ?_
  refine L.on rfl ?_
  refine L.va (x_field rfl Try.underlying31 rfl sz27 (by decide)) ?_
  refine L.on rfl ?_
  refine L.va (x_load rfl Try.underlying27 rfl (hB2.cellAt 0 (v := .slice (R.ea) (R.evs.length) (R.ec)) rfl)) ?_
  refine L.on rfl ?_
  refine L.va (x_idx (i := 2) rfl rfl Try.underlying27 sz45 hP.mem.evs.sl (by rw [hev]; decide)) ?_
  refine L.on rfl ?_
  refine L.va (x_field rfl Try.underlying45 rfl sz43 (by decide)) ?_
  refine L.on rfl ?_
  refine L.va (x_field rfl Try.underlying43 rfl sz3 (by decide)) ?_
  refine L.on rfl ?_
  refine L.va (x_load (v := .int .i64 2) rfl Try.underlying3 rfl (by rw [hP.mem.evs.off]; exact hP.mem.evs.cell (j := 9) (by rw [hev]; rfl))) ?_
  refine L.on rfl ?_
  refine L.va (d_bool (r := true) (by decide) (x_eql (m := 2) (k := 2) rfl rfl)) ?_
  refine L.va (x_pickT rfl) ?_
  refine L.va (x_asB rfl) ?_
  refine L.nil ?_
  show W _ _ _ _ _ _
  refine W.ret ?_
  repeat (first | refine T.ret ?_ | refine B.ret ?_ | refine N.ret ?_)
  refine ends.one (.inr rfl) rfl ?_
  exact ⟨rfl, hb⟩


end Go.Vy.Sc
end
/- From a law's walk to what its statement asks. -/
section
namespace Go.Vy
open Go Go.Conc Go.Yc Go.RowKit
open Go.Vc
theorem doneG {P : Program} {fr : Frame} {fn : Func} {v : Value} {t : Tmp} (hm : fr.mode = .returning) (hd : fr.defers = []) (hk : fr.kind = .normal) (hf : P.funcs[fr.fn]? = some fn) (hr : fn.results = #[.tmp t]) (hv : fr.tmps.getD t undef = v) (hi : P.inits.idxOf? fr.fn = none) (w : World) : stepG P true (G fr []) w = .ended (.done v) w #[] := by
  have h1 := results_tmp hr fr.tmps P w
  have h2 := events_results_tmp (P := P) (w := w) hr fr.tmps
  simp [G, stepG, unwind, doReturn, hm, hd, hk, hf, hi, h1, h2, hv, seen, GStep.after]
theorem leaves_tmp {P : Program} {fr : Frame} {fn : Func} {w : World} {v : Value} {t : Tmp} (hl : Leaves P fr w (.returned v)) (hf : P.funcs[fr.fn]? = some fn) (hr : fn.results = #[.tmp t]) (hnv : NoView w) : fr.tmps.getD t undef = v := by
  obtain ⟨h1, h2, h3, fn', h4, h5⟩ := hl
  rw [hf] at h4
  obtain rfl := Option.some.inj h4
  obtain ⟨x', es, h6, _⟩ := h5 w.tape w.drawn _ w hnv.sim
  have h7 := results_tmp hr fr.tmps P w
  rw [Sem.runT_eq] at h6
  have h8 := (Prod.mk.inj h6).1
  rw [h7] at h8
  injection h8
end Go.Vy
namespace Go.Vy.Sc
open Go Go.Conc Go.Yc Go.RowKit Go.Proofs Go.Proofs.Ytfmoeemolgjodaa
open Go.Vc Go.Wg
/-- What is as it was, whatever the tape is. -/
def BelowT (W w' : World) : Prop := Below W.heap.size W { w' with tape := W.tape }
theorem BelowT.frame {W w' : World} (h : BelowT W w') (may : MemPlace → Prop) : W.keptBut w' may := Below.frame h may
theorem BelowT.trod {H : Type} {enc : TypeId × Value → H} {P : Program} {t : TypeId} (hl : laidOutB P = true) (hr : P.readableRec t = true) (hrow : t < P.types.size) {W W' : World} {v : Value} {d : DataW H} {ps : List MemPlace}
    (h : DataW.Trod enc P W 0 (fun _ => true) true t v d ps) (hb : BelowT W W') (hlt : ∀ x ∈ ps, x.block < W.heap.size) :
    DataW.Trod enc P W' 0 (fun b => decide (b < W.heap.size)) true t v d ps :=
  WideElems.Trod_stays hl hr hrow h (fun x hx => (Below.same hb (hlt x hx) : W.sameAt { W' with tape := W.tape } x)) (fun x hx => by simpa using hlt x hx)
theorem like_all {x y : Obj} (h : Like .all x y) : y = x := by cases h; rfl
theorem like_gone {o x y : Obj} (h : Like (.gone o) x y) : y = o := by cases h; rfl
/-- A law's walk ends the run. -/
theorem lone_ends {f : FuncId} {fn : Func} {t : Tmp} {args : Array Value} {W : World} (hf : Try.prog.funcs[f]? = some fn) (hr : fn.results = #[.tmp t]) (hi : Try.prog.inits.idxOf? f = none) (h : @C Try.prog (loneCtx W.heap.size (X0 W).plug) f args (veil W) fun v w => v = .bool true ∧ Below (veil W).heap.size (veil W) w) :
    Yc.Ends Try.prog (fun v w' => v = .bool true ∧ BelowT W w') (solo (G (Frame.enter Try.prog f args .normal) []) W) #[] := by
  have hsz : (veil W).heap.size = W.heap.size := by simp [veil]
  refine Fin.start (h _ ⟨_, rfl⟩ [] (fun e w' fr he hfr hl => ?_) (X0 W) ⟨fun _ => rfl, rfl, rfl, rfl, X0_under W _, fun b hb => X0_plug (by rw [← hsz]; exact hb), Nat.one_pos⟩ (by rw [hsz]; exact Nat.le_refl _) (fun _ hb => hb.elim) rfl)
  cases e with
  | panicked ch => exact he.elim
  | outgrown => exact he.elim
  | returned v =>
    obtain ⟨rfl, hb⟩ := he
    rw [hsz] at hb
    refine loneZ_ign _ _ _ _ _ fun hnv X hX h1 h2 h3 => ?_
    have hfr' : Try.prog.funcs[fr.fn]? = some fn := by rw [hfr]; exact hf
    have hv := leaves_tmp hl hfr' hr hnv
    obtain ⟨hm, hd, hk, _⟩ := hl
    refine Fin.ends rfl hX.seat hX.cap (doneG hm hd hk hfr' hr hv (by rw [hfr]; exact hi)) fun ρ w hs hρ => ⟨rfl, ?_⟩
    refine ⟨hs.os.trans hb.os, rfl, hs.output.trans hb.output, ?_, fun k hk => ?_⟩
    · show W.heap.size ≤ w.heap.size
      rw [hs.size]
      show W.heap.size ≤ w'.heap.size
      rw [← hsz]; exact hb.size
    · show w.heap[k]? = W.heap[k]?
      have hk' : k < w'.heap.size := by have := hb.size; rw [hsz] at this; omega
      obtain ⟨y, hy, hlk⟩ := hs.obj k _ (Array.getElem?_eq_getElem hk')
      have e1 : some w'.heap[k] = (veil W).heap[k]? := by rw [← hb.block k hk]; exact (Array.getElem?_eq_getElem hk').symm
      have e2 : (veil W).heap[k]? = (W.heap[k]?).map fun o => if isView o then nothing else o := by
        show (W.heap.map _)[k]? = _
        rw [Array.getElem?_map]
      rw [Array.getElem?_eq_getElem hk] at e2
      rw [e2] at e1
      have e1 := Option.some.inj e1
      have hp : ρ k = (X0 W).plug k := by
        rw [hρ k fun z => by have := h2 k z; omega, h3]
      have hp2 : (X0 W).plug k = if isView W.heap[k] then .gone W.heap[k] else .all := by
        show (match W.heap[k]? with | some o => if isView o then Plug.gone o else .all | none => .all) = _
        rw [Array.getElem?_eq_getElem hk]
      rw [hy, Array.getElem?_eq_getElem hk]
      have hlk : Like (ρ k) w'.heap[k] y := hlk
      rw [hp, hp2, e1] at hlk
      cases hv : isView W.heap[k]
      · simp only [hv, Bool.false_eq_true, if_false] at hlk
        rw [like_all hlk]
      · simp only [hv, if_true] at hlk
        rw [like_gone hlk]
end Go.Vy.Sc
end
/- Clients without bodies; how states of a run hang together, by induction. -/
section
namespace Go.Vy.Sc
open Go Go.Conc Go.Yc Go.RowKit Go.Proofs Go.Proofs.Ytfmoeemolgjodaa
open Go.Vc Go.Wg
/-- What holds at the beginning and is kept holds throughout. -/
theorem Sys.ind {Y : Sys} (I : PR Y → Prop) (h0 : I Y.p0) (hb : ∀ p, I p → p.ft.length < Y.m → I (Y.bgn p)) (ht : ∀ p i l, I p → p.ft.length = Y.m → p.ft[i]? = some (.inl l) → Y.isRdy p i = true → I (Y.turn p i)) (sc : Nat → Int) (n : Nat) : I (Y.pn sc n) := by
  have h1 : ∀ k, k ≤ Y.m → I (Y.begs k) := by
    intro k
    induction k with
    | zero => intro _; exact h0
    | succ k ih => intro hk; exact hb _ (ih (by omega)) (by rw [Sys.len_begs]; omega)
  induction n with
  | zero => exact h1 _ (Nat.le_refl _)
  | succ n ih =>
    show I (Y.step (Y.pn sc n) (sc n))
    unfold Sys.step
    split
    · rename_i i hi
      have hm := List.mem_of_getElem? hi
      unfold Sys.rds at hm
      rw [List.mem_filter] at hm
      have hr := hm.2
      cases hf : (Y.pn sc n).ft[i]? with
      | none => unfold Sys.isRdy at hr; rw [hf] at hr; cases hr
      | some f =>
        cases f with
        | inr x => unfold Sys.isRdy at hr; rw [hf] at hr; cases hr
        | inl l => exact ht _ i l ih (Sys.len_pn sc n) hf hr
    · exact ih
theorem RunM.ends_at {B j : Nat} {x : Int} {w : World} {R : Rn} (h : RunM w B R) (hj : R.ends[j]? = some x) : w.cell? ⟨R.eb, j, none⟩ = some (.int .i64 x) := by
  have h1 : Blk w R.eb (R.ends.map (Value.int .i64)).toArray 3 := h.ends
  exact h1.cellAt j (by simp [hj])
theorem RunM.wts_at {B j k : Nat} {x : Stp} {v : Value} {w : World} {R : Rn} (h : RunM w B R) (hj : R.wts[j]? = some x) (hv : (spC x)[k]? = some v) : w.cell? ⟨R.wb, j * 3 + k, none⟩ = some v := by
  have h1 : Blk w R.wb (R.wts.flatMap spC).toArray 43 := h.wts
  refine h1.cellAt (j * 3 + k) ?_
  rw [List.getElem?_toArray]
  have hkl : k < 3 := (List.getElem?_eq_some_iff.1 hv).1
  have key : ∀ (l : List Stp) (j : Nat), l[j]? = some x → (l.flatMap spC)[j * 3 + k]? = some v := by
    intro l
    induction l with
    | nil => intro j h; cases h
    | cons a l ih =>
      intro j h
      cases j with
      | zero =>
        cases h
        rw [List.flatMap_cons, List.getElem?_append_left (by simpa [spC] using hkl)]
        simpa using hv
      | succ j =>
        rw [List.flatMap_cons, List.getElem?_append_right (by simp [spC]; omega)]
        have : (j + 1) * 3 + k - (spC a).length = j * 3 + k := by simp [spC]; omega
        rw [this]
        exact ih j (by simpa using h)
  exact key _ _ hj
section
variable {m lb : Nat} {pl : Nat → Plug}
end
end Go.Vy.Sc
end
/- What comes in, read. -/
section
namespace Go.Vy.Sc
open Go Go.Conc Go.Yc Go.RowKit Go.Proofs Go.Proofs.Ytfmoeemolgjodaa
open Go.Vc Go.Wg Go.ChangeShapes Go.WideShapes Go.ChangeAt Go.Deep
theorem veil_cell {W : World} {a : Addr} {v : Value} (h : W.cell? a = some v) : (veil W).cell? a = some v := by
  unfold World.cell? at h ⊢
  cases ho : W.heap[a.block]? with
  | none => rw [ho] at h; cases h
  | some o =>
    cases o with
    | cells c e f =>
      rw [veil_get ho rfl]
      rw [ho] at h
      exact h
    | _ => rw [ho] at h; cases h
theorem chooseLt {α : Type} [Inhabited α] {n : Nat} {p : Nat → α → Prop} (h : ∀ i, i < n → ∃ x, p i x) : ∃ f : Nat → α, ∀ i, i < n → p i (f i) := by
  classical
  exact ⟨fun i => if hi : i < n then (h i hi).choose else default, fun i hi => by
    show p i (if hi : i < n then (h i hi).choose else default)
    rw [dif_pos hi]; exact (h i hi).choose_spec⟩
section
variable {H : Type} {enc : TypeId × Value → H} {W : World} {base : Nat} {spare : Nat → Bool} {held : Bool} {P : Program}
theorem trod_field {t : TypeId} {fs : Array Field} {fuel : Nat} {cs : List Value} {x : DataW H × List MemPlace} (ht : P.underlying t = some (.struct fs)) (h : DataW.trod enc P W base spare held fuel t cs = some x) :
    ∃ m, cs.length = P.cellsOf t ∧ ∀ (j : Nat) f, fs[j]? = some f → ∃ y, DataW.trod enc P W base spare held m f.type ((cs.drop f.offset).take (P.cellsOf f.type)) = some y := by
  obtain ⟨xs, m, _, _, hl, hxl, hf⟩ := DataW.trod_struct ht h
  refine ⟨m, hl, fun j f hj => ?_⟩
  have hjl : j < xs.length := by rw [hxl]; exact (Array.getElem?_eq_some_iff.1 hj).1
  exact ⟨xs[j], by rw [hf j f hj]; exact List.getElem?_eq_getElem hjl⟩
end
section
variable {H : Type} {enc : TypeId × Value → H} {W : World} {base : Nat} {spare : Nat → Bool} {held : Bool}
theorem cellsInt : Try.prog.cellsOf 3 = 1 := by kernel_rfl
theorem cellsStep : Try.prog.cellsOf 43 = 3 := by kernel_rfl
theorem len3 {α : Type} : ∀ {cs : List α}, cs.length = 3 → ∃ a b c, cs = [a, b, c]
  | [a, b, c], _ => ⟨a, b, c, rfl⟩
set_option maxRecDepth 100000 in
theorem step_cells {n : Nat} {cs : List Value} {x : DataW H × List MemPlace} (h : DataW.trod enc Try.prog W base spare held n 43 cs = some x) : ∃ s : Stp, cs = spC s := by
  obtain ⟨m, hl, hf⟩ := trod_field Try.underlying43 h
  rw [cellsStep] at hl
  obtain ⟨v0, v1, v2, rfl⟩ : ∃ a b c, cs = [a, b, c] := len3 hl
  · obtain ⟨y0, h0⟩ : ∃ y, DataW.trod enc Try.prog W base spare held m 3 (([v0, v1, v2].drop 0).take (Try.prog.cellsOf 3)) = some y := hf 0 _ rfl
    obtain ⟨y1, h1⟩ : ∃ y, DataW.trod enc Try.prog W base spare held m 3 (([v0, v1, v2].drop 1).take (Try.prog.cellsOf 3)) = some y := hf 1 _ rfl
    obtain ⟨y2, h2⟩ : ∃ y, DataW.trod enc Try.prog W base spare held m 3 (([v0, v1, v2].drop 2).take (Try.prog.cellsOf 3)) = some y := hf 2 _ rfl
    rw [cellsInt] at h0 h1 h2
    obtain ⟨a, ha, _⟩ := DataW.trod_int Try.underlying3 h0
    obtain ⟨b, hb, _⟩ := DataW.trod_int Try.underlying3 h1
    obtain ⟨c, hc, _⟩ := DataW.trod_int Try.underlying3 h2
    simp at ha hb hc
    exact ⟨⟨a, b, c⟩, by rw [ha, hb, hc]; rfl⟩
end
end Go.Vy.Sc
end
/- The law of clients that are stopped: their run, told without a program. -/
section
namespace Go.Vy.Sc
open Go Go.Conc Go.Yc Go.RowKit Go.Proofs Go.Proofs.Ytfmoeemolgjodaa
open Go.Vc Go.Wg
theorem wrap_small {z : Int} (h : -1000000000 ≤ z ∧ z ≤ 1000000000) : IntKind.i64.wrap z = z := by
  simp [IntKind.wrap, IntKind.signed, IntKind.bits]
  split <;> omega
section
variable {m b lb : Nat} {pl : Nat → Plug}
end
end Go.Vy.Sc
end
/- The law of what is not divided: its run, told without a program. -/
section
namespace Go.Vy.Sc
open Go Go.Conc Go.Yc Go.RowKit Go.Proofs Go.Proofs.Ytfmoeemolgjodaa
open Go.Vc Go.Wg
theorem RunM.evs_at {B i k : Nat} {x : Nat × Stp} {v : Value} {w : World} {R : Rn} (h : RunM w B R) (hi : R.evs[i]? = some x) (hv : (evC x)[k]? = some v) : w.cell? ⟨ab R.ea, ao R.ea + i * 4 + k, none⟩ = some v := by
  have hkl : k < 4 := (List.getElem?_eq_some_iff.1 hv).1
  have key : ∀ (l : List (Nat × Stp)) (i : Nat), l[i]? = some x → (l.flatMap evC)[i * 4 + k]? = some v := by
    intro l
    induction l with
    | nil => intro i h; cases h
    | cons a l ih =>
      intro i h
      cases i with
      | zero =>
        cases h
        rw [List.flatMap_cons, List.getElem?_append_left (by simpa [evC] using hkl)]
        simpa using hv
      | succ i =>
        rw [List.flatMap_cons, List.getElem?_append_right (by simp [evC]; omega)]
        have : (i + 1) * 4 + k - (evC a).length = i * 4 + k := by simp [evC]; omega
        rw [this]
        exact ih i (by simpa using h)
  rw [h.evs.off, Nat.zero_add]
  exact h.evs.cell (key _ _ hi)
def wr (s : Int) (j : Nat) : Int := if j = 0 then s else IntKind.i64.wrap (s + j)
section
variable {m r c rb t lb : Nat} {pl : Nat → Plug}
end
end Go.Vy.Sc
end
/- Comparison of a struct with itself. Nothing here speaks of a program. -/
section
namespace Go.Vy
open Go Go.Conc Go.Yc Go.RowKit
open Go.Vc
section
variable {P : Program}
theorem run_part_agg {t : TypeId} {fs : Array Field} {s off : Nat} {cs : Array Value} (hT : P.underlying t = some (.struct fs)) (hs : (P.info? t).map (·.size) = some s) (w : World) : (part t cs off).run P w = .ok (.agg (cs.extract off (off + s))) w := by
  have h0 : flatB (.struct fs) = false := rfl
  simp [part, Go.Vc.run_isAgg hT, Go.Vc.run_sizeOf hs, h0]
theorem eqF_nil {d : Nat} {xs : Array Value} (w : World) : (Op.eqFields d xs xs []).run P w = .ok true w := rfl
theorem eqF_cons {d : Nat} {xs : Array Value} {f : Field} {fs : List Field} {v : Value} (hn : f.name ≠ "_") (hp : ∀ w, (part f.type xs f.offset).run P w = .ok v w) (he : ∀ w, (Op.equalIn d f.type v v).run P w = .ok true w) (hr : ∀ w, (Op.eqFields d xs xs fs).run P w = .ok true w) (w : World) : (Op.eqFields d xs xs (f :: fs)).run P w = .ok true w := by
  simp [Op.eqFields, hn, hp, he, hr]
theorem eq_int {d : Nat} {t : TypeId} {κ κ' : IntKind} {a : Int} (h : P.underlying t = some (.int κ')) (w : World) : (Op.equalIn (d + 1) t (.int κ a) (.int κ a)).run P w = .ok true w := by
  rw [run_equalIn_int w d t κ κ' a a h]; simp
theorem eq_str {d : Nat} {t : TypeId} {a : ByteArray} (h : P.underlying t = some .string) (w : World) : (Op.equalIn (d + 1) t (.string a) (.string a)).run P w = .ok true w := by
  rw [run_equalIn_string w d t a a h]; simp
theorem eq_struct {d : Nat} {t : TypeId} {xs : Array Value} {fs : Array Field} (ht : P.underlying t = some (.struct fs)) (hp : P.stoodInHeld t = false) (h : ∀ w, (Op.eqFields d xs xs fs.toList).run P w = .ok true w) (w : World) : (Op.equalIn (d + 1) t (.agg xs) (.agg xs)).run P w = .ok true w := by
  have hf : P.fieldsOf t = fs := by unfold Program.fieldsOf; rw [ht]
  rw [run_equalIn_struct w d t xs xs (by rw [hf]; exact ht) hp, hf]
  exact h w
end
section
variable {P : Program} {ρ : Operand → Value} {w : World} {d : Option Nat} {ty : TypeId} {ps : String} {af : Array Edge} {g : Option (Nat × Bool)} {x y : Operand} {T T' : TypeId}
theorem x_neqSame {cs : Array Value} (hx : ρ x = .agg cs) (hy : ρ y = .agg cs) (he : ∀ w, (Op.equalIn (9999 + 1) T (.agg cs) (.agg cs)).run P w = .ok true w) (hg : P.eqGuardType P.depth T = false) (hb : ∀ c ∈ cs, noAddr c = true) :
    Does P (execOp ρ ⟨d, .binOp .neq T x y T', ty, ps, af, g⟩) w (.val (.bool false)) w :=
  .of_tame (t_neqAgg hg hb hx hy) rfl rfl fun τ d => by
    simp only [execOp, hx, hy, Sem.run_bind, run_eqGuard_agg (P := P) (w := onT w τ d) .neq T x y _ _ hg, Result.andThen_ok, run_neq_struct]
    rw [he]
    rfl
theorem x_neqBoolSame {a : Bool} (hx : ρ x = .bool a) (hy : ρ y = .bool a) (hT : P.underlying T = some .bool) : Does P (execOp ρ ⟨d, .binOp .neq T x y T', ty, ps, af, g⟩) w (.val (.bool false)) w := by
  have h1 : ∀ w : World, (binOp .neq T (.bool a) (.bool a)).run P w = .ok (.bool false) w := fun w => by
    have h2 := run_equal_bool (P := P) w T a a hT
    simp [binOp, h2]
  have h3 : tame P (binOp .neq T (.bool a) (.bool a)) := t_neqOf (t_equalIn (n := 9999) rfl) rfl
  refine .of_tame (t_binOf hx hy (t_guard (fun _ h => by cases h) (fun h => by cases h)) h3) rfl rfl fun τ d => ?_
  have h2 : ∀ w : World, (eqGuard .neq T x y (.bool a) (.bool a)).run P w = .ok () w := fun w => by simp [eqGuard]
  simp only [execOp, hx, hy, Sem.run_bind, h2, h1, Result.andThen_ok]
  rfl
end
end Go.Vy
end
/- Two runs that are alike. -/
section
namespace Go.Vy.Sc
open Go Go.Conc Go.Yc Go.RowKit Go.Proofs Go.Proofs.Ytfmoeemolgjodaa
open Go.Vc Go.Wg
/-- A run as it lies. -/
structure RunAt (w : World) (ea na za wa : Option Addr) (m : Nat) (evs : List (Nat × Stp)) (nts : List (Nat × Nat × Nte)) (ends : List Int) (wts : List Stp) : Prop where
  esl : SL ea evs.length
  nsl : SL na nts.length
  zsl : SL za m
  wsl : SL wa m
  hz : ends.length = m
  hw : wts.length = m
  ev : ∀ (i : Nat) x (k : Nat) v, evs[i]? = some x → (evC x)[k]? = some v → w.cell? ⟨ab ea, ao ea + i * 4 + k, none⟩ = some v
  nt : ∀ (i : Nat) x (k : Nat) v, nts[i]? = some x → (ntC x)[k]? = some v → w.cell? ⟨ab na, ao na + i * 4 + k, none⟩ = some v
  en : ∀ (i : Nat) (x : Int), ends[i]? = some x → w.cell? ⟨ab za, ao za + i * 1, none⟩ = some (.int .i64 x)
  wt : ∀ (i : Nat) x (k : Nat) v, wts[i]? = some x → (spC x)[k]? = some v → w.cell? ⟨ab wa, ao wa + i * 3 + k, none⟩ = some v
section
variable {w w' : World} {ea na za wa : Option Addr} {m B : Nat} {evs : List (Nat × Stp)} {nts : List (Nat × Nat × Nte)} {ends : List Int} {wts : List Stp} {R : Rn}
theorem RunAt.keep (h : RunAt w ea na za wa m evs nts ends wts) (hb : Below w.heap.size w w') : RunAt w' ea na za wa m evs nts ends wts :=
  ⟨h.esl, h.nsl, h.zsl, h.wsl, h.hz, h.hw, fun i x k v h1 h2 => cell_keep (h.ev i x k v h1 h2) hb, fun i x k v h1 h2 => cell_keep (h.nt i x k v h1 h2) hb, fun i x h1 => cell_keep (h.en i x h1) hb, fun i x k v h1 h2 => cell_keep (h.wt i x k v h1 h2) hb⟩
theorem RunM.nts_at {i k : Nat} {x : Nat × Nat × Nte} {v : Value} (h : RunM w B R) (hi : R.nts[i]? = some x) (hv : (ntC x)[k]? = some v) : w.cell? ⟨ab R.na, ao R.na + i * 4 + k, none⟩ = some v := by
  have hkl : k < 4 := (List.getElem?_eq_some_iff.1 hv).1
  have key : ∀ (l : List (Nat × Nat × Nte)) (i : Nat), l[i]? = some x → (l.flatMap ntC)[i * 4 + k]? = some v := by
    intro l
    induction l with
    | nil => intro i h; cases h
    | cons a l ih =>
      intro i h
      cases i with
      | zero =>
        cases h
        rw [List.flatMap_cons, List.getElem?_append_left (by simpa [ntC] using hkl)]
        simpa using hv
      | succ i =>
        rw [List.flatMap_cons, List.getElem?_append_right (by simp [ntC]; omega)]
        have : (i + 1) * 4 + k - (ntC a).length = i * 4 + k := by simp [ntC]; omega
        rw [this]
        exact ih i (by simpa using h)
  rw [h.nts.off, Nat.zero_add]
  exact h.nts.cell (key _ _ hi)
theorem RunM.runAt (h : RunM w B R) : RunAt w R.ea R.na (some ⟨R.eb, 0, none⟩) (some ⟨R.wb, 0, none⟩) R.m R.evs R.nts R.ends R.wts := by
  refine ⟨h.evs.sl, h.nts.sl, SL.mk _ _ _, SL.mk _ _ _, h.lend, h.lwts, fun i x k v h1 h2 => h.evs_at h1 h2, fun i x k v h1 h2 => h.nts_at h1 h2, fun i x h1 => ?_, fun i x k v h1 h2 => ?_⟩
  · show w.cell? ⟨R.eb, 0 + i * 1, none⟩ = _
    rw [Nat.zero_add, Nat.mul_one]; exact h.ends_at h1
  · show w.cell? ⟨R.wb, 0 + i * 3 + k, none⟩ = _
    rw [Nat.zero_add]; exact h.wts_at h1 h2
end
theorem eqInts {d : Nat} {a : Int} (w : World) : (Op.equalIn (d + 1) 3 (.int .i64 a) (.int .i64 a)).run Try.prog w = .ok true w := eq_int Try.underlying3 w
theorem plainInt : Try.prog.plainKey 3 = true := by kernel_rfl
theorem plainStr : Try.prog.plainKey 9 = true := by kernel_rfl
theorem eqStp (d : Nat) (a b c : Int) (w : World) : (Op.equalIn (d + 2) 43 (.agg #[.int .i64 a, .int .i64 b, .int .i64 c]) (.agg #[.int .i64 a, .int .i64 b, .int .i64 c])).run Try.prog w = .ok true w :=
  eq_struct Try.underlying43 (by kernel_rfl) (eqF_cons (by decide) (fun w => run_part_plain w plainInt rfl) eqInts (eqF_cons (by decide) (fun w => run_part_plain w plainInt rfl) eqInts (eqF_cons (by decide) (fun w => run_part_plain w plainInt rfl) eqInts eqF_nil))) w
theorem eqEv (d : Nat) (a b c e : Int) (w : World) : (Op.equalIn (d + 3) 45 (.agg #[.int .i64 a, .int .i64 b, .int .i64 c, .int .i64 e]) (.agg #[.int .i64 a, .int .i64 b, .int .i64 c, .int .i64 e])).run Try.prog w = .ok true w :=
  eq_struct Try.underlying45 (by kernel_rfl) (eqF_cons (by decide) (fun w => run_part_plain w plainInt rfl) eqInts (eqF_cons (v := .agg #[.int .i64 b, .int .i64 c, .int .i64 e]) (by decide) (fun w => run_part_agg Try.underlying43 sz43 w) (eqStp d b c e) eqF_nil)) w
theorem eqNt (d : Nat) (a b c : Int) (s : ByteArray) (w : World) : (Op.equalIn (d + 2) 47 (.agg #[.int .i64 a, .int .i64 b, .int .i64 c, .string s]) (.agg #[.int .i64 a, .int .i64 b, .int .i64 c, .string s])).run Try.prog w = .ok true w :=
  eq_struct Try.underlying47 (by kernel_rfl) (eqF_cons (by decide) (fun w => run_part_plain w plainInt rfl) eqInts (eqF_cons (by decide) (fun w => run_part_plain w plainInt rfl) eqInts (eqF_cons (by decide) (fun w => run_part_plain w plainInt rfl) eqInts (eqF_cons (by decide) (fun w => run_part_plain w plainStr rfl) (eq_str Try.underlying9) eqF_nil)))) w
theorem noAddr3 {a b c : Value} (h : noAddr a = true ∧ noAddr b = true ∧ noAddr c = true) : ∀ x ∈ #[a, b, c], noAddr x = true := fun x hx => by
  simp at hx
  rcases hx with rfl | rfl | rfl
  · exact h.1
  · exact h.2.1
  · exact h.2.2
theorem noAddr4 {a b c d : Value} (h : noAddr a = true ∧ noAddr b = true ∧ noAddr c = true ∧ noAddr d = true) : ∀ x ∈ #[a, b, c, d], noAddr x = true := fun x hx => by
  simp at hx
  rcases hx with rfl | rfl | rfl | rfl
  · exact h.1
  · exact h.2.1
  · exact h.2.2.1
  · exact h.2.2.2
end Go.Vy.Sc
end
