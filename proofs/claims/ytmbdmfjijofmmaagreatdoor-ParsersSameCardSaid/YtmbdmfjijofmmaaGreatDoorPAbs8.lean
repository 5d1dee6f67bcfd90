/-
  A second layer: what the model does where its outcome is drawn (loops over maps), and the library's contract of sorting.
-/
import Derived.Test.YtmbdmfjijofmmaaGreatDoorPAbs7
import Derived.Maps.RangeRun
import Derived.Shelf.Sort.Plain
/-
 A second layer: what the model does,told by what is known of the slots,the frozen blocks and one's own blocks;for code whose outcome is drawn.
-/
set_option linter.unusedVariables false
namespace Go.Abs
open Go
section
variable {C:Ctx}{P:Program}{n:Nat}
structure At(C:Ctx)(σ:aY)(h:aq)(w:World):Prop where
 gX:oj C σ
 lU:cU σ h.get w
 fresh:∀i,h.next<=i->σ i=none
theorem At.next{σ σ':aY}{h h':aq}{w w':World}(a:At C σ h w)(eP:ek h h')(s:cU σ' h'.get w')(ev:Ev σ h.get h.next w σ' h'.get h'.next w'):At C σ' h' w' where
 gX:=a.gX.mono (ev.le λi q1 q2=>a.fresh i q1)
 lU:=s
 fresh:=λi q=>by rw[ev.sig i (.inr q)];exact a.fresh i (AI eP.next q)
def MQ(C:Ctx)(n:Nat)(σ:aY)(h:aq)(w:World)(df:List Deferred)(F:ar)(Q:Ex->bC->ar->bh->Prop):Exit->Act->World->Prop:=λex a' w'=>
 a'.defers=df/\∃x e' h' σ' k' F' aB,ex=x.to/\dL n e' k'/\fE σ' e' a'/\At C σ' h' w'/\St F' aB h'/\Ev σ h.get h.next w σ' h'.get h'.next w'/\ek h h'/\ar.le F F'/\Q x k' F' aB
def bl(C:Ctx)(P:Program)(n:Nat)(c:Code)(k:bC)(F:ar)(own:bh)(Q:Ex->bC->ar->bh->Prop):Prop:=
 ∀e h σ a w,dL n e k->St F own h->At C σ h w->fE σ e a->c.wp P (MQ C n σ h w a.defers F Q) a w
variable {k:bC}{F:ar}{own:bh}{A:Ex->bC->ar->bh->Prop}
theorem MQ.mono{σ:aY}{h:aq}{w:World}{df:List Deferred}{A B:Ex->bC->ar->bh->Prop}(hAB:∀x k' F' aB,ar.le F F'->A x k' F' aB->B x k' F' aB){ex:Exit}{a':Act}{w':World}
  (hq:MQ C n σ h w df F A ex a' w'):MQ C n σ h w df F B ex a' w':=by
 obtain⟨p1,x,e',h',σ',k',F',aB,p2,p3,p4,p5,p6,p7,p8,p9,p10⟩:=hq;exact⟨p1,x,e',h',σ',k',F',aB,p2,p3,p4,p5,p6,p7,p8,p9,hAB _ _ _ _ p9 p10⟩
theorem MQ.then{σ σ1:aY}{h h1:aq}{w w1:World}{df:List Deferred}{F1:ar}(ev:Ev σ h.get h.next w σ1 h1.get h1.next w1)(eP:ek h h1)(hF:ar.le F F1){ex:Exit}{a':Act}{w':World}
  (hq:MQ C n σ1 h1 w1 df F1 A ex a' w'):MQ C n σ h w df F A ex a' w':=by
 obtain⟨p1,x,e',h',σ',k',F',aB,p2,p3,p4,p5,p6,p7,p8,p9,p10⟩:=hq;exact⟨p1,x,e',h',σ',k',F',aB,p2,p3,p4,p5,p6,ev.trans p7 eP.next p8.next,eP.trans p8,hF.trans p9,p10⟩
theorem bl.mono{c:Code}{B:Ex->bC->ar->bh->Prop}(h:bl C P n c k F own A)(hAB:∀x k' F' aB,ar.le F F'->A x k' F' aB->B x k' F' aB):bl C P n c k F own B:=
 λe h0 σ a w h1 h2 h3 h4=>wp_mono (h e h0 σ a w h1 h2 h3 h4) λ_ _ _ q=>q.mono hAB
theorem bl.gC(ok:C.Ok P)(fok:bS C P){c:Code}(h:AW C n c k F own A):bl C P n c k F own A:=by
 intro e h0 σ a w hk hs hat he;obtain⟨x,e',h',k',F',aB,⟨m,hm⟩,hk',hF,hs',hq⟩:=h e h0 hk hs;have hx:=Ay ok fok m;have hrun:=hm m (AS _);have eP:=hx.eP _ _ _ _ _ _ hrun;refine wp_mono (hx.run _ _ _ _ _ _ hrun σ w a ⟨hs.wf,hat.gX,hat.lU,he,λi q _=>hat.fresh i q⟩) ?_;rintro ex a' w' ⟨rfl,hd,σ',r1,r2,r3⟩;exact⟨hd,x,e',h',σ',k',F',aB,rfl,hk',r1,hat.next eP r2 r3,hs',r3,eP,hF,hq⟩
theorem bl.seq{x y:Code}(h:bl C P n x k F own (m7 (λk' F' aB=>bl C P n y k' F' aB A) A)):bl C P n (.seq x y) k F own A:=by
 intro e h0 σ a w hk hs hat he;refine wp_seq (wp_mono (h e h0 σ a w hk hs hat he) ?_);rintro ex a1 w1 ⟨hd,x1,e1,h1,σ1,k1,F1,own1,rfl,p3,p4,p5,p6,p7,p8,p9,p10⟩;cases x1 with
 | normal=>
  show y.wp P _ a1 w1;refine wp_mono (p10 e1 h1 σ1 a1 w1 p3 p6 p5 p4) λex a' w' hh=>?_;rw[hd] at hh;exact hh.then p7 p8 p9
 | exit id=>exact⟨hd,_,e1,h1,σ1,k1,F1,own1,rfl,p3,p4,p5,p6,p7,p8,p9,p10⟩
 | ret=>exact⟨hd,_,e1,h1,σ1,k1,F1,own1,rfl,p3,p4,p5,p6,p7,p8,p9,p10⟩
theorem bl.cond{c:Operand}{x y:Code}{b:Bool}(hc:aW C k c=some (.bool b))(h1:b=true->bl C P n x k F own A)(h2:b=false->bl C P n y k F own A):bl C P n (.cond c x y) k F own A:=by
 intro e h0 σ a w hk hs hat he;have hop:=he.uR hat.gX;have hv:a.eval c=.bool b:=hop c _ (hk.eval c _ hc);cases b with
 | true=>exact wp_cond_true hv (h1 rfl e h0 σ a w hk hs hat he)
 | false=>exact wp_cond_false hv (h2 rfl e h0 σ a w hk hs hat he)
theorem bl.block{id:Nat}{x:Code}(h:bl C P n x k F own (fJ id A)):bl C P n (.block id x) k F own A:=by
 intro e h0 σ a w hk hs hat he;refine wp_block (wp_mono (h e h0 σ a w hk hs hat he) ?_);rintro ex a1 w1 ⟨hd,x1,e1,h1,σ1,k1,F1,own1,rfl,p3,p4,p5,p6,p7,p8,p9,p10⟩;cases x1 with
 | normal=>exact⟨hd,_,e1,h1,σ1,k1,F1,own1,rfl,p3,p4,p5,p6,p7,p8,p9,p10⟩
 | ret=>exact⟨hd,_,e1,h1,σ1,k1,F1,own1,rfl,p3,p4,p5,p6,p7,p8,p9,p10⟩
 | exit i=>
  simp only[Ex.to,Exit.inBlock];simp only[fJ] at p10;by_cases hi:i=id
  ·rw[By hi];have:(i==id)=true:=by simpa using hi
   rw[this] at p10;exact⟨hd,.normal,e1,h1,σ1,k1,F1,own1,rfl,p3,p4,p5,p6,p7,p8,p9,p10⟩
  ·rw[AT hi];have:(i==id)=false:=by simpa using hi
   rw[this] at p10;exact⟨hd,.exit i,e1,h1,σ1,k1,F1,own1,rfl,p3,p4,p5,p6,p7,p8,p9,p10⟩
theorem bl.loop{S:Type}{x:Code}(I:S->bC->ar->bh->Prop)(μ:S->Nat)(s0:S)(h0:I s0 k F own)
  (step:∀s k' F' aB,ar.le F F'->I s k' F' aB->bl C P n x k' F' aB (m7 (λk2 F2 own2=>∃s2,μ s2<μ s/\I s2 k2 F2 own2) A)):bl C P n (.loop x) k F own A:=by
 intro e h σ a w hk hs hat he;have key:∀(m:Nat) (s:S) e1 h1 σ1 a1 w1 k1 F1 own1,μ s=m->I s k1 F1 own1->dL n e1 k1->St F1 own1 h1->At C σ1 h1 w1->fE σ1 e1 a1->Ev σ h.get h.next w σ1 h1.get h1.next w1->ek h h1->ar.le F F1->a1.defers=a.defers->
   kg P x (MQ C n σ h w a.defers F A) a1 w1:=by
  intro m
  induction m using Nat.strongRecOn with
  | _ m ih=>
   intro s e1 h1 σ1 a1 w1 k1 F1 own1 hm hI hk1 hs1 hat1 he1 ev eP hF hd1;refine nX (wp_mono (step s k1 F1 own1 hF hI e1 h1 σ1 a1 w1 hk1 hs1 hat1 he1) ?_);rintro ex a2 w2 ⟨hd,x2,e2,h2,σ2,k2,F2,own2,rfl,p3,p4,p5,p6,p7,p8,p9,p10⟩;cases x2 with
   | normal=>
    obtain⟨s2,hlt,hI2⟩:=p10;exact ih (μ s2) (by omega) s2 e2 h2 σ2 a2 w2 k2 F2 own2 rfl hI2 p3 p6 p5 p4 (ev.trans p7 eP.next p8.next) (eP.trans p8) (hF.trans p9) (hd.trans hd1)
   | exit id=>exact⟨hd.trans hd1,_,e2,h2,σ2,k2,F2,own2,rfl,p3,p4,p5,p6,ev.trans p7 eP.next p8.next,eP.trans p8,hF.trans p9,p10⟩
   | ret=>exact⟨hd.trans hd1,_,e2,h2,σ2,k2,F2,own2,rfl,p3,p4,p5,p6,ev.trans p7 eP.next p8.next,eP.trans p8,hF.trans p9,p10⟩
 exact ky (key _ s0 e h σ a w k F own rfl h0 hk hs hat he (Ev.refl _ _ _ _) (ek.refl _) (ar.le.refl _) rfl)
def cJ(C:Ctx)(P:Program)(f:FuncId)(args:List Value)(F:ar)(oin:bh)(dn:ar->Value->bh->Prop):Prop:=
 ∀own h σ w args',St F (oin++own) h->At C σ h w->aJ σ args args'->Calls P f ⟨args'⟩ w λen w'=>
  ∃v' v h' σ' F' oout,en=.returned v'/\aL σ' v v'/\At C σ' h' w'/\St F' (oout++own) h'/\Ev σ h.get h.next w σ' h'.get h'.next w'/\ek h h'/\ar.le F F'/\dn F' v oout
theorem cJ.Kx(ok:C.Ok P)(fok:bS C P){f:FuncId}{args:List Value}{oin:bh}{dn:ar->Value->bh->Prop}(h:Spec C f args F oin dn):cJ C P f args F oin dn:=by
 intro own h0 σ w args' hs hat hr;obtain⟨v,h',F',oout,⟨m,hm⟩,hF,hs',hp⟩:=h own h0 hs;have hc:=nH ok fok m;have hrun:=hm m (AS _);have eP:=hc.eP _ _ _ _ _ hrun;refine(hc.run _ _ _ _ _ hrun hs.wf σ w args' hat.gX hat.lU hr λi q _=>hat.fresh i q).mono ?_;rintro en w' ⟨v',σ',rfl,p1,p2,p3⟩;exact⟨v',v,h',σ',F',oout,rfl,p1,hat.next eP p2 p3,hs',p3,eP,hF,hp⟩
theorem cJ.mono{f:FuncId}{args:List Value}{oin:bh}{dn Post':ar->Value->bh->Prop}(h:cJ C P f args F oin dn)(hp:∀F' v oout,ar.le F F'->dn F' v oout->Post' F' v oout):cJ C P f args F oin Post':=by
 intro own h0 σ w args' hs hat hr;refine(h own h0 σ w args' hs hat hr).mono ?_;rintro en w' ⟨v',v,h',σ',F',oout,p1,p2,p3,p4,p5,p6,p7,p8⟩;exact⟨v',v,h',σ',F',oout,p1,p2,p3,p4,p5,p6,p7,hp _ _ _ p7 p8⟩
theorem cJ.of(ok:C.Ok P){f:FuncId}{fn:Func}{c:Code}{args:List Value}{oin:bh}{dn:ar->Value->bh->Prop}(hf:C.func f=some fn)(hb:fn.body=some c)
  (h:∀own,bl C P (max fn.ntmps args.length) c (uF args 0) F (oin++own) (Ll C fn own dn)):cJ C P f args F oin dn:=by
 intro own h0 σ w args' hs hat hr;refine calls_of_wp (ok.func f fn hf) hb ?_;have henv:=Bt fn.ntmps hr;refine wp_mono (h own (mQ fn.ntmps args) h0 σ _ w (dL.args _ _) hs hat henv) ?_;rintro ex a1 w1 ⟨hd,x1,e1,h1,σ1,k1,F1,own1,rfl,p3,p4,p5,p6,p7,p8,p9,p10⟩;have fin:(∃vs oout,n7 C k1 own1 fn.results.toList vs/\(oout++own).Sublist own1/\dn F1 (ej vs) oout)->
   a1.defers=[]/\∃v,(results fn a1.tmps).run P w1=.ok v w1/\∃v' v_1 h' σ' F' oout,Ending.returned v=.returned v'/\aL σ' v_1 v'/\At C σ' h' w1/\St F' (oout++own) h'/\Ev σ h0.get h0.next w σ' h'.get h'.next w1/\ek h0 h'/\ar.le F F'/\dn F' v_1 oout:=by
  rintro⟨vs,oout,g1,g2,g3⟩;have hrs:=nO p3 p6 _ _ g1;obtain⟨v',q1,q2⟩:=uB ok p4 p5.lU hrs;exact⟨hd,v',q1,v',ej vs,h1,σ1,F1,oout,rfl,q2,p5,p6.sub g2,p7,p8,p9,g3⟩
 cases x1 with
 | normal=>exact fin p10
 | ret=>exact fin p10
 | exit id=>exact p10.elim
end
end Go.Abs
/-
 The second layer,operation by operation.
-/
set_option linter.unusedVariables false
namespace Go.Abs
open Go
section
variable {C:Ctx}{P:Program}{n:Nat}
theorem FN(ok:C.Ok P){cal:u0}(hcal:mU C P cal){ops:Array Oper}{Q:Exit->Act->World->Prop}{l2:List Nat}:∀(rest:List Oper) (l:List Nat) (e e':Env) (h h':aq) (σ:aY) (a:Act) (w:World),
  l.map (λi=>ops[i]?)=rest.map some->xP C cal ops.toList rest e h=some (e',h')->
  (∀i b,h.get i=some b->i<h.next)->oj C σ->cU σ h.get w->fE σ e a->(∀i,h.next<=i->i<h'.next->σ i=none)->
  (∀σ' a' w',fE σ' e' a'->a'.defers=a.defers->cU σ' h'.get w'->Ev σ h.get h.next w σ' h'.get h'.next w'->wpOps P ops Q l2 a' w')->wpOps P ops Q (l++l2) a w
 | [],l,e,e',h,h',σ,a,w,hl,q,hw,hg,s,he,hf,hQ=>by
  have:l=[]:=by simpa using hl
  subst this;cases q;exact hQ σ a w he rfl s (Ev.refl _ _ _ _)
 | o::rest,l,e,e',h,h',σ,a,w,hl,q,hw,hg,s,he,hf,hQ=>by
  cases l with
  | nil=>cases hl
  | cons i l=>
   simp only[JN,R1] at hl;unfold xP at q;split at q
   ·cases q
   ·rename_i e1 h1 hs;have hev1:=ob ok hcal hs;have hev2:=o7 ok hcal _ _ _ _ _ q;rw[T3,wpOps_cons];refine FP ok hcal hl.1 hs hw hg s he (λi h1 h2=>hf i h1 (SH h2 hev2.next)) ?_
    intro σ1 a1 w1 r1 r2 r3 r4;have hle:=r4.le (λi h1 h2=>hf i h1 (SH h2 hev2.next))
    refine FN ok hcal rest l e1 e' h1 h' σ1 a1 w1 hl.2 q (hev1.wf hw) (hg.mono hle) r3 r1 (λi h2 h3=>?_) ?_
    ·rw[r4.sig i (.inr h2)];exact hf i (AI hev1.next h2) h3
    ·intro σ2 a2 w2 r5 r6 r7 r8;exact hQ σ2 a2 w2 r5 (r6.trans r2) r7 (r4.trans r8 hev1.next hev2.next)
def er(C:Ctx)(P:Program)(n:Nat)(ops:Array Oper)(rest:List Oper)(k:bC)(F:ar)(own:bh)(Q:bC->ar->bh->Prop):Prop:=
 ∀e h σ a w (l l2:List Nat) (K:Exit->Act->World->Prop),l.map (λi=>ops[i]?)=rest.map some->dL n e k->St F own h->At C σ h w->fE σ e a->
  (∀e' h' σ' a' w' k' F' aB,dL n e' k'->St F' aB h'->At C σ' h' w'->fE σ' e' a'->a'.defers=a.defers->Ev σ h.get h.next w σ' h'.get h'.next w'->ek h h'->ar.le F F'->Q k' F' aB->
   wpOps P ops K l2 a' w')->wpOps P ops K (l++l2) a w
variable {ops:Array Oper}{rest:List Oper}{o:Oper}{k:bC}{F:ar}{own:bh}{Q:bC->ar->bh->Prop}
theorem er.nil(h:Q k F own):er C P n ops [] k F own Q:=by
 intro e h0 σ a w l l2 K hl hk hs hat he hK;have:l=[]:=by simpa using hl
 subst this;exact hK e h0 σ a w k F own hk hs hat he rfl (Ev.refl _ _ _ _) (ek.refl _) (ar.le.refl _) h
theorem er.app{pre:List Oper}(h:er C P n ops pre k F own λk' F' aB=>er C P n ops rest k' F' aB Q):er C P n ops (pre++rest) k F own Q:=by
 intro e h0 σ a w l l2 K hl hk hs hat he hK;obtain⟨x,y,rfl,hx,hy⟩:∃x y,l=x++y/\x.map (λi=>ops[i]?)=pre.map some/\y.map (λi=>ops[i]?)=rest.map some:=by
  refine⟨l.take pre.length,l.drop pre.length,(S2 _ _).symm,?_,?_⟩
  ·rw[List.map_take,hl,Si,U2 (by simp)]
  ·rw[List.map_drop,hl,Si,List.drop_left' (by simp)]
 rw[SL];refine h e h0 σ a w x (y++l2) K hx hk hs hat he ?_;intro e1 h1 σ1 a1 w1 k1 F1 own1 q1 q2 q3 q4 q5 q6 q7 q8 q9;refine q9 e1 h1 σ1 a1 w1 y l2 K hy q1 q2 q3 q4 ?_;intro e2 h2 σ2 a2 w2 k2 F2 own2 r1 r2 r3 r4 r5 r6 r7 r8 r9;exact hK e2 h2 σ2 a2 w2 k2 F2 own2 r1 r2 r3 r4 (r5.trans q5) (q6.trans r6 q7.next r7.next) (q7.trans r7) (q8.trans r8) r9
theorem er.rV(ok:C.Ok P)(fok:bS C P){pre:List Oper}(h:WT C n ops.toList pre k F own λk' F' aB _=>Q k' F' aB):er C P n ops pre k F own Q:=by
 intro e h0 σ a w l l2 K hl hk hs hat he hK;obtain⟨e',h',tr,k',F',aB,rs,⟨m,hm⟩,hk',hF,hs',ht,hq⟩:=h e h0 hk hs;have hrun:=jN _ _ _ _ _ _ (hm m (AS _));have hcal:=nH ok fok m;have eP:=o7 ok hcal _ _ _ _ _ hrun;refine FN ok hcal pre l e e' h0 h' σ a w hl hrun hs.wf hat.gX hat.lU he (λi q _=>hat.fresh i q) ?_;intro σ' a' w' r1 r2 r3 r4;exact hK e' h' σ' a' w' k' F' aB hk' hs' (hat.next eP r3 r4) r1 r2 r4 eP hF hq
theorem er.take(ok:C.Ok P)(fok:bS C P)(m:Nat)(h:WT C n ops.toList (rest.take m) k F own λk' F' aB _=>er C P n ops (rest.drop m) k' F' aB Q):er C P n ops rest k F own Q:=by
 have:=er.app (er.rV ok fok h)
 rwa [S2] at this
theorem er.call(ok:C.Ok P){f:FuncId}{args:List Value}{oin fr:bh}{dn:ar->Value->bh->Prop}(hw:aF ops.toList k o=some true)
  (hop:∀h,aN C (aW C k) h o.op=some (.call f args)) (spec:cJ C P f args F oin dn) (hperm:own.Perm (oin++fr))
  (h:∀F' v oout,ar.le F F'->dn F' v oout->er C P n ops rest (cu n k o.dst v) F' (oout++fr) Q):er C P n ops (o::rest) k F own Q:=by
 intro e h0 σ a w l l2 K hl hk hs hat he hK;cases l with
 | nil=>cases hl
 | cons i l=>
  simp only[JN,R1] at hl;rw[T3,wpOps_cons];unfold wpOp;rw[hl.1];simp only;rw[AM he (eC hk hw),By rfl];left;have hopd:=he.uR hat.gX;unfold Oper.wp;obtain⟨args',r1,r2⟩:=qE ok (dU hk.eval (hop h0)) hopd hat.lU;rw[r1];simp only[Oper.upon];refine(spec fr h0 σ w args' (hs.perm hperm) hat r2).mono ?_;rintro en w' ⟨v',v,h',σ',F',oout,rfl,p2,p3,p4,p5,p6,p7,p8⟩;have hle:=p5.le λi q1 q2=>hat.fresh i q1;have hd:(a.put o.dst v').defers=a.defers:=by cases o.dst<;>rfl
  refine h F' v oout p7 p8 (e.put o.dst v) h' σ' (a.put o.dst v') w' l l2 K hl.2 (hk.put o.dst v) p4 p3 ((he.mono hle).put p2) ?_;intro e2 h2 σ2 a2 w2 k2 F2 own2 s1 s2 s3 s4 s5 s6 s7 s8 s9;exact hK e2 h2 σ2 a2 w2 k2 F2 own2 s1 s2 s3 s4 (s5.trans hd) (p5.trans s6 p6.next s7.next) (p6.trans s7) (p7.trans s8) s9
theorem er.mono{Q':bC->ar->bh->Prop}(h:er C P n ops rest k F own Q)(hq:∀k' F' aB,ar.le F F'->Q k' F' aB->Q' k' F' aB):er C P n ops rest k F own Q':=by
 intro e h0 σ a w l l2 K hl hk hs hat he hK;exact h e h0 σ a w l l2 K hl hk hs hat he λe' h' σ' a' w' k' F' aB r1 r2 r3 r4 r5 r6 r7 r8 r9=>hK e' h' σ' a' w' k' F' aB r1 r2 r3 r4 r5 r6 r7 r8 (hq _ _ _ r8 r9)
theorem tB(ops:Array Oper):(List.range ops.size).map (λi=>ops[i]?)=ops.toList.map some:=by
 apply SA;intro i;simp only[RM];by_cases hi:i<ops.size
 ·rw[Tg hi];simp[hi]
 ·rw[R3 (by simp;omega),R3 (by simp;omega)];rfl
theorem bl.region{A:Ex->bC->ar->bh->Prop}{id:Nat}(h:er C P n ops ops.toList k F own λk' F' aB=>A .normal k' F' aB):bl C P n (.region id ops false) k F own A:=by
 intro e h0 σ a w hk hs hat he;refine wp_region ?_;rw[<-Sq (List.range ops.size)];refine h e h0 σ a w _ [] _ (tB ops) hk hs hat he ?_;intro e' h' σ' a' w' k' F' aB r1 r2 r3 r4 r5 r6 r7 r8 r9;exact⟨r5,.normal,e',h',σ',k',F',aB,rfl,r1,r4,r3,r2,r6,r7,r8,r9⟩
end
end Go.Abs
/-
 The second layer: a loop over a map,whichever way its order is drawn.
-/
set_option linter.unusedVariables false
namespace Go.Abs
open Go
section
variable {C:Ctx}{P:Program}{n:Nat}
theorem wG{ops:Array Oper}{o:Oper}{i:Nat}{a:Act}{w w':World}{s:Sem Value}{v:Value}{Q:Exit->Act->World->Prop}{K:Act->World->Prop}(hi:ops[i]?=some o)(hg:o.guard=none)
  (he:execOp a.eval o=(do pure (.value (<-s)))) (hr:s.run P w=.ok v w') (hK:K (a.put o.dst v) w'):wpOp P ops Q i K a w:=by
 unfold wpOp;rw[hi];simp only;have:Region.wanted o (yielded ops a.tmps)=true:=by unfold Region.wanted;rw[hg]
 rw[this,By rfl];left;unfold Oper.wp;have:(execOp a.eval o).run P w=.ok (.value v) w':=by
  rw[he];simp only[Sem.run_bind,hr,Result.andThen];rfl
 rw[this];exact hK
theorem cj.len{σ:aY}:∀{es:List (Value×Value)} {l:List MapEntry},cj σ es l->l.length=es.length
 | [],l,h=>by cases h;rfl
 | (k,v)::es,l,⟨e,r,q,_,_,h⟩=>by subst q;simp[cj.len h]
theorem rE:∀{es:List (Value×Value)} (m:Nat),(∀p∈es,cH p.1=false)->alive es=es/\stamps m es=List.range' m es.length
 | [],_,_=>⟨rfl,rfl⟩
 | (k,v)::es,m,h=>by
  have h0:cH k=false:=h (k,v) (RR ..);obtain⟨h1,h2⟩:=rE (m+1) λp hp=>h p (If _ hp);simp only[alive,stamps,h0,RO,h1,h2,R4,List.range'_succ,and_self]
def aq.bump(h:aq):aq:={ h with next:=h.next+1 }
theorem ek.bump(h:aq):ek h h.bump:=⟨Nat.le_succ _,λ_ _ e=>e,λ_ _ e _=>e,λw i b q=>Nat.lt_succ_of_lt (w i b q)⟩
structure xW(σ:aY)(h:aq)(w:World)(ii:Nat)(L:Loc)(it:Obj):Prop where
 lt:ii<h.next
 loc:σ ii=some L
 off:L.off=0
 obj:w.heap[L.bu]?=some it
 apart:∀i B l,h.get i=some B->σ i=some l->l.bu≠L.bu
theorem xW.next{σ σ':aY}{h h':aq}{w w':World}{ii:Nat}{L:Loc}{it:Obj}(t:xW σ h w ii L it)(wf:∀i b,h.get i=some b->i<h.next)(ev:Ev σ h.get h.next w σ' h'.get h'.next w')(eP:ek h h'):xW σ' h' w' ii L it where
 lt:=SH t.lt eP.next
 loc:=by rw[ev.sig _ (.inl t.lt)];exact t.loc
 off:=t.off
 obj:=by
  rw[ev.mg L.bu (RV.1 t.obj).1 λi B l q1 _ q3=>t.apart i B l q1 q3];exact t.obj
 apart:=λi B l q1 q2=>by
  cases hr:B.ro with
  | true=>
   have q:=eP.ro i B q1 hr;rw[ev.sig i (.inl (wf i B q))] at q2;exact t.apart i B l q q2
  | false=>
   have hL:=(RV.1 t.obj).1;rcases ev.own i B l q1 hr q2 with h1 | ⟨j,D,m,h1,_,h3,h4⟩
   ·omega
   ·rw[<-h4];exact t.apart j D m h1 h3
theorem xW.turn{σ:aY}{h:aq}{w w1:World}{ii:Nat}{L:Loc}{it:Obj}(t:xW σ h w ii L it)(hw:w1=w\/w1=w.drew)(s:cU σ h.get w)(it':Obj) :
  cU σ h.get (Go.ChangeMaps.setBlock w1 L.bu it')/\xW σ h (Go.ChangeMaps.setBlock w1 L.bu it') ii L it'/\
  (∀σ0 g0 n0 w0,w0.heap.size<=L.bu->Ev σ0 g0 n0 w0 σ h.get h.next w->Ev σ0 g0 n0 w0 σ h.get h.next (Go.ChangeMaps.setBlock w1 L.bu it'))/\
  ∀b,b≠L.bu->(Go.ChangeMaps.setBlock w1 L.bu it').heap[b]?=w.heap[b]?:=by
 have hL:=(RV.1 t.obj).1;have hh:(Go.ChangeMaps.setBlock w1 L.bu it').heap=w.heap.setIfInBounds L.bu it':=by rcases hw with rfl | rfl<;>rfl
 have ho:(Go.ChangeMaps.setBlock w1 L.bu it').os=w.os:=by rcases hw with rfl | rfl<;>rfl
 have hu:(Go.ChangeMaps.setBlock w1 L.bu it').output=w.output:=by rcases hw with rfl | rfl<;>rfl
 have ht:(Go.ChangeMaps.setBlock w1 L.bu it').tape=w.tape:=by rcases hw with rfl | rfl<;>rfl
 generalize Go.ChangeMaps.setBlock w1 L.bu it'=w2 at *;have ne:∀b,b≠L.bu->w2.heap[b]?=w.heap[b]?:=λb hb=>by rw[hh,Sz (Ne.symm hb)]
 refine⟨⟨λi B q=>?_,s.inj⟩,⟨t.lt,t.loc,t.off,?_,t.apart⟩,λσ0 g0 n0 w0 h1 ev=>⟨?_,ho.trans ev.os,hu.trans ev.out,ht.trans ev.tape,λb hb hn=>?_,ev.own,ev.sig⟩,ne⟩
 ·obtain⟨l,x,y⟩:=s.bu i B q;exact⟨l,x,y.world (ne _ (t.apart i B l q x))⟩
 ·rw[hh];simp[hL]
 ·rw[hh,Array.size_setIfInBounds];exact ev.size
 ·rw[ne b (by omega)];exact ev.mg b hb hn
theorem xW.new{σ:aY}{h:aq}{w:World}(hw:∀i b,h.get i=some b->i<h.next)(t:At C σ h w)(it:Obj) :
  At C (dg σ h.next (some ⟨w.heap.size,0,0⟩)) h.bump (w.alloc it)/\xW (dg σ h.next (some ⟨w.heap.size,0,0⟩)) h.bump (w.alloc it) h.next ⟨w.heap.size,0,0⟩ it/\
  Ev σ h.get h.next w (dg σ h.next (some ⟨w.heap.size,0,0⟩)) h.bump.get h.bump.next (w.alloc it):=by
 have hid:σ h.next=none:=t.fresh _ (AS _)
 have hle:aY.le σ (dg σ h.next (some ⟨w.heap.size,0,0⟩)):=aY.lW hid
 have hold:∀b,b<w.heap.size->(w.alloc it).heap[b]?=w.heap[b]?:=λb hb=>heap_alloc_old w it hb;have hsig:∀i B,h.get i=some B->dg σ h.next (some ⟨w.heap.size,0,0⟩) i=σ i:=λi B q=>cl _ _ (by have:=hw i B q;omega)
 refine⟨⟨t.gX.mono hle,⟨λi B q=>?_,λi j B D li lj q1 q2 q3 q4 q5 q6=>?_⟩,λi q=>?_⟩,⟨Td _,bL _ _ _,rfl,heap_alloc_new w it,λi B l q1 q2=>?_⟩,⟨?_,rfl,rfl,rfl,λb hb _=>hold b hb,λi B l q1 q2 q3=>?_,λi q=>?_⟩⟩
 ·obtain⟨l,x,y⟩:=t.lU.bu i B q;exact⟨l,hle _ _ x,(y.mono hle).world (hold _ y.lt)⟩
 ·rw[hsig i B q1] at q5;rw[hsig j D q2] at q6;exact t.lU.inj i j B D li lj q1 q2 q3 q4 q5 q6
 ·have q':h.next+1<=i:=q
  rw[cl _ _ (by omega)];exact t.fresh i (by omega)
 ·rw[hsig i B q1] at q2;obtain⟨l',x,y⟩:=t.lU.bu i B q1;rw[x] at q2;cases q2;have:=y.lt;show l.bu≠w.heap.size;omega
 ·show w.heap.size<=(w.heap.push it).size;simp
 ·rw[hsig i B q1] at q3;exact .inr ⟨i,B,l,q1,q2,q3,rfl⟩
 ·have q':i<h.next\/h.next+1<=i:=q
  rw[cl _ _ (by omega)]
end
end Go.Abs
/-
 The second layer: the loop's rule.
-/
set_option linter.unusedVariables false
namespace Go.Abs
open Go
section
variable {C:Ctx}{P:Program}{n:Nat}
structure CM(C:Ctx)(P:Program)(n:Nat)(tm tR tN tx tE b':Nat)(xo:Operand)(ops3:Array Oper)(rest:List Oper)(body:Code)(A:Ex->bC->ar->bh->Prop)
  (mi:Nat) (es:List (Value×Value)) (I:Nat->List Nat->bC->ar->bh->Prop) (k:bC) (F:ar) (own:bh):Prop where
 map:aW C k xo=some (.map (some mi))
 type:∃kt et,C.gZ tm=some (.map kt et)
 plain:∀p∈es,cH p.1=false
 start:∀ii,I ii [] (cu n k (some tR) (.pointer (some ⟨ii,0,none⟩))) F own
 slot:∀ii seen k' F' aB,I ii seen k' F' aB->lk k' tR=some (.pointer (some ⟨ii,0,none⟩))
 here:∀ii seen k' F' aB,I ii seen k' F' aB->∀h,St F' aB h->h.get mi=some (.map es)
 step:∀ii seen k' F' aB,ar.le F F'->I ii seen k' F' aB->∀i p,es[i]?=some p->i∉seen->
  er C P n ops3 rest (cu n (cu n (cu n k' (some tN) (.tuple ⟨[.bool true,p.1,p.2]⟩)) (some tx) (.bool true)) (some tE) (.tuple ⟨[p.1,p.2]⟩)) F' aB λk3 F3 own3=>
   bl C P n body k3 F3 own3 (fJ b' λx k4 F4 own4=>x=.normal/\I ii (i::seen) k4 F4 own4)
 done:∀ii seen k' F' aB,ar.le F F'->I ii seen k' F' aB->(∀i,i<es.length->i∈seen)->∃k2 own2,bI k2 (cu n (cu n k' (some tN) (.tuple ⟨[.bool false]⟩)) (some tx) (.bool false))/\ah own2 aB/\A .normal k2 F' own2
theorem AD{k:bC}{t:Nat}{v:Value}(ht:Nat.blt t n=true):lk (cu n k (some t) v) t=some v:=by
 simp only[cu,ht,RH,lk,Tx]
theorem bl.rangeMap(ok:C.Ok P)(fok:bS C P){k:bC}{F:ar}{own:bh}{A:Ex->bC->ar->bh->Prop}{r1 r2 r3 b b' tm tR tN tx tE:Nat}{ops1:Array Oper}(pre:List Oper){rest:List Oper}{oR oN oX oE:Oper}{body:Code}{xo:Operand}
  (h1:ops1.toList=pre++[oR]) (hoR:oR.op=.range tm xo) (hdR:oR.dst=some tR) (hgR:oR.guard=none)
  (hoN:oN.op=.next (.tmp tR) false) (hdN:oN.dst=some tN) (hgN:oN.guard=none)
  (hoX:oX.op=.extract (.tmp tN) 0) (hdX:oX.dst=some tx) (hgX:oX.guard=none)
  (hoE:oE.op=.entry (.tmp tR)) (hdE:oE.dst=some tE) (hgE:oE.guard=none)
  (hn:(Nat.blt tR n&&Nat.blt tN n&&Nat.blt tx n&&Nat.blt tE n)=true)
  (hne:(Nat.beq tN tR||Nat.beq tx tR)=false)
  (hpre:er C P n ops1 pre k F own λk1 F1 own1=>∃mi es I,CM C P n tm tR tN tx tE b' xo ⟨oE::rest⟩ rest body A mi es I k1 F1 own1) :
  bl C P n (.seq (.region r1 ops1 false) (.block b (.loop (.seq (.region r2 ⟨[oN,oX]⟩ false) (.seq (.cond (.tmp tx) .skip (.exit b)) (.block b' (.seq (.region r3 ⟨oE::rest⟩ false) body))))))) k F own A:=by
 simp only[IN] at hn;obtain⟨⟨⟨hnR,hnN⟩,hnx⟩,hnE⟩:=hn;simp only[TU] at hne;obtain⟨hneN,hnex⟩:=hne;intro e h σ a w hk hs hat he;refine wp_seq (wp_region ?_);have hr:=tB ops1;rw[h1,Si] at hr;obtain⟨x,y,hxy,hx,hy⟩:∃x y,List.range ops1.size=x++y/\x.map (λi=>ops1[i]?)=pre.map some/\y.map (λi=>ops1[i]?)=[oR].map some:=by
  refine⟨(List.range ops1.size).take pre.length,(List.range ops1.size).drop pre.length,(S2 _ _).symm,?_,?_⟩
  ·rw[List.map_take,hr,U2 (by simp)]
  ·rw[List.map_drop,hr,List.drop_left' (by simp)]
 rw[hxy];refine hpre e h σ a w x y _ hx hk hs hat he ?_;intro e1 hp1 σ1 a1 w1 k1 F1 own1 q1 q2 q3 q4 q5 q6 q7 q8 ⟨mi,es,I,R⟩;obtain⟨iR,rfl,hiR⟩:∃i,y=[i]/\ops1[i]?=some oR:=by
  cases y with
  | nil=>cases hy
  | cons i y=>
   cases y with
   | nil=>exact⟨i,rfl,by simpa using hy⟩
   | cons j y=>simp at hy
 rw[wpOps_cons];obtain⟨kt,et,hty⟩:=R.type;have hx1:=(q4.uR q3.gX) xo _ (q1.eval xo _ R.map);obtain⟨lm,hlm,hxv⟩:∃l,σ1 mi=some l/\a1.eval xo=.map (some l.bu):=hx1;have hmi:=R.here 0 [] _ _ _ (R.start 0) hp1 q2;have pQ:∀{σ3:aY} {h3:aq} {w3:World},cU σ3 h3.get w3->σ3 mi=some lm->h3.get mi=some (.map es)->∃es',w3.heap[lm.bu]?=some (.map es' es.length)/\cj σ3 es es'.toList/\es'.toList.map (·.born)=List.range es.length:=by
  intro σ3 h3 w3 s hl hm;obtain⟨l,x1,es',x2,x3,x4⟩:=s.bu mi _ hm;rw[hl] at x1;cases x1;obtain⟨z1,z2⟩:=rE 0 R.plain;rw[z1] at x3;rw[z2,<-List.range_eq_range'] at x4;exact⟨es',x2,x3,x4⟩
 obtain⟨es0,hm0,_,_⟩:=pQ q3.lU hlm hmi;refine wG hiR hgR (by unfold execOp;rw[hoR]) (by rw[hxv];exact run_range_map w1 tm kt et lm.bu es0 es.length (aD ok hty) hm0) ?_;obtain⟨at2,it2,ev2⟩:=xW.new q2.wf q3 (.mapIter (some lm.bu) es.length #[] es.length);show (Code.block b _).wp P _ _ _;refine wp_block (ky ?_);have hL0:w.heap.size<=w1.heap.size:=q6.size;have hwf2:∀i b,hp1.bump.get i=some b->i<hp1.bump.next:=(ek.bump hp1).wf q2.wf
 have q2':jJ F1 own1.flatten hp1:=q2;have hst2:St F1 own1 hp1.bump:=jJ.mk q2'.uz q2'.has q2'.apart q2'.nodup hwf2;have hmlt:mi<hp1.next:=q2.wf mi _ hmi
 have key:∀(m:Nat) (seen:List Nat) (seenA:Array Nat) e3 h3 σ3 a3 w3 k3 F3 own3,es.length-seen.length=m->seenA.toList.reverse=seen->seen.Nodup->(∀i∈seen,i<es.length)->
   I hp1.next seen k3 F3 own3->dL n e3 k3->St F3 own3 h3->At C σ3 h3 w3->fE σ3 e3 a3->Ev σ h.get h.next w σ3 h3.get h3.next w3->ek h h3->ar.le F1 F3->a3.defers=a.defers->
   xW σ3 h3 w3 hp1.next ⟨w1.heap.size,0,0⟩ (.mapIter (some lm.bu) es.length seenA es.length)->σ3 mi=some lm->mi<h3.next->
   kg P (.seq (.region r2 ⟨[oN,oX]⟩ false) (.seq (.cond (.tmp tx) .skip (.exit b)) (.block b' (.seq (.region r3 ⟨oE::rest⟩ false) body)))) (Exit.inBlock b (MQ C n σ h w a.defers F A)) a3 w3:=by
  intro m
  induction m using Nat.strongRecOn with
  | _ m ih=>
  intro seen seenA e3 h3 σ3 a3 w3 k3 F3 own3 hm hsA hnd hsl hI hk3 hs3 hat3 he3 ev3 hev3 hF3 hd3 it3 hmi3 hml3;have hm3:=R.here _ _ _ _ _ hI h3 hs3;obtain⟨es',hmw,hER,hborn⟩:=pQ hat3.lU hmi3 hm3;have hlen':=hER.len;have hbl:∀x∈es'.toList,x.born<es.length:=λx hx=>by
   have:x.born∈es'.toList.map (·.born):=RI.2 ⟨x,hx,rfl⟩;rw[hborn] at this;exact RQ.1 this
  have hitv:a3.eval (.tmp tR)=.pointer (some ⟨w1.heap.size,0,none⟩):=by
   obtain⟨l,x1,_,x3⟩:=(he3.uR hat3.gX) (.tmp tR) _ (hk3.eval (.tmp tR) _ (R.slot _ _ _ _ _ hI));rw[it3.loc] at x1;cases x1;exact x3
  refine nX (wp_seq (wp_region ?_));show wpOps P ⟨[oN,oX]⟩ _ [0,1] a3 w3;rw[wpOps_cons];have after:∀(bb:Bool) (vs:List Value) (v':Value) (w4:World) (K:Exit->Act->World->Prop),aL σ3 (.tuple ⟨.bool bb::vs⟩) v'->At C σ3 h3 w4->
    (∀e5 a5,dL n e5 (cu n (cu n k3 (some tN) (.tuple ⟨.bool bb::vs⟩)) (some tx) (.bool bb))->fE σ3 e5 a5->a5.defers=a.defers->K .normal a5 w4)->
    wpOps P ⟨[oN,oX]⟩ K [1] (a3.put (some tN) v') w4:=by
   intro bb vs v' w4 K hv hat4 hK;have he4:=he3.put (d:=some tN) hv;have hk4:=hk3.put (some tN) (.tuple ⟨.bool bb::vs⟩);rw[wpOps_cons];have hX:(execOp (a3.put (some tN) v').eval oX)=(do pure (.value (<-Instr.extract ((a3.put (some tN) v').eval (.tmp tN)) 0))):=by unfold execOp;rw[hoX]
   obtain⟨cs',eP,hcs⟩:=(he4.uR hat4.gX) (.tmp tN) _ (hk4.eval (.tmp tN) _ (AD hnN));obtain⟨c0,cs2,rfl,hc0,_⟩:=hcs;have hc0:c0=.bool bb:=hc0;subst hc0;refine wG (i:=1) (o:=oX) rfl hgX hX (by rw[eP];rfl) ?_;have he5:=he4.put (d:=some tx) (show aL σ3 (.bool bb) (.bool bb) from rfl);rw[hdX];exact hK _ _ (hk4.put (some tx) (.bool bb)) he5 hd3
  have hN:execOp a3.eval oN=(do pure (.value (<-Instr.next (a3.eval (.tmp tR)) false oN.type))):=by unfold execOp;rw[hoN]
  rcases run_next_at (P:=P) w3 oN.type w1.heap.size lm.bu es.length es.length seenA es' es.length it3.obj hmw hbl (AS _) with ⟨h0,hrun⟩ | ⟨en,hen,w4,hw4,hrun⟩
  ·
   refine wG (i:=0) (o:=oN) rfl hgN hN (by rw[hitv];exact hrun) ?_;rw[hdN];refine after false [] _ w3 _ ⟨_,rfl,⟨_,_,rfl,rfl,rfl⟩⟩ hat3 λe5 a5 hk5 he5 hd5=>?_;show (Code.seq _ _).wp P _ a5 w3;refine wp_seq ?_;have hcv:a5.eval (.tmp tx)=.bool false:=(he5.uR hat3.gX) (.tmp tx) _ (hk5.eval (.tmp tx) _ (AD hnx));refine wp_cond_false hcv (wp_exit ?_);show Exit.inBlock b _ (.exit b) a5 w3;simp only[Exit.inBlock,SU];have hall:∀i,i<es.length->i∈seen:=λi hi=>by
    have hin:i∈es'.toList.map (·.born):=by rw[hborn];exact RQ.2 hi
    obtain⟨x,hx,rfl⟩:=RI.1 hin;have:=all_seen es' seenA h0 x hx;rw[<-hsA,List.mem_reverse];exact SS.2 (Array.contains_iff_mem.1 this)
   obtain⟨kE,ownE,hkE,hoE',hA⟩:=R.done _ seen _ _ _ hF3 hI hall;exact⟨hd5,.normal,e5,h3,σ3,kE,F3,ownE,rfl,hk5.weaken hkE,he5,hat3,hs3.le hoE',ev3,hev3,q8.trans hF3,hA⟩
  ·
   have hen':en∈es'.toList/\seenA.contains en.born=false:=by
    unfold leftOf at hen;have:=SS.1 hen;rw[Array.mem_filter] at this;exact⟨SS.2 this.1,by simpa using this.2⟩
   obtain⟨j,hj,hjE⟩:=SJ hen'.1;have hbj:en.born=j:=by
    have h5:(es'.toList.map (·.born))[j]?=some en.born:=by rw[RM,Sh hj,hjE];rfl
    rw[hborn,Tg (by omega)] at h5;exact(BY h5).symm
   have hjl:j<es.length:=by omega
   obtain⟨e9,hg9,hkv,hvv⟩:=hER.get j (es[j]).1 (es[j]).2 (by rw[Sh hjl]);rw[Sh hj,hjE] at hg9;cases hg9;have hns:j∉seen:=by
    intro hin;rw[<-hsA,List.mem_reverse] at hin;have:=hen'.2;rw[hbj] at this;rw[Array.contains_iff_mem.2 (SS.1 hin)] at this;cases this
   obtain⟨s4,it4,evt,hw5⟩:=it3.turn hw4 hat3.lU (.mapIter (some lm.bu) es.length (seenA.push en.born) es.length);have hat4:At C σ3 h3 (Go.ChangeMaps.setBlock w4 w1.heap.size (.mapIter (some lm.bu) es.length (seenA.push en.born) es.length)):=⟨hat3.gX,s4,hat3.fresh⟩;have ev4:=evt σ h.get h.next w hL0 ev3
   refine wG (i:=0) (o:=oN) rfl hgN hN (by rw[hitv];exact hrun) ?_;rw[hdN];generalize Go.ChangeMaps.setBlock w4 w1.heap.size (.mapIter (some lm.bu) es.length (seenA.push en.born) es.length)=w5 at *;refine after true [(es[j]).1,(es[j]).2] _ w5 _ ⟨_,rfl,⟨_,_,rfl,rfl,⟨_,_,rfl,hkv,⟨_,_,rfl,hvv,rfl⟩⟩⟩⟩ hat4 λe5 a5 hk5 he5 hd5=>?_;show (Code.seq _ _).wp P _ a5 w5;refine wp_seq ?_;have hcv:a5.eval (.tmp tx)=.bool true:=(he5.uR hat4.gX) (.tmp tx) _ (hk5.eval (.tmp tx) _ (AD hnx));refine wp_cond_true hcv (wp_skip ?_);show (Code.block b' _).wp P _ a5 w5
   refine wp_block (wp_seq (wp_region ?_));have hr3:=tB ⟨oE::rest⟩;obtain⟨i0,l3,hr3e,hi0,hl3⟩:∃i l,List.range (Array.size ⟨oE::rest⟩)=i::l/\(⟨oE::rest⟩:Array Oper)[i]?=some oE/\l.map (λi=>(⟨oE::rest⟩:Array Oper)[i]?)=rest.map some:=by
    cases hl:List.range (Array.size ⟨oE::rest⟩) with
    | nil=>rw[hl] at hr3;cases hr3
    | cons i l=>
     rw[hl] at hr3;simp only[JN,R1] at hr3;exact⟨i,l,rfl,hr3.1,hr3.2⟩
   rw[hr3e,wpOps_cons];obtain⟨es5,hm5,hER5,hborn5⟩:=pQ s4 hmi3 hm3;have hsame:es5=es':=by
    have hne:lm.bu≠w1.heap.size:=it3.apart mi _ lm hm3 hmi3;rw[hw5 _ hne,hmw] at hm5;cases hm5;rfl
   subst hsame;have hitv5:a5.eval (.tmp tR)=.pointer (some ⟨w1.heap.size,0,none⟩):=by
    have hlk:lk (cu n (cu n k3 (some tN) (.tuple ⟨[.bool true,(es[j]).1,(es[j]).2]⟩)) (some tx) (.bool true)) tR=some (.pointer (some ⟨hp1.next,0,none⟩)):=by
     simp only[cu,hnN,hnx,RH,lk,hneN,hnex,RO];exact R.slot _ _ _ _ _ hI
    obtain⟨l,x1,_,x3⟩:=(he5.uR hat4.gX) (.tmp tR) _ (hk5.eval (.tmp tR) _ hlk);rw[it3.loc] at x1;cases x1;exact x3
   have hE:execOp a5.eval oE=(do pure (.value (<-Instr.entry (a5.eval (.tmp tR))))):=by unfold execOp;rw[hoE]
   have hnod:(es5.toList.map (·.born)).Nodup:=by rw[hborn];exact UA
   refine wG hi0 hgE hE (by rw[hitv5];exact run_entry_at w5 w1.heap.size lm.bu es.length seenA es5 es.length en it4.obj hm5 hen'.1 hnod) ?_;have he6:=he5.put (d:=oE.dst) (show aL σ3 (.tuple ⟨[(es[j]).1,(es[j]).2]⟩) (.tuple #[en.key,en.val]) from ⟨_,rfl,⟨_,_,rfl,hkv,⟨_,_,rfl,hvv,rfl⟩⟩⟩);have hk6:=hk5.put oE.dst (.tuple ⟨[(es[j]).1,(es[j]).2]⟩);have hst:=R.step _ seen k3 F3 own3 hF3 hI j (es[j]) (Sh hjl) hns;rw[<-Sq l3];rw[hdE] at he6 hk6;rw[hdE];refine hst _ h3 σ3 _ w5 l3 [] _ hl3 hk6 hs3 hat4 he6 ?_
   intro e7 h7 σ7 a7 w7 k7 F7 own7 u1 u2 u3 u4 u5 u6 u7 u8 u9;show body.wp P _ a7 w7;refine wp_mono (u9 e7 h7 σ7 a7 w7 u1 u2 u3 u4) ?_;rintro ex a8 w8 ⟨hd8,x8,e8,h8,σ8,k8,F8,own8,rfl,p3,p4,p5,p6,p7,p8,p9,p10⟩;have hev58:Ev σ3 h3.get h3.next w5 σ8 h8.get h8.next w8:=u6.trans p7 u7.next p8.next
   have hhe58:ek h3 h8:=u7.trans p8;have go:I hp1.next (j::seen) k8 F8 own8->kg P (.seq (.region r2 ⟨[oN,oX]⟩ false) (.seq (.cond (.tmp tx) .skip (.exit b)) (.block b' (.seq (.region r3 ⟨oE::rest⟩ false) body)))) (Exit.inBlock b (MQ C n σ h w a.defers F A)) a8 w8:=by
    intro hI8;have hsl8:∀i∈j::seen,i<es.length:=λi hi=>by
     rcases R0.1 hi with rfl | hi
     ·exact hjl
     ·exact hsl i hi
    have hnd8:(j::seen).Nodup:=SM.2 ⟨hns,hnd⟩;have hlt8:(j::seen).length<=es.length:=by
     have:=TV hnd8 (l₂:=List.range es.length) (λi hi=>RQ.2 (hsl8 i hi));simpa using this
    simp only[R4] at hlt8;refine ih (es.length-(j::seen).length) (by simp only[R4];omega) (j::seen) (seenA.push en.born) e8 h8 σ8 a8 w8 k8 F8 own8 rfl ?_ hnd8 hsl8 hI8 p3 p6 p5 p4 ?_ (hev3.trans hhe58) ((hF3.trans u8).trans p9) (hd8.trans (u5.trans hd5)) (it4.next hs3.wf hev58 hhe58) ?_ (SH hml3 hhe58.next)
    ·rw[Ut,List.reverse_append,hsA,hbj];rfl
    ·exact ev4.trans hev58 hev3.next hhe58.next
    ·rw[hev58.sig mi (.inl hml3)];exact hmi3
   cases x8 with
   | normal=>
    simp only[fJ] at p10;exact go p10.2
   | ret=>
    simp only[fJ] at p10;cases p10.1
   | exit i=>
    simp only[fJ] at p10;simp only[Ex.to];by_cases hi:i=b'
    ·have:(i==b')=true:=by simpa using hi
     rw[this] at p10;subst hi;show Exit.inBlock i _ (.exit i) a8 w8;simp only[Exit.inBlock,SU];exact go p10.2
    ·have:(i==b')=false:=by simpa using hi
     rw[this] at p10;cases p10.1
 rw[hdR];refine key _ [] #[] _ hp1.bump _ _ _ _ F1 own1 rfl rfl T7 (λ_ h=>by cases h) (R.start hp1.next) (q1.put (some tR) _) hst2 at2 ?_ (q6.trans ev2 q7.next (ek.bump hp1).next) (q7.trans (ek.bump hp1)) (ar.le.refl _) ?_ it2 ?_ (Nat.lt_succ_of_lt hmlt)
 ·exact(q4.mono (aY.lW (q3.fresh _ (AS _)))).put (d:=some tR) ⟨_,bL _ _ _,rfl,rfl⟩
 ·exact q5
 ·rw[cl _ _ (by omega)];exact hlm
end
end Go.Abs
/-
 The second layer: a region whose order is open and whose last operation is a call told by the model,behind all others.
-/
set_option linter.unusedVariables false
namespace Go.Abs
open Go
section
variable {C:Ctx}{P:Program}{n:Nat}
theorem Oper.Lg{o:Oper}{a:Act}{w:World}{K K':Act->World->Prop}{Q Q':Exit->Act->World->Prop}(h:∀a w,K a w->K' a w)(hq:∀ex a w,ex≠.normal->Q ex a w->Q' ex a w)
  (hh:o.wp P a w K Q):o.wp P a w K' Q':=by
 unfold Oper.wp at *;generalize (execOp a.eval o).run P w=r at *;have hl:LetsOut Q->LetsOut Q':=λ⟨a,w,q⟩=>⟨a,w,hq _ a w (by simp) q⟩;cases r with
 | ok n w'=>
  cases n<;>simp only[Oper.upon] at hh ⊢<;>
   first
    | exact h _ _ hh
    | exact Calls.mono hh (λe w'' he=>by cases e<;>first | exact h _ _ he | exact hq _ _ _ (by simp) he | exact hl he)
    | exact Rows.mono hh (λ_ _ he=>h _ _ he)
 | halt x w'=>cases x<;>simp only[Oper.upon] at hh ⊢<;>first | exact hh | exact hq _ _ _ (by simp) hh
theorem Gv{ops ops':Array Oper}{i:Nat}{a:Act}{w:World}{K K':Act->World->Prop}{Q Q':Exit->Act->World->Prop}(ho:ops[i]?=ops'[i]?)(hg:∀o,ops[i]?=some o->o.guard=none)
  (h:∀a w,K a w->K' a w) (hq:∀ex a w,ex≠.normal->Q ex a w->Q' ex a w) (hh:wpOp P ops Q i K a w):wpOp P ops' Q' i K' a w:=by
 unfold wpOp at *;rw[<-ho];cases hi:ops[i]? with
 | none=>rw[hi] at hh;exact h _ _ hh
 | some o=>
  rw[hi] at hh;simp only at hh ⊢;have wn:∀y,Region.wanted o y=true:=λy=>by unfold Region.wanted;rw[hg o hi]
  rw[wn,By rfl] at hh ⊢;exact hh.imp (Oper.Lg h hq) λ⟨x,y⟩=>⟨x,let ⟨a,w,q⟩:=y;⟨a,w,hq _ a w (by simp) q⟩⟩
theorem EM(ok:C.Ok P){cal:u0}(hcal:mU C P cal){ops:Array Oper}{e e':Env}{h h':aq}{tr:List xH}(ht:iQ C cal ops.toList ops.toList e h=some (e',h',tr))(hd:mf ops.toList=true)(hcl:ez ops.toList (bp [] ops.toList) tr=true)
  {σ:aY} {a:Act} {w:World} (hw:∀i b,h.get i=some b->i<h.next) (hg:oj C σ) (s:cU σ h.get w) (he:fE σ e a) (hf:∀i,h.next<=i->i<h'.next->σ i=none)
  {Q:Exit->Act->World->Prop} (hQ:∀σ' a' w',fE σ' e' a'->a'.defers=a.defers->cU σ' h'.get w'->Ev σ h.get h.next w σ' h'.get h'.next w'->Q .normal a' w') :
  wpAny P .any ops Q ops.size (Array.replicate ops.size false) a { w with drawn:=w.drawn+1 }:=by
 obtain⟨es,hs,rfl,rfl,rfl,rfl,hst⟩:=mH ops.toList _ _ _ _ _ ht;simp only[T2] at *;have d:cP C P cal ops es hs tr:=⟨ok,hcal,λj o ho=>hst j o (by simpa using ho),hw,hd,hcl⟩;have hfalse:∀j,(Array.replicate ops.size false).getD j false=false:=by
  intro j;rw[RX];by_cases hj:j<ops.size
  ·simp[hj]
  ·simp[hj]
 have hDf:(λj=>(Array.replicate ops.size false).getD j false=true)=λ_=>False:=by
  funext j;rw[hfalse];simp
 have hG0:G hs (λ_=>False) ops.size=(hs 0).get:=by
  funext x;rw[mr (i:=0) (R6 _) (λk _ _ hh=>hh.1)];rfl
 have hV0:∀t,V ops es (λ_=>False) ops.size t=(es 0).get t:=λt=>by
  rw[qV (i:=0) (R6 _) (λk _ _ hh=>hh.1)];rfl
 refine yR d (σ0:=σ) (w0:=w) (df:=a.defers) hQ ops.size _ σ a _ (by simp) ?_ ?_ ?_
 ·have:∀k,left (Array.replicate ops.size false) k=k:=by
   intro k
   induction k with
   | zero=>rfl
   | succ k ih=>unfold left;rw[ih,hfalse];simp
  rw[this];exact AS _
 ·intro j o hj;rw[hfalse] at hj;cases hj
 ·rw[hDf];refine⟨hg,?_,he.size,λt v hv=>he.rel t v (by rw[<-hV0 t];exact hv),λk hk _ i h1 h2=>?_,?_,rfl⟩
  ·rw[hG0];exact⟨λi b hb=>let ⟨l,x,y⟩:=s.bu i b hb;⟨l,x,y.world rfl⟩,s.inj⟩
  ·have hn0:=(d.nt (R6 k) (SF hk)).next
   have hnN:=(d.nt (i:=k+1) (j:=ops.size) (by omega) (AS _)).next
   exact hf i (by omega) (by omega)
  ·rw[hG0];refine⟨AS _,rfl,rfl,rfl,λ_ _ _=>rfl,λi B l hB hr hl=>.inr ⟨i,B,l,hB,hr,hl,rfl⟩,λ_ _=>rfl⟩
def Ds(ops:List Oper):Bool:=
 jM ops 0&&(List.range (ops.length-1)).all (λi=>(before ops (ops.length-1)).testBit i)&&ops.all λo=>o.guard.isNone
theorem Is{pre:List Oper}{o:Oper}{ops:Array Oper}(hops:ops.toList=pre++[o])(hl:Ds ops.toList=true){Q:Exit->Act->World->Prop}{X:Act->World->Prop}
  (hX:∀a w,X a w->wpOp P ops Q pre.length (λa w=>Q .normal a w) a w) :
  ∀(fuel:Nat) (listed:Array Bool) (a:Act) (w:World),listed.size=pre.length->kZ pre (λj=>listed.getD j false=true)->wpAny P .any pre.toArray (Exit.then X Q) fuel listed a w->
   wpAny P .any ops Q (fuel+1) (listed.push false) a w:=by
 unfold Ds at hl;simp only[IN,SI] at hl;obtain⟨⟨hE,hB⟩,hG⟩:=hl;have hsz:ops.size=pre.length+1:=by
  have:=congrArg List.length hops;simpa using this
 have hlen:ops.toList.length-1=pre.length:=by rw[hops];simp
 rw[hlen] at hB;have hlt:∀i,i<pre.length->ops[i]?=pre.toArray[i]?:=λi hi=>by
  rw[<-R7,hops,RW hi];simp
 have hN:ops[pre.length]?=some o:=by
  rw[<-R7,hops];simp
 have hgd:∀(i:Nat) (p:Oper),ops[i]?=some p->p.guard=none:=λi p q=>by
  have:p∈ops.toList:=Tc (by rw[R7];exact q);simpa using hG p this
 have hpush:∀(l:Array Bool),l.size=pre.length->∀i,i<pre.length->∀d,(l.push false).getD i d=l.getD i d:=λl hl i hi d=>by
  rw[RX,RX,UU (by omega),UM (by omega)]
 have hpushN:∀(l:Array Bool),l.size=pre.length->∀d,(l.push false).getD pre.length d=false:=λl hl d=>by
  rw[RX,<-hl];simp
 have hedge:∀i p,ops[i]?=some p->∀x∈p.after.toList,Region.binds .any x=true->x.on<i:=λi p q x hx hb=>by
  have:=(nZ hE i p (by rw[R7];exact q)).1 x hx hb;omega
 have rdy:∀(l:Array Bool),l.size=pre.length->∀i,i<pre.length->(i∈Region.ready .any ops (l.push false)↔i∈Region.ready .any pre.toArray l):=by
  intro l hl i hi;rw[mem_ready,mem_ready,hpush l hl i hi,hlt i hi];constructor
  ·rintro⟨h1,p,h2,h3⟩;refine⟨h1,p,h2,λx hx hb=>?_⟩;have:=h3 x hx hb
   rwa [hpush l hl x.on (by have:=hedge i p (by rw[hlt i hi];exact h2) x (by simpa using hx) hb;omega)] at this
  ·rintro⟨h1,p,h2,h3⟩;refine⟨h1,p,h2,λx hx hb=>?_⟩;rw[hpush l hl x.on (by have:=hedge i p (by rw[hlt i hi];exact h2) x (by simpa using hx) hb;omega)];exact h3 x hx hb
 have stuck:∀(l:Array Bool),l.size=pre.length->Region.ready .any pre.toArray l=[]->∀i,i<pre.length->l.getD i false=true:=by
  intro l hl hr i
  induction i using Nat.strongRecOn with
  | _ i ih=>
   intro hi;cases hq:l.getD i false with
   | true=>rfl
   | false=>
    have hmem:i∈Region.ready .any pre.toArray l:=by
     rw[mem_ready];refine⟨?_,pre[i],by simp[hi],λx hx hb=>?_⟩
     ·rw[RX] at hq ⊢;simp[hl,hi] at hq ⊢;exact hq
     ·have:=hedge i pre[i] (by rw[hlt i hi];simp[hi]) x (by simpa using hx) hb;exact ih x.on (by omega) (by omega)
    rw[hr] at hmem;cases hmem
 have lastR:∀(l:Array Bool),l.size=pre.length->(∀i,i<pre.length->l.getD i false=true)->pre.length∈Region.ready .any ops (l.push false):=by
  intro l hl hall;rw[mem_ready];refine⟨hpushN l hl true,o,hN,λx hx hb=>?_⟩;have:=hedge _ o hN x (by simpa using hx) hb;rw[hpush l hl x.on this];exact hall x.on this
 have lastA:∀(l:Array Bool),l.size=pre.length->kZ pre (λj=>l.getD j false=true)->pre.length∈Region.ready .any ops (l.push false)->∀i,i<pre.length->l.getD i false=true:=by
  intro l hl hc hm i hi;rw[mem_ready] at hm;obtain⟨_,p,h2,h3⟩:=hm;rw[hN] at h2;cases h2;have hc':kZ ops.toList (λj=>(l.push false).getD j false=true):=by
   intro j p hj hp x hx hb;have hjl:j<pre.length:=by
    rcases R2 j pre.length with h | h
    ·exact h
    ·exfalso;have hj':j<ops.size:=by
      rw[R7] at hp;exact(RV.1 hp).1
     have:j=pre.length:=by omega
     subst this;rw[hpushN l hl] at hj;cases hj
   have hxo:=hedge j p (by rw[<-R7];exact hp) x hx hb;rw[hpush l hl x.on (by omega)];rw[hpush l hl j hjl] at hj;refine hc j p hj ?_ x hx hb;rw[hops,RW hjl] at hp;exact hp
  have:=kU hE hc' pre.length i o (by rw[R7];exact hN) (λx hx hb=>h3 x (by simpa using hx) hb) (hB i (RQ.2 hi))
  rwa [hpush l hl i hi] at this
 have fin:∀(fuel:Nat) (l:Array Bool) (a:Act) (w:World),l.size=pre.length->(∀i,i<pre.length->l.getD i false=true)->X a w->wpAny P .any ops Q (fuel+1) (l.push false) a w:=by
  intro fuel l a w hl hall hx;have done:Region.ready .any ops ((l.push false).setIfInBounds pre.length true)=[]:=by
   rw[List.eq_nil_iff_forall_not_mem];intro i hi;rw[mem_ready] at hi;obtain⟨h1,p,h2,_⟩:=hi;have hi':i<ops.size:=(RV.1 h2).1;rw[RX] at h1;by_cases hip:i=pre.length
   ·subst hip;simp[hl] at h1
   ·have hlt':i<pre.length:=by omega
    rw[Sz (Ne.symm hip),UU (by omega)] at h1;have:=hall i hlt';rw[RX,UM (by omega)] at this;simp at h1 this;rw[h1] at this;cases this
  refine⟨λhr=>absurd (lastR l hl hall) (by rw[hr];simp),λi hi=>?_⟩;have hip:i=pre.length:=by
   rcases R2 i pre.length with h | h
   ·exfalso;rw[rdy l hl i h,mem_ready] at hi;have h1:=hi.1;have:=hall i h;rw[RX] at h1 this;simp[hl,h] at h1 this;rw[h1] at this;cases this
   ·rw[mem_ready] at hi;obtain⟨_,p,h2,_⟩:=hi;have:=(RV.1 h2).1;omega
  subst hip;refine wpOp_mono (λa w hq=>?_) (hX a w hx);cases fuel with
  | zero=>exact⟨done,hq⟩
  | succ fuel=>exact⟨λ_=>hq,λi hi=>by rw[done] at hi;cases hi⟩
 intro fuel
 induction fuel with
 | zero=>
  intro l a w hl hc hw;exact fin 0 l a w hl (stuck l hl hw.1) hw.2
 | succ fuel ih=>
  intro l a w hl hc hw;cases hr:Region.ready .any pre.toArray l with
  | nil=>exact fin (fuel+1) l a w hl (stuck l hl hr) (hw.1 hr)
  | cons i0 r0=>
   have hi0:i0∈Region.ready .any pre.toArray l:=by rw[hr];simp
   have hi0l:i0<pre.length:=by
    have h:=hi0;rw[mem_ready] at h;obtain⟨_,p,h2,_⟩:=h;simpa using (RV.1 h2).1
   have hi0d:l.getD i0 false=false:=by
    have h:=hi0;rw[mem_ready] at h;have h1:=h.1;rw[RX] at h1 ⊢;simp[hl,hi0l] at h1 ⊢;exact h1
   refine⟨λh=>absurd ((rdy l hl i0 hi0l).2 hi0) (by rw[h];simp),λi hi=>?_⟩;have hil:i<pre.length:=by
    rcases R2 i pre.length with h | h
    ·exact h
    ·exfalso;have hip:i=pre.length:=by
      have h2:=hi;rw[mem_ready] at h2;obtain⟨_,p,h2,_⟩:=h2;have:=(RV.1 h2).1;omega
     subst hip;have:=lastA l hl hc hi i0 hi0l;rw[hi0d] at this;cases this
   have him:=(rdy l hl i hil).1 hi;have hstep:=hw.2 i him;refine Gv (ops:=pre.toArray) (hlt i hil).symm (λo q=>hgd i o (by rw[hlt i hil];exact q)) (λa w hk=>?_) (λex a w hne hq=>?_) hstep
   ·have hps:(l.push false).setIfInBounds i true=(l.setIfInBounds i true).push false:=by
     apply Array.ext_getElem?;intro j;by_cases hji:j=i
     ·subst hji;have hjs:j<l.size:=by omega
      rw[UU (by simpa using hjs),Array.getElem?_setIfInBounds_self_of_lt (by simp;omega)];simp
     ·rw[Sz (Ne.symm hji),Array.getElem?_push,Array.getElem?_push,Sz (Ne.symm hji),Array.size_setIfInBounds]
    rw[hps];refine ih _ a w (by simpa using hl) ?_ hk;intro j p hj hp x hx hb;by_cases hji:j=i
    ·subst hji;rw[mem_ready] at him;obtain⟨_,p2,h2,h3⟩:=him;have:p2=p:=by
      have hp':pre.toArray[j]?=some p:=by simpa using hp
      rw[h2] at hp';exact BY hp'
     subst this;have h4:=h3 x (by simpa using hx) hb;by_cases hxj:x.on=j
     ·subst hxj;simp[hl,hil]
     ·rw[getD_set_ne _ (Ne.symm hxj)];exact h4
    ·rw[getD_set_ne _ (Ne.symm hji)] at hj;have h4:=hc j p hj hp x hx hb;by_cases hxj:x.on=i
     ·rw[hxj];simp[hl,hil]
     ·rw[getD_set_ne _ (Ne.symm hxj)];exact h4
   ·cases ex<;>first | exact absurd rfl hne | exact hq
theorem bl.JH(ok:C.Ok P)(fok:bS C P){k:bC}{F:ar}{own:bh}{A:Ex->bC->ar->bh->Prop}{id:Nat}{ops:Array Oper}(pre:List Oper){o:Oper}(hops:ops.toList=pre++[o])(hl:Ds ops.toList=true)(hd:mf pre=true)
  (h:WT C n pre pre k F own λk' F' aB rs=>kf (C2 pre) rs/\er C P n ops [o] k' F' aB λk3 F3 own3=>A .normal k3 F3 own3):bl C P n (.region id ops true) k F own A:=by
 intro e h0 σ a w hk hs hat he;obtain⟨e',h',tr,k',F',aB,rs,⟨m,hm⟩,hk',hF,hs',ht,hrc,hq⟩:=h e h0 hk hs;have hcal:=nH ok fok m;have htr:=hm m (AS _);have eP:ek h0 h':=o7 ok hcal _ _ _ _ _ (jN _ _ _ _ _ _ htr);refine wp_region_any ok.mixed ?_;have hsz:ops.size=pre.length+1:=by
  have:=congrArg List.length hops;simpa using this
 have hN:ops[pre.length]?=some o:=by
  rw[<-R7,hops];simp
 have hrep:Array.replicate ops.size false=(Array.replicate pre.length false).push false:=by rw[hsz,Array.replicate_succ]
 rw[hrep,hsz];refine Is hops hl (X:=λa' w'=>∃σ',fE σ' e' a'/\a'.defers=a.defers/\cU σ' h'.get w'/\Ev σ h0.get h0.next w σ' h'.get h'.next w') ?_ pre.length _ a _ (by simp) (λj o hj=>?_) ?_
 ·rintro a1 w1 ⟨σ1,r1,r2,r3,r4⟩;have hst:=hq e' h' σ1 a1 w1 [pre.length] [] (MQ C n σ h0 w a.defers F A) (by simp[hN]) hk' hs' (hat.next eP r3 r4) r1 ?_
  ·rw[Sq,wpOps_cons] at hst;exact hst
  ·intro e2 h2 σ2 a2 w2 k2 F2 own2 u1 u2 u3 u4 u5 u6 u7 u8 u9;exact⟨u5.trans r2,.normal,e2,h2,σ2,k2,F2,own2,rfl,u1,u4,u3,u2,r4.trans u6 eP.next u7.next,eP.trans u7,hF.trans u8,u9⟩
 ·exfalso;replace hj:(Array.replicate pre.length false).getD j false=true:=hj;rw[RX] at hj;by_cases hjl:j<pre.length
  ·simp[hjl] at hj
  ·simp[hjl] at hj
 ·have:=EM ok hcal (ops:=pre.toArray) (by simpa using htr) (by simpa using hd) (by simpa using BJ ht hrc) hs.wf hat.gX hat.lU he (λi q _=>hat.fresh i q)
   (Q:=Exit.then (λa' w'=>∃σ',fE σ' e' a'/\a'.defers=a.defers/\cU σ' h'.get w'/\Ev σ h0.get h0.next w σ' h'.get h'.next w') (MQ C n σ h0 w a.defers F A)) (λσ' a' w' r1 r2 r3 r4=>⟨σ',r1,r2,r3,r4⟩)
  simpa using this
end
end Go.Abs
/-
 The second layer: small change.
-/
set_option linter.unusedVariables false
namespace Go.Abs
open Go
section
variable {C:Ctx}{P:Program}{n:Nat}{k:bC}{F:ar}{own own2:bh}{A:Ex->bC->ar->bh->Prop}{ops:Array Oper}{rest:List Oper}{Q:bC->ar->bh->Prop}
theorem cJ.fn(ok:C.Ok P){f:FuncId}{fn:Func}{c:Code}{args:List Value}{oin:bh}{dn:ar->Value->bh->Prop}(hf:C.func f=some fn)(hb:fn.body=some c)(hn:max fn.ntmps args.length=n)
  (h:∀own,bl C P n c (uF args 0) F (oin++own) (Ll C fn own dn)):cJ C P f args F oin dn:=by subst hn;exact cJ.of ok hf hb h
theorem bl.le{c:Code}(ho:ah own2 own)(h:bl C P n c k F own2 A):bl C P n c k F own A:=λe h0 σ a w q1 q2 q3 q4=>h e h0 σ a w q1 (q2.le ho) q3 q4
theorem bl.weaken{c:Code}{k2:bC}(hk:bI k2 k)(h:bl C P n c k2 F own A):bl C P n c k F own A:=λe h0 σ a w q1 q2 q3 q4=>h e h0 σ a w (q1.weaken hk) q2 q3 q4
theorem er.le(ho:ah own2 own)(h:er C P n ops rest k F own2 Q):er C P n ops rest k F own Q:=λe h0 σ a w l l2 K q0 q1 q2 q3 q4 q5=>h e h0 σ a w l l2 K q0 q1 (q2.le ho) q3 q4 q5
theorem er.weaken{k2:bC}(hk:bI k2 k)(h:er C P n ops rest k2 F own Q):er C P n ops rest k F own Q:=λe h0 σ a w l l2 K q0 q1 q2 q3 q4 q5=>h e h0 σ a w l l2 K q0 (q1.weaken hk) q2 q3 q4 q5
theorem bl.dp(ok:C.Ok P)(fok:bS C P){id:Nat}{y:Code}(h:WT C n ops.toList ops.toList k F own λk' F' aB _=>bl C P n y k' F' aB A):bl C P n (.seq (.region id ops false) y) k F own A:=
 bl.seq (bl.gC ok fok (AW.dp h))
theorem bl.draw(ok:C.Ok P)(fok:bS C P){id:Nat}{y:Code}{ps:List (Nat×Nat)}(hd:mf ops.toList=true)(hn:C2 ops.toList=ps)
  (h:WT C n ops.toList ops.toList k F own λk' F' aB rs=>kf ps rs/\bl C P n y k' F' aB A):bl C P n (.seq (.region id ops true) y) k F own A:=
 bl.seq (bl.gC ok fok (AW.draw hd hn h))
theorem er.all(ok:C.Ok P)(fok:bS C P)(h:WT C n ops.toList rest k F own λk' F' aB _=>Q k' F' aB):er C P n ops rest k F own Q:=er.rV ok fok h
end
end Go.Abs
/-
 The second layer: counting loops.
-/
set_option linter.unusedVariables false
namespace Go.Abs
open Go
section
variable {C:Ctx}{P:Program}{n:Nat}{k:bC}{F:ar}{own:bh}{A:Ex->bC->ar->bh->Prop}
theorem bl.range(ok:C.Ok P)(fok:bS C P){S:Type}(chg:S->bC)(ow:S->bh)(I:Nat->S->ar->Prop)(m:Nat)(s0:S)
  {bid bid' r1 r2 ti tl tc tj t1 t2 t3 t4:Nat} {body:Code} {o1 o2 o3:Oper}
  (ho1:o1.op=.binOp .lss t1 (.tmp ti) (.tmp tl) t2) (hd1:o1.dst=some tc) (hg1:o1.guard=none)
  (ho2:o2.op=.binOp .add t3 (.tmp ti) (.const (.int .i64 1)) t4) (hd2:o2.dst=some tj) (hg2:o2.guard=none)
  (ho3:o3.op=.move (.tmp tj)) (hd3:o3.dst=some ti) (hg3:o3.guard=none)
  (hm:m<=9223372036854775807) (hn:(Nat.blt ti n&&Nat.blt tc n&&Nat.blt tj n)=true)
  (hne:(Nat.beq ti tj||Nat.beq tc ti||Nat.beq tl ti)=false)
  (hl:∀s,lk (chg s++k) tl=some (.int .i64 m)) (hj:∀s,lk (chg s++k) tj=none)
  (hk:bI ((ti,.int .i64 0)::(chg s0++k)) k) (ho:ah (ow s0) own) (hP:I 0 s0 F)
  (step:∀j s F',ar.le F F'->j<m->I j s F'->bl C P n body ((tc,.bool true)::(ti,.int .i64 j)::(chg s++k)) F' (ow s) (fJ bid' (AA bid ti j chg k ow I A)))
  (done:∀s F',ar.le F F'->I m s F'->A .normal ((tc,.bool false)::(ti,.int .i64 m)::(chg s++k)) F' (ow s)) :
  bl C P n (.block bid (.loop (.seq (.region r1 ⟨[o1]⟩ false) (.seq (.cond (.tmp tc) .skip (.exit bid)) (.seq (.block bid' body) (.region r2 ⟨[o2,o3]⟩ false)))))) k F own A:=by
 simp only[IN] at hn;simp only[TU] at hne;obtain⟨⟨hn1,hn2⟩,hn3⟩:=hn;obtain⟨⟨hne1,hne2⟩,hne3⟩:=hne;have put1:∀k v,cu n k (some ti) v=(ti,v)::k:=λk v=>by simp only[cu,hn1,RH]
 have put2:∀k v,cu n k (some tc) v=(tc,v)::k:=λk v=>by simp only[cu,hn2,RH]
 have put3:∀k v,cu n k (some tj) v=(tj,v)::k:=λk v=>by simp only[cu,hn3,RH]
 have lt_i:Nat.beq ti ti=true:=Tx ti;have lt_c:Nat.beq tc tc=true:=Tx tc;have lt_j:Nat.beq tj tj=true:=Tx tj;have hne3':Nat.beq ti tl=false:=by
  cases h:Nat.beq ti tl with
  | false=>rfl
  | true=>rw[R8 h,Tx] at hne3;cases hne3
 let st:Nat×S->bC:=λp=>(ti,.int .i64 p.1)::(chg p.2++k);refine bl.block (bl.loop (λ(p:Nat×S) k' F' aB=>bI (st p) k'/\ah (ow p.2) aB/\ar.le F F'/\p.1<=m/\I p.1 p.2 F') (λp=>m-p.1) (0,s0) ⟨hk,ho,ar.le.refl F,R6 _,hP⟩ ?_);rintro⟨j,s⟩ k0 F' own0 _ ⟨hsk,hso,hF,hjm,hp⟩;simp only at hjm hp;refine bl.weaken hsk (bl.le hso (bl.dp ok fok ?_));refine WT.still (v:=.bool (decide ((j:Int)<m))) (l:=[]) (by simp only[aF,hg1]) ?_ (λh0 _=>?_) ?_
 ·rw[ho1];simp only[aX,aW,st,lk,lt_i,RH,hne3',RO,hl];rfl
 ·rw[ho1];simp only[aN,aW,st,lk,lt_i,RH,hne3',RO,hl,kW,SU,dj];rfl
 refine WT.nil ?_;rw[hd1,put2];refine bl.seq (bl.cond (b:=decide ((j:Int)<m)) (by simp only[aW,lk,lt_c,RH]) (λhc=>?_) (λhc=>?_))
 ·have hc:j<m:=by have:=S4 hc;omega
  refine bl.gC ok fok (AW.skip ?_);show bl C P n _ _ _ _ _;refine bl.seq (bl.block ?_);have hd:decide ((j:Int)<m)=true:=by simp;omega
  rw[hd];refine bl.mono (step j s F' hF hc hp) ?_;intro x k' F'' aB hF'' hx;have fin:AA bid ti j chg k ow I A .normal k' F'' aB->bl C P n (.region r2 ⟨[o2,o3]⟩ false) k' F'' aB (m7 (λk2 F2 own2=>∃s2:Nat×S,m-s2.1<m-j/\bI (st s2) k2/\ah (ow s2.2) own2/\ar.le F F2/\s2.1<=m/\I s2.1 s2.2 F2) (fJ bid A)):=by
   rintro⟨s',q1,q2,q3⟩;refine bl.weaken q1 (bl.le q2 (bl.gC ok fok (AW.dp ?_)));refine WT.add (x:=j) (y:=1) ho2 (by simp only[aF,hg2]) (by simp only[aW,lk,lt_i,RH]) (by simp only[aW,plain,RH]) (by omega) ?_;rw[hd2,put3];refine WT.still (v:=.int .i64 (j+1)) (l:=[]) (by simp only[aF,hg3]) ?_ (λh0 _=>?_) ?_
   ·rw[ho3];rfl
   ·rw[ho3];simp only[aN,aW,lk,lt_j,RH];rfl
   rw[hd3,put1];refine WT.nil ?_;refine⟨(j+1,s'),by simp only;omega,?_,ah.refl _,hF.trans hF'',by simp only;omega,q3⟩;intro i v q;simp only[st,lk] at q ⊢;cases hb:Nat.beq ti i with
   | true=>rw[hb] at q;simpa using q
   | false=>
    rw[hb] at q;simp only[RO] at q ⊢;cases hb2:Nat.beq tj i with
    | true=>
     have:=R8 hb2;subst this;rw[hj] at q;cases q
    | false=>exact q
  cases x with
  | normal=>exact fin hx
  | ret=>exact hx
  | exit i=>
   simp only[fJ] at hx ⊢;cases hi:(i==bid') with
   | true=>rw[hi] at hx;exact fin hx
   | false=>rw[hi] at hx;exact hx
 ·have hc:j=m:=by have:=UO hc;omega
  subst hc;have hd:decide ((j:Int)<j)=false:=by simp
  rw[hd];refine bl.gC ok fok (AW.exit ?_);simp only[m7,fJ];have:(bid==bid)=true:=by simp
  rw[this];exact done s F' hF hp
end
section
variable {C:Ctx}{T:RT}{n:Nat}{ops rest:List Oper}{o:Oper}{k:bC}{F:ar}{own:bh}{Q:bC->ar->bh->List Rec->Prop}
theorem WT.Nr(hT:aS C T=true){t ty:TypeId}{xo yo:Operand}{a:Option Nat}{kt e:Nat}{r:Row}(hop:o.op=.binOp .eql t xo yo ty)(hw:aF ops k o=some true){dst:Nat}(hdst:o.dst=some dst)(hn:Nat.blt dst n=true)
  (hx:aW C k xo=some (.map a)) (hy:aW C k yo=some (.map none)) (hr:rowOf T t=some r) (hd:r.d=.map kt e)
  (h:WT C n ops rest ((dst,.bool a.isNone)::k) F own (λk2 F2 own2 rs=>Q k2 F2 own2 (⟨F,own,F,own,[]⟩::rs))):WT C n ops (o::rest) k F own Q:=by
 refine WT.still hw (by rw[hop];simp only[aX,hx,hy];rfl) (λh0 _=>?_) (by rw[hdst,aA hn];exact h);rw[hop];have hu:=dZ hT hr hd;cases a<;>simp only[aN,hx,hy,kW,jD,RH,equalA,hu]<;>rfl
end
end Go.Abs
/-
 The second layer: the library's own contract of sorting numbers.
-/
set_option linter.unusedVariables false
namespace Go.Abs
open Go
section
variable {C:Ctx}{P:Program}
theorem aJ.ints{σ:aY}:∀l:List Int,aJ σ (l.map (Value.int .i64)) (l.map (Value.int .i64))
 | []=>rfl
 | x::l=>⟨_,_,rfl,rfl,aJ.ints l⟩
theorem aJ.cut{σ:aY}:∀{a b l:List Value},aJ σ (a++b) l->aJ σ b (l.drop a.length)
 | [],_,_,h=>h
 | v::a,b,_,⟨v',vs',e,_,h⟩=>by subst e;exact aJ.cut (a:=a) h
theorem aJ.JV{σ:aY}:∀{zs:List Int} {b l:List Value},aJ σ (zs.map (Value.int .i64)++b) l->∀j,j<zs.length->l[j]?=(zs.map (Value.int .i64))[j]?
 | [],_,_,_,j,hj=>by cases hj
 | z::zs,b,_,⟨v',vs',e,hv,h⟩,j,hj=>by
  subst e;cases j with
  | zero=>exact congrArg some hv
  | succ j=>exact aJ.JV (zs:=zs) h j (Nat.lt_of_succ_lt_succ hj)
theorem cU.grow{σ:aY}{g:Nat->Option aE}{w:World}(s:cU σ g w)(os:Array Obj):cU σ g (Go.Sort.grow w os):=
 ⟨λi b q=>let ⟨l,x,y⟩:=s.bu i b q;⟨l,x,y.world (Go.Sort.heap_grow_old w os y.lt)⟩,s.inj⟩
theorem Ev.grow{σ:aY}{g:Nat->Option aE}(n:Nat)(w:World)(os:Array Obj):Ev σ g n w σ g n (Go.Sort.grow w os) where
 size:=by rw[Go.Sort.size_grow];omega
 os:=rfl
 out:=rfl
 tape:=rfl
 mg:=λb hb _=>Go.Sort.heap_grow_old w os hb
 own:=λi B l h r s=>.inr ⟨i,B,l,h,r,s,rfl⟩
 sig:=λ_ _=>rfl
def cA(zs:List Int):List Int:=zs.mergeSort λx y=>decide (x<=y)
theorem cJ.IA{ρ:Go.Shelf.Ren}(Ly:Go.Proofs.Lays.n189 P ρ){f:FuncId}(hf:ρ.f 189=f)(F:ar)(i:Nat)(zs:List Int)(rest:List Value)(h0:0<zs.length)(hz:zs.length<4611686018427387904) :
  cJ C P f [.slice (some ⟨i,0,none⟩) zs.length 1] F [[(i,.cells false (zs.map (Value.int .i64)++rest))]] λF' v o=>v=.tuple ⟨[]⟩/\o=[[(i,.cells false ((cA zs).map (Value.int .i64)++rest))]]:=by
 subst hf;intro own h σ w args' hs hat hr;obtain⟨v',vs',e,hv,h1⟩:=hr;obtain rfl:vs'=[]:=h1;subst e;obtain⟨l,a',cap,hl,_,rfl,hle,hc0,hcap⟩:=hv;obtain⟨rfl,hsize⟩:=hcap (by omega);have hget:h.get i=some (.cells false (zs.map (Value.int .i64)++rest)):=hs.has (p:=0) rfl (RR ..);obtain⟨l2,hl2,arr,ty,fr,hwb,hsz,hfr,hoff,hvs⟩:=hat.lU.bu i _ hget;rw[show σ i=some l from hl] at hl2;cases hl2;obtain rfl:=hfr rfl;have hcell:∀j,j<zs.length->arr[l.off+j]?=(zs.map (Value.int .i64))[j]?:=λj hj=>by
  have:=aJ.JV hvs j hj;rw[Sg,By (by rw[RP,RL];omega),Se,R7] at this;exact this
 have hH:Go.Sort.Holds (Value.int .i64) w l.bu (l.off+0) zs.toArray:=λj hj=>by
  have hj:j<zs.length:=by simpa using hj
  constructor
  ·simp only[World.cell?,hwb,Tq];rw[hcell j hj,RM,Sh hj];simp[hj]
  ·simp[World.frozen?,hwb]
 have hlt:l.bu<w.heap.size:=(RV.1 hwb).1;have hsl:(cA zs).length=zs.length:=by unfold cA;exact List.length_mergeSort ..
 refine(Go.Proofs.Any.slices_Sort_int Ly l.bu (l.off+0) cap zs w hH hlt hz).mono ?_;rintro en w' ⟨rfl,m,os,rfl⟩;have hd:(zs.mergeSort λx y=>decide (x<=y)).toArray.size=zs.length:=by simp
 have hzs:(zs.mergeSort λx y=>decide (x<=y))=cA zs:=rfl;rw[hzs] at hd ⊢;generalize hw1:Go.Sort.putRow (Value.int .i64) (Go.Sort.ahead w m) l.bu (l.off+0) (cA zs).toArray=w1;have hh1:∀k,w1.heap[k]?=if l.bu=k then (w.heap[k]?).map (Go.Sort.onCells (Go.Sort.putCells (Value.int .i64) (l.off+0) (cA zs).toArray)) else w.heap[k]?:=λk=>by
  subst hw1;exact Array.getElem?_modify ..
 have hs1:w1.heap.size=w.heap.size:=by subst hw1;simp[Go.Sort.putRow,Go.Sort.mapBlock]
 have ho1:w1.os=w.os:=by subst hw1;rfl
 have hu1:w1.output=w.output:=by subst hw1;rfl
 have ht1:w1.tape=w.tape:=by subst hw1;rfl
 have hne:∀k,k≠l.bu->w1.heap[k]?=w.heap[k]?:=λk hk=>by rw[hh1,AT (Ne.symm hk)]
 have hb1:w1.heap[l.bu]?=some (.cells (Go.Sort.putCells (Value.int .i64) (l.off+0) (cA zs).toArray arr) ty (0,0)):=by
  rw[hh1,By rfl,hwb];rfl
 have hrest:=aJ.cut hvs;have hnew:kX σ w1 l (.cells false ((cA zs).map (Value.int .i64)++rest)):=by
  refine⟨_,ty,(0,0),hb1,by rw[<-hsz];simp[Go.Sort.putCells],λ_=>rfl,?_,?_⟩
  ·have:(Go.Sort.putCells (Value.int .i64) (l.off+0) (cA zs).toArray arr).size=arr.size:=by simp[Go.Sort.putCells]
   rw[this];simp only[RP,RL,hsl] at hoff ⊢;exact hoff
  ·have hX:=(aJ.ints (σ:=σ) (cA zs)).app hrest;have key:∀Y:List Value,(∀j:Nat,((cA zs).map (Value.int .i64)++List.drop (zs.map (Value.int .i64)).length (List.take (zs.map (Value.int .i64)++rest).length (arr.toList.drop l.off)))[j]?=Y[j]?)->aJ σ ((cA zs).map (Value.int .i64)++rest) Y:=λY hY=>by rw[<-SA hY];exact hX
   refine key _ λj=>?_;have hlen:((zs.map (Value.int .i64))++rest).length=zs.length+rest.length:=by simp
   have hlen2:((cA zs).map (Value.int .i64)++rest).length=zs.length+rest.length:=by simp[hsl]
   have harr:(Go.Sort.putCells (Value.int .i64) (l.off+0) (cA zs).toArray arr).toList[l.off+j]?=(arr.toList[l.off+j]?).map λx=>if l.off+0<=l.off+j/\l.off+j<l.off+0+(cA zs).toArray.size then Value.int .i64 (cA zs).toArray[l.off+j-(l.off+0)]! else x:=by
    rw[R7,R7];simp only[Go.Sort.putCells,Array.getElem?_mapIdx]
   have hd2:(cA zs).toArray.size=zs.length:=hd;by_cases hj:j<zs.length
   ·have ha:arr.toList[l.off+j]?=some (.int .i64 zs[j]):=by rw[R7,hcell j hj,RM,Sh hj];rfl
    rw[RW (by simpa [hsl] using hj),List.getElem?_take_of_lt (by rw[hlen2];omega),Se,harr,ha,Sp,By ⟨by omega,by omega⟩,RM,Sh (by omega)];rw[show l.off+j-(l.off+0)=j by omega];simp[hsl,hj]
   ·rw[Sj (by simp[hsl];omega),RL,RL,hsl,Se,Sg,Sg,hlen,hlen2];rw[show zs.length+(j-zs.length)=j by omega];by_cases hj2:j<zs.length+rest.length
    ·rw[By hj2,By hj2,Se,Se,harr];cases arr.toList[l.off+j]? with
     | none=>rfl
     | some y=>rw[Sp,AT (by omega)]
    ·rw[AT hj2,AT hj2]
 have sim1:=hat.lU.change hget rfl rfl (show σ i=some l from hl) hne hnew;have ev1:Ev σ h.get h.next w σ (dg h.get i (some (.cells false ((cA zs).map (Value.int .i64)++rest)))) h.next w1:=Ev.change h.next hget rfl (show σ i=some l from hl) hs1 hne ho1 hu1 ht1
 have hputg:(h.put i (some (.cells false ((cA zs).map (Value.int .i64)++rest)))).get=dg h.get i (some (.cells false ((cA zs).map (Value.int .i64)++rest))):=by
  funext j;rw[aq.dy];rfl
 have eP:=ek.put h (b:=.cells false ((cA zs).map (Value.int .i64)++rest)) hget rfl;refine⟨_,.tuple ⟨[]⟩,h.put i (some (.cells false ((cA zs).map (Value.int .i64)++rest))),σ,F,[[(i,.cells false ((cA zs).map (Value.int .i64)++rest))]],rfl,⟨_,rfl,rfl⟩,?_,hs.put (p:=0) (q:=0) rfl rfl _,?_,eP,ar.le.refl F,rfl,rfl⟩
 ·exact⟨hat.gX,by rw[hputg];exact sim1.grow os,λj hj=>hat.fresh j hj⟩
 ·rw[hputg];exact ev1.trans (Ev.grow h.next w1 os) (AS _) (AS _)
end
end Go.Abs
/-
 The second layer: a loop over a map,told by what changes.
-/
set_option linter.unusedVariables false
namespace Go.Abs
open Go
section
variable {C:Ctx}{P:Program}{n:Nat}
theorem qq{k:bC}{t i:Nat}{u v:Value}(h:lk k i=some v)(ht:Nat.beq t i=false):lk (cu n k (some t) u) i=some v:=by
 simp only[cu];cases Nat.blt t n with
 | false=>exact h
 | true=>simp only[RH,lk,ht,RO];exact h
theorem sy{k:bC}{t i:Nat}{v:Value}(hf:lk k t=none)(h:lk k i=some v):Nat.beq t i=false:=by
 cases hb:Nat.beq t i with
 | false=>rfl
 | true=>rw[<-R8 hb,hf] at h;cases h
theorem CM.of{tm tR tN tx tE b':Nat}{xo:Operand}{ops3:Array Oper}{rest:List Oper}{body:Code}{A:Ex->bC->ar->bh->Prop}{mi:Nat}{es:List (Value×Value)}{k:bC}{F:ar}{own:bh}
  {S:Type} (chg:S->bC) (ow:S->bh) (I:List Nat->S->ar->Prop) (s0:S) (map:aW C k xo=some (.map (some mi))) (type:∃kt et,C.gZ tm=some (.map kt et)) (plain:∀p∈es,cH p.1=false)
  (hn:(Nat.blt tR n&&Nat.blt tN n&&Nat.blt tx n&&Nat.blt tE n)=true) (hne:(Nat.beq tN tR||Nat.beq tx tR||Nat.beq tE tR)=false)
  (hfree:∀s,lk (chg s++k) tN=none/\lk (chg s++k) tx=none/\lk (chg s++k) tE=none/\lk (chg s++k) tR=none)
  (hk:bI (chg s0++k) k) (ho:ah (ow s0) own) (h0:I [] s0 F)
  (here:∀seen s F',I seen s F'->∀h,St F' (ow s) h->h.get mi=some (.map es))
  (step:∀ii seen s F',ar.le F F'->I seen s F'->∀i p,es[i]?=some p->i∉seen->
   er C P n ops3 rest ((tE,.tuple ⟨[p.1,p.2]⟩)::(tR,.pointer (some ⟨ii,0,none⟩))::(chg s++k)) F' (ow s) λk3 F3 own3=>
    bl C P n body k3 F3 own3 (fJ b' λx k4 F4 own4=>x=.normal/\∃s',bI ((tR,.pointer (some ⟨ii,0,none⟩))::(chg s'++k)) k4/\ah (ow s') own4/\I (i::seen) s' F4))
  (done:∀seen s F',ar.le F F'->I seen s F'->(∀i,i<es.length->i∈seen)->A .normal (chg s++k) F' (ow s)) :
  CM C P n tm tR tN tx tE b' xo ops3 rest body A mi es (λii seen k' F' aB=>∃s,bI ((tR,.pointer (some ⟨ii,0,none⟩))::(chg s++k)) k'/\ah (ow s) aB/\I seen s F') k F own:=by
 simp only[IN] at hn;obtain⟨⟨⟨hnR,hnN⟩,hnx⟩,hnE⟩:=hn;simp only[TU] at hne;obtain⟨⟨hneN,hnex⟩,hneE⟩:=hne;have head:∀(k':bC) ii s,bI ((tR,.pointer (some ⟨ii,0,none⟩))::(chg s++k)) k'->lk k' tR=some (.pointer (some ⟨ii,0,none⟩)):=λk' ii s h=>h tR _ (by simp only[lk,Tx,RH]);have tail:∀(k':bC) ii s,bI ((tR,.pointer (some ⟨ii,0,none⟩))::(chg s++k)) k'->bI (chg s++k) k':=λk' ii s h i v hv=>h i v (by
  simp only[lk,sy (hfree s).2.2.2 hv,RO];exact hv)
 refine⟨map,type,plain,λii=>⟨s0,λi v hv=>?_,ho,h0⟩,λii seen k' F' aB ⟨s,h1,_⟩=>head k' ii s h1,λii seen k' F' aB ⟨s,_,h2,h3⟩ h hs=>here seen s F' h3 h (hs.le h2),λii seen k' F' aB hF ⟨s,h1,h2,h3⟩ i p hp hi=>?_,λii seen k' F' aB hF ⟨s,h1,h2,h3⟩ hall=>⟨chg s++k,ow s,λi v hv=>?_,h2,done seen s F' hF h3 hall⟩⟩
 ·simp only[cu,hnR,RH,lk] at hv ⊢;cases hb:Nat.beq tR i with
  | true=>rw[hb] at hv;exact hv
  | false=>rw[hb] at hv;simp only[RO] at hv ⊢;exact hk i v hv
 ·refine er.weaken (k2:=(tE,.tuple ⟨[p.1,p.2]⟩)::(tR,.pointer (some ⟨ii,0,none⟩))::(chg s++k)) (λj v hv=>?_) (er.le h2 (step ii seen s F' hF h3 i p hp hi));simp only[lk] at hv;cases hb:Nat.beq tE j with
  | true=>
   rw[hb] at hv;simp only[RH] at hv;simp only[cu,hnE,RH,lk,hb];exact hv
  | false=>
   rw[hb] at hv;simp only[RO] at hv;refine qq ?_ hb;cases hb2:Nat.beq tR j with
   | true=>
    rw[hb2] at hv;simp only[RH] at hv;have e:=R8 hb2;subst e;refine qq (qq ?_ hneN) hnex;rw[<-hv];exact head k' ii s h1
   | false=>
    rw[hb2] at hv;simp only[RO] at hv;exact qq (qq (tail k' ii s h1 j v hv) (sy (hfree s).1 hv)) (sy (hfree s).2.1 hv)
 ·exact qq (qq (tail k' ii s h1 i v hv) (sy (hfree s).1 hv)) (sy (hfree s).2.1 hv)
end
end Go.Abs
/-
 The second layer: loops,told by what changes.
-/
set_option linter.unusedVariables false
namespace Go.Abs
open Go
section
variable {C:Ctx}{P:Program}{n:Nat}{k:bC}{F:ar}{own:bh}{A:Ex->bC->ar->bh->Prop}
theorem bl.cm{S:Type}{x:Code}(chg:S->bC)(ow:S->bh)(I:S->ar->Prop)(μ:S->Nat)(s0:S)(hk:bI (chg s0++k) k)(ho:ah (ow s0) own)(h0:I s0 F)
  (step:∀s F',ar.le F F'->I s F'->bl C P n x (chg s++k) F' (ow s) (m7 (λk2 F2 own2=>∃s2,μ s2<μ s/\bI (chg s2++k) k2/\ah (ow s2) own2/\I s2 F2) A)):bl C P n (.loop x) k F own A:=
 bl.loop (λs k' F' aB=>bI (chg s++k) k'/\ah (ow s) aB/\I s F') μ s0 ⟨hk,ho,h0⟩ λs k' F' aB hF h=>bl.weaken h.1 (bl.le h.2.1 (step s F' hF h.2.2))
theorem bl.Fs(ok:C.Ok P)(fok:bS C P){S:Type}(chg:S->bC)(ow:S->bh)(J:S->ar->Prop){a b:Code}(h1:AW C n a k F own (PR chg k ow J A))
  (h2:∀s F',ar.le F F'->J s F'->bl C P n b (chg s++k) F' (ow s) A):bl C P n a k F own (m7 (λk' F' aB=>bl C P n b k' F' aB A) A):=
 bl.gC ok fok (AW.mono h1 λx k' F' aB hF hx=>by
  cases x with
  | normal=>
   obtain⟨s,q1,q2,q3⟩:=hx;exact bl.weaken q1 (bl.le q2 (h2 s F' hF q3))
  | exit id=>exact hx
  | ret=>exact hx)
theorem bl.skip(ok:C.Ok P)(fok:bS C P)(h:A .normal k F own):bl C P n .skip k F own A:=bl.gC ok fok (AW.skip h)
theorem bl.exit(ok:C.Ok P)(fok:bS C P){id:Nat}(h:A (.exit id) k F own):bl C P n (.exit id) k F own A:=bl.gC ok fok (AW.exit h)
end
open Go.RowKit Go.ChangeShapes Go.WideShapes
theorem xk{C:Ctx}{P:Program}{f:FuncId}{aa vs:List Value}{blks:List (Nat×aE)}{locs:List (Nat×Loc)}{nx:Nat}{W:World}
  (hb:∀p∈blks,qQ p.2=true/\p.1<nx/\∃l,dc locs p.1=some l/\∀σ,kX σ W l p.2)
  (hnd:(blks.map (·.1)).Nodup) (hglob:∀g,g<C.cK->∃l,dc locs g=some l/\l.bu=g/\l.off=0) (hlocs:∀i,nx<=i->dc locs i=none)
  (hvs:aJ (dc locs) aa vs) (spec:∀F,(∀p∈blks,F p.1=some p.2)->cJ C P f aa F [] λ_ v o=>o=[]/\v=.bool true) :
  Calls P f ⟨vs⟩ W λe w'=>e=.returned (.bool true)/\Below W.heap.size W w':=by
 have hget:∀i b,(⟨nx,gR blks⟩:aq).get i=some b->(i,b)∈blks:=λi b h=>oP blks i b h;have hst:St (⟨nx,gR blks⟩:aq).get ([]++[]) ⟨nx,gR blks⟩:=
  ⟨λi b h=>h,λp hp=>(by cases hp),λp hp=>(by cases hp),T7,λi b h=>(hb _ (hget i b h)).2.1⟩
 have hsim:cU (dc locs) (⟨nx,gR blks⟩:aq).get W:=by
  constructor
  ·intro i b hi;obtain⟨_,_,l,h1,h2⟩:=hb _ (hget i b hi);exact⟨l,h1,h2 _⟩
  ·intro i j b c li lj hi hj _ hro;rw[lR (hb _ (hget i b hi)).1,lR (hb _ (hget j c hj)).1] at hro;simp at hro
 refine(spec (⟨nx,gR blks⟩:aq).get (λp hp=>GY hnd hp) [] _ (dc locs) W vs hst ⟨hglob,hsim,hlocs⟩ hvs).mono ?_;rintro e w' ⟨v',v,h',σ',F',oout,rfl,hv,_,_,eP,_,_,_,rfl⟩;have hv:v'=.bool true:=hv;subst hv;exact⟨rfl,eP.below λi b h=>lR (hb _ (hget i b h)).1⟩
end Go.Abs
/-
 The second layer: a call whose arguments are known to the last cell,by a closed run.
-/
set_option linter.unusedVariables false
namespace Go.Abs
open Go
section
variable {C:Ctx}{P:Program}
theorem cU.kept{σ:aY}{g:Nat->Option aE}{w w':World}(s:cU σ g w)(h:∀b,b<w.heap.size->w'.heap[b]?=w.heap[b]?):cU σ g w':=
 ⟨λi b q=>let ⟨l,x,y⟩:=s.bu i b q;⟨l,x,y.world (h _ y.lt)⟩,s.inj⟩
theorem cJ.closed(ok:C.Ok P)(fok:bS C P){m:Nat}{f:FuncId}{args aa0:List Value}{F:ar}{blks:List (Nat×aE)}{nx:Nat}{v0:Value}{h1:aq}{dn:ar->Value->bh->Prop}
  (hrun:call C m f aa0 ⟨nx,gR blks⟩=some (v0,h1)) (hnd:(blks.map (·.1)).Nodup) (hlt:∀p∈blks,p.1<nx/\p.2.ro=true) (hglob:C.cK<=nx) (re:aY->aY)
  (hre0:∀σ i,i<C.cK->re σ i=σ i) (hre1:∀σ i,nx<=i->re σ i=none)
  (hblk:∀σ w,(∀i b,F i=some b->∃l,σ i=some l/\kX σ w l b)->∀p∈blks,∃l,re σ p.1=some l/\kX (re σ) w l p.2)
  (hargs:∀σ args',aJ σ args args'->aJ (re σ) aa0 args')
  (hpost:∀σ' σ n v',σ n=none->aL σ' v0 v'->∃l v,aL (dg σ n (some l)) v v'/\dn F v []):cJ C P f args F [] dn:=by
 intro own h σ w args' hs hat hr;have hget:∀i b,(⟨nx,gR blks⟩:aq).get i=some b->(i,b)∈blks:=λi b q=>oP blks i b q;have hwf:∀i b,(⟨nx,gR blks⟩:aq).get i=some b->i<nx:=λi b q=>(hlt _ (hget i b q)).1;have hro:∀i b,(⟨nx,gR blks⟩:aq).get i=some b->b.ro=true:=λi b q=>(hlt _ (hget i b q)).2;have hb:=hblk σ w (λi b q=>hat.lU.bu i b (hs.uz i b q))
 have hsim:cU (re σ) (⟨nx,gR blks⟩:aq).get w:=⟨λi b q=>hb _ (hget i b q),λi j b c li lj q1 q2 _ q3=>by
  rw[hro i b q1,hro j c q2] at q3;simp at q3⟩
 have hgl:oj C (re σ):=λg hg=>by rw[hre0 σ g hg];exact hat.gX g hg
 refine((nH ok fok m).run f aa0 _ _ _ hrun hwf (re σ) w args' hgl hsim (hargs σ args' hr) (λi q _=>hre1 σ i q)).mono ?_;rintro en w' ⟨v',σ',rfl,hv,_,ev⟩;have hkeep:∀b,b<w.heap.size->w'.heap[b]?=w.heap[b]?:=λb hb=>ev.mg b hb λi B l q1 q2=>by
  rw[hro i B q1] at q2;cases q2
 have hn:σ h.next=none:=hat.fresh _ (AS _)
 obtain⟨l,v,hv2,hp⟩:=hpost σ' σ h.next v' hn hv
 have hle:aY.le σ (dg σ h.next (some l)):=aY.lW hn
 have hs':jJ F ([]++own).flatten h:=hs;have hsig:∀i B,h.get i=some B->dg σ h.next (some l) i=σ i:=λi B q=>cl _ _ (by have:=hs.wf i B q;omega)
 refine⟨v',v,h.bump,dg σ h.next (some l),F,[],rfl,hv2,⟨hat.gX.mono hle,?_,λi q=>?_⟩,jJ.mk hs'.uz hs'.has hs'.apart hs'.nodup ((ek.bump h).wf hs.wf),⟨ev.size,ev.os,ev.out,ev.tape,λb hb _=>hkeep b hb,λi B l' q1 q2 q3=>?_,λi q=>?_⟩,ek.bump h,ar.le.refl F,hp⟩
 ·have s1:=hat.lU.kept hkeep
  exact⟨λi b q=>let ⟨l',x,y⟩:=s1.bu i b q;⟨l',hle _ _ x,y.mono hle⟩,λi j b c li lj q1 q2 q3 q4 q5 q6=>by
   rw[hsig i b q1] at q5;rw[hsig j c q2] at q6;exact s1.inj i j b c li lj q1 q2 q3 q4 q5 q6⟩
 ·have q':h.next+1<=i:=q
  rw[cl _ _ (by omega)];exact hat.fresh i (by omega)
 ·rw[hsig i B q1] at q3;exact .inr ⟨i,B,l',q1,q2,q3,rfl⟩
 ·have q':i<h.next\/h.next+1<=i:=q
  rw[cl _ _ (by omega)]
end
end Go.Abs