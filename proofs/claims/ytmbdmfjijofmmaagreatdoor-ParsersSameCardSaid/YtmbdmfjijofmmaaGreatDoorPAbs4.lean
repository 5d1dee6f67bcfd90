/-
  The abstract machine is sound, fourth part: steps and regions in the order of the text.
-/
import Derived.Test.YtmbdmfjijofmmaaGreatDoorPAbs3
/-
 Soundness,sixteenth part: abstract heaps grow;frames;one operation of a region;regions in the text's order.
-/
namespace Go.Abs
open Go
section
variable {C:Ctx}{P:Program}
structure ek(h h':aq):Prop where
 next:h.next<=h'.next
 dead:∀i,i<h.next->h.get i=none->h'.get i=none
 ro:∀i b,h'.get i=some b->b.ro=true->h.get i=some b
 wf:(∀i b,h.get i=some b->i<h.next)->∀i b,h'.get i=some b->i<h'.next
theorem ek.refl(h:aq):ek h h:=⟨AS _,λ_ _ e=>e,λ_ _ e _=>e,λe=>e⟩
theorem ek.trans{a b c:aq}(x:ek a b)(y:ek b c):ek a c:=
 ⟨AI x.next y.next,λi hi e=>y.dead i (SH hi x.next) (x.dead i hi e),λi B e r=>x.ro i B (y.ro i B e r) r,λe=>y.wf (x.wf e)⟩
theorem ek.alloc(h:aq){b:aE}(hb:b.ro=false):ek h (h.alloc b) where
 next:=by simp
 dead:=λi hi e=>by rw[aq.dP,AT (by omega)];exact e
 ro:=λi B e r=>by
  rw[aq.dP] at e;split at e
  ·cases e;rw[hb] at r;cases r
  ·exact e
 wf:=λhw i B e=>by
  rw[aq.dP] at e;simp only[aq.Ey];split at e
  ·omega
  ·have:=hw i B e;omega
theorem ek.put(h:aq){i:Nat}{b b0:aE}(hb0:h.get i=some b0)(hb:b.ro=false):ek h (h.put i (some b)) where
 next:=AS _
 dead:=λj hj e=>by
  rw[aq.dy];split
  ·rename_i hji;subst hji;rw[hb0] at e;cases e
  ·exact e
 ro:=λj B e r=>by
  rw[aq.dy] at e;split at e
  ·cases e;rw[hb] at r;cases r
  ·exact e
 wf:=λhw j B e=>by
  rw[aq.dy] at e;simp only[aq.Kd];split at e
  ·rename_i hji;subst hji;exact hw _ _ hb0
  ·exact hw j B e
theorem ek.kill(h:aq)(i:Nat):ek h (h.put i none) where
 next:=AS _
 dead:=λj hj e=>by rw[aq.dy];split<;>first | rfl | exact e
 ro:=λj B e r=>by
  rw[aq.dy] at e;split at e
  ·cases e
  ·exact e
 wf:=λhw j B e=>by
  rw[aq.dy] at e;split at e
  ·cases e
  ·exact hw j B e
theorem lS{α:Type}{c:Bool}{a:Option α}{x:α}(h:(bif c then a else none)=some x):c=true/\a=some x:=by
 cases c with
 | true=>exact⟨rfl,h⟩
 | false=>cases h
theorem wq{α:Type}{c:Bool}{a:Option α}{x:α}(h:(bif c then none else a)=some x):c=false/\a=some x:=by
 cases c with
 | true=>cases h
 | false=>exact⟨rfl,h⟩
theorem tq{α:Type}{c:Bool}{a b:α}{x:α}(h:(bif c then a else b)=x):(c=true/\a=x)\/(c=false/\b=x):=by
 cases c with
 | true=>exact .inl ⟨rfl,h⟩
 | false=>exact .inr ⟨rfl,h⟩
theorem Dy{h h':aq}{t:TypeId}{xt:Option TypeId}{x y v:Value}(e:gp C h t xt x y=some (v,h')):ek h h':=by
 unfold gp at e;split at e
 ·split at e
  ·split at e
   ·rename_i n new hnw;obtain⟨_,e⟩:=wq e;cases hn0:(n==0) with
    | true=>simp only[hn0,RH,IT,Sb] at e;obtain⟨_,rfl⟩:=e;exact ek.refl _
    | false=>
     simp only[hn0,RO] at e;split at e
     ·cases e;exact ek.alloc _ rfl
     ·rcases tq e with ⟨_,e⟩ | ⟨_,e⟩
      ·obtain⟨_,e⟩:=lS e;cases e;exact ek.alloc _ rfl
      ·obtain⟨_,e⟩:=wq e;split at e
       ·split at e
        ·cases e;exact(ek.kill _ _).trans (ek.alloc _ rfl)
        ·cases e
       ·cases e
     ·cases e
   ·cases e
  ·cases e
 ·cases e
theorem II{h h':aq}{t:TypeId}{x y v:Value}(e:B0 C h t x y=some (v,h')):ek h h':=by
 unfold B0 at e;split at e
 ·split at e
  ·split at e
   ·rename_i new hfi;obtain⟨_,e⟩:=wq e;split at e
    ·cases e;exact ek.refl _
    ·cases hemp:new.isEmpty with
     | true=>simp only[hemp,RH,IT,Sb] at e;obtain⟨_,rfl⟩:=e;exact ek.refl _
     | false=>
      simp only[hemp,RO] at e;split at e
      ·rename_i cs hblk;obtain⟨_,e⟩:=lS e;cases e;exact ek.put _ hblk rfl
      ·cases e
    ·cases e
   ·cases e
  ·cases e
 ·cases e
theorem Ho{h h':aq}{t:TypeId}{x:Value}(e:nW C h t x=some h'):ek h h':=by
 unfold nW at e;split at e
 ·cases e;exact ek.refl _
 ·cases e;exact ek.refl _
 ·split at e
  ·rename_i z cs hz hblk;obtain⟨_,e⟩:=lS e;cases e;exact ek.put _ hblk rfl
  ·cases e
 ·cases e
theorem pT{h h':aq}{t:TypeId}{m k v:Value}(e:cN C h t m k v=some h'):ek h h':=by
 unfold cN at e;split at e
 ·split at e
  ·rename_i es he;revert e;generalize fm C 8 _ k=ko;intro e;cases ko with
   | false=>simp only[TN,RH] at e;cases e
   | true=>
    simp only[Tp,RO] at e;split at e
    ·split at e
     ·rename_i k2 v2 _;cases hs:bN k2 k with
      | true=>simp only[hs,RH,IT] at e;subst e;exact ek.put _ he rfl
      | false=>simp only[hs,RO] at e;cases e
     ·cases e
    ·cases e;exact ek.put _ he rfl
    ·cases e
  ·cases e
 ·cases e
theorem zJ{h h':aq}{t:TypeId}{m k v:Value}(e:gh C h t m k=some (v,h')):ek h h':=by
 unfold gh at e;split at e
 ·split at e
  ·rename_i es he;rcases tq e with ⟨_,e⟩ | ⟨_,e⟩
   ·cases e
   ·split at e
    ·split at e
     ·obtain⟨_,e⟩:=lS e;cases e;exact ek.refl _
     ·cases e
    ·split at e
     ·cases e;exact ek.put _ he rfl
     ·cases e
    ·cases e
  ·cases e
 ·cases e
theorem xb{h h':aq}{m n v:Value}(e:eF h m n v=some h'):ek h h':=by
 unfold eF at e;split at e
 ·split at e
  ·rename_i es he;split at e
   ·split at e
    ·cases e;exact ek.put _ he rfl
    ·cases e
   ·cases e
  ·cases e
 ·cases e
theorem DC{h h':aq}{t:TypeId}{m k:Value}(e:mB C h t m k=some h'):ek h h':=by
 unfold mB at e;split at e
 ·split at e
  ·rename_i es he;rcases tq e with ⟨_,e⟩ | ⟨_,e⟩
   ·cases e
   ·split at e
    ·cases e;exact ek.put _ he rfl
    ·cases e;exact ek.put _ he rfl
    ·cases e
  ·cases e
 ·cases e
theorem MN(ok:C.Ok P){ρ:Operand->Option Value}{h h':aq}{o:Oper}{v:Value}(e:aN C ρ h o.op=some (.val v h')):ek h h':=by
 cases hs:cb o.op with
 | true=>
  obtain⟨v2,h1,_⟩:=kD ok hs e;cases h1;exact ek.refl _
 | false=>
  cases hn:rK o.op with
  | true=>
   obtain⟨v2,b,hb,h1,_⟩:=tQ ok hn e;cases h1;exact ek.alloc _ hb
  | false=>
   cases hst:gJ o.op with
   | true=>
    obtain⟨b,cs,_,h1,⟨cs0,h2⟩,_⟩:=jc ok hst e;cases h1;exact ek.put _ h2 rfl
   | false=>
    cases ho:o.op with
    | mapUpdate t m k x=>
     rw[ho] at e;simp only[aN] at e;split at e
     ·rename_i m1 k1 x1 _ _ _;cases hst:cN C h t m1 k1 x1 with
      | none=>rw[hst] at e;cases e
      | some h2=>rw[hst] at e;cases e;exact pT hst
     ·cases e
    | mapEntry t m k=>
     rw[ho] at e;simp only[aN] at e;split at e
     ·rename_i m1 k1 _ _;cases hst:gh C h t m1 k1 with
      | none=>rw[hst] at e;cases e
      | some h2=>rw[hst] at e;obtain⟨v2,h2⟩:=h2;cases e;exact zJ hst
     ·cases e
    | entryStore t m k x=>
     rw[ho] at e;simp only[aN] at e;split at e
     ·rename_i m1 k1 x1 _ _ _;cases hst:eF h m1 k1 x1 with
      | none=>rw[hst] at e;cases e
      | some h2=>rw[hst] at e;cases e;exact xb hst
     ·cases e
    | insert t m k x=>
     rw[ho] at e;simp only[aN] at e;split at e
     ·rename_i m1 k1 x1 _ _ _;cases hst:cN C h t m1 k1 x1 with
      | none=>rw[hst] at e;cases e
      | some h2=>rw[hst] at e;cases e;exact pT hst
     ·cases e
    | call c=>
     rw[ho] at e hs;cases hc:c.callee with
     | invoke x m=>
      simp only[aN,hc] at e;split at e
      ·split at e
       ·split at e
        ·rename_i fn hfn;cases hb:fn.body.isSome<;>simp[hb] at e
        ·cases e
       ·cases e
      ·cases e
     | value f=>
      simp only[aN,hc] at e;split at e
      ·unfold lD at e;split at e
       ·split at e
        ·rename_i fn hfn;cases hb:fn.body.isSome<;>simp[hb] at e
        ·cases e
       ·cases e
      ·cases e
     | builtin b=>
      simp only[aN,hc] at e;split at e
      ·rename_i as _;cases hbr:bR C h b c.argTypes.toList as with
       | none=>rw[hbr] at e;cases e
       | some vh=>
        rw[hbr] at e;obtain⟨v2,h2⟩:=vh;cases e;unfold bR at hbr;split at hbr<;>first
         | (simp[cb,hc] at hs;done)
         | exact Dy hbr
         | exact II hbr
         | (rename_i t _ x y _ _; cases hcl : mB C h t x y with
            | none=>rw[hcl] at hbr;cases hbr
            | some h3=>rw[hcl] at hbr;cases hbr;exact DC hcl)
         | (rename_i t _ x _ _; cases hcl : nW C h t x with
            | none=>rw[hcl] at hbr;cases hbr
            | some h3=>rw[hcl] at hbr;cases hbr;exact Ho hcl)
         | (cases hbr;exact ek.refl _)
         | cases hbr
      ·cases e
    | _=>first
     | (rw[ho] at hs;cases hs;done)
     | (rw[ho] at hn;cases hn;done)
     | (rw[ho] at hst;cases hst;done)
     | (rw[ho] at e;cases e)
structure fE(σ:aY)(e:Env)(a:Act):Prop where
 size:e.n=a.tmps.size
 rel:∀(i:Nat) (v:Value),e.get i=some v->∃v',a.tmps[i]?=some v'/\aL σ v v'
def oj(C:Ctx)(σ:aY):Prop:=∀g,g<C.cK->∃l,σ g=some l/\l.bu=g/\l.off=0
theorem oj.mono{σ τ:aY}(h:oj C σ)(hl:aY.le σ τ):oj C τ:=λg hg=>let ⟨l,a,b⟩:=h g hg;⟨l,hl _ _ a,b⟩
theorem fE.mono{σ τ:aY}{e:Env}{a:Act}(h:fE σ e a)(hl:aY.le σ τ):fE τ e a:=
 ⟨h.size,λi v q=>let ⟨v',x,y⟩:=h.rel i v q;⟨v',x,y.mono hl⟩⟩
theorem fE.uR{σ:aY}{e:Env}{a:Act}(h:fE σ e a)(hg:oj C σ):vz σ (e.eval C) a.eval:=by
 intro x v q;cases x with
 | tmp i=>
  obtain⟨v',h1,h2⟩:=h.rel i v q;simp only[Act.eval];rw[RX,h1];exact h2
 | const c=>
  simp only[Env.eval] at q;cases hp:plain c with
  | true=>simp[hp] at q;subst q;exact gj σ c hp
  | false=>simp[hp] at q
 | global g=>
  simp only[Env.eval] at q;cases hb:Nat.blt g C.cK with
  | true=>
   simp only[hb,RH,IT] at q;subst q;obtain⟨l,h1,h2,h3⟩:=hg g (by simpa using hb);exact⟨l,h1,rfl,by simp[Act.eval,h2,h3]⟩
  | false=>simp[hb] at q
 | func f=>
  simp only[Env.eval,IT] at q;subst q;exact⟨[],[],rfl,rfl,rfl⟩
theorem fE.put{σ:aY}{e:Env}{a:Act}(h:fE σ e a){d:Option Tmp}{v v':Value}(hv:aL σ v v'):fE σ (e.put d v) (a.put d v'):=by
 cases d with
 | none=>exact h
 | some d=>
  simp only[Env.put,Act.put];cases hb:Nat.blt d e.n with
  | true=>
   simp only[RH];refine⟨by simp[h.size],λi u q=>?_⟩;have hd:d<a.tmps.size:=by rw[<-h.size];simpa using hb
   by_cases hi:i=d
   ·subst hi;have:(e.t.set i (some v)).get i=some u:=q;rw[T.qJ] at this;cases this;exact⟨v',by simp[hd],hv⟩
   ·have:(e.t.set d (some v)).get i=some u:=q;rw[T.vQ _ _ _ _ hi] at this;obtain⟨u',q1,q2⟩:=h.rel i u this;exact⟨u',by rw[Sz (Ne.symm hi)];exact q1,q2⟩
  | false=>
   simp only[RO];have hd:¬d<a.tmps.size:=by rw[<-h.size];intro hlt;rw[show Nat.blt d e.n=true from by simpa using hlt] at hb;cases hb
   refine⟨by simp[h.size],λi u q=>?_⟩;obtain⟨u',q1,q2⟩:=h.rel i u q;refine⟨u',?_,q2⟩;have hi:i≠d:=by
    intro hi;subst hi;have:=(RV.1 q1).1;exact hd this
   rw[Sz (Ne.symm hi)];exact q1
theorem AM{σ:aY}{ops:Array Oper}{e:Env}{a:Act}(h:fE σ e a){o:Oper}{b:Bool}(q:rU ops.toList e o=some b):Region.wanted o (yielded ops a.tmps)=b:=by
 unfold rU at q;unfold Region.wanted;cases hg:o.guard with
 | none=>simp[hg] at q;subst q;rfl
 | some jw=>
  obtain⟨j,want⟩:=jw;simp only[hg] at q ⊢;unfold yielded;rw[R7] at q;cases hd:(ops[j]?).bind (·.dst) with
  | none=>simp[hd] at q;subst q;simp
  | some d=>
   simp only[hd] at q;simp only[Option.bind_some];split at q
   ·rename_i b2 hb;cases q;obtain⟨v',h1,h2⟩:=h.rel d _ hb;rw[h1,show v'=.bool b2 from h2];simp
   ·rename_i hb;cases q;obtain⟨v',h1,cs,h2,h3⟩:=h.rel d _ hb;rw[h1,h2];simp
   ·cases q
structure mU(C:Ctx)(P:Program)(cal:u0):Prop where
 eP:∀f args h v h',cal f args h=some (v,h')->ek h h'
 run:∀f args h v h',cal f args h=some (v,h')->(∀i b,h.get i=some b->i<h.next)->∀σ w args',oj C σ->cU σ h.get w->aJ σ args args'->
  (∀i,h.next<=i->i<h'.next->σ i=none)->
  Calls P f ⟨args'⟩ w λen w'=>∃v' σ',en=.returned v'/\aL σ' v v'/\cU σ' h'.get w'/\Ev σ h.get h.next w σ' h'.get h'.next w'
theorem ob(ok:C.Ok P){cal:u0}(hc:mU C P cal){ops:List Oper}{o:Oper}{e e':Env}{h h':aq}(q:ep C cal ops o e h=some (e',h')):ek h h':=by
 unfold ep at q;split at q
 ·cases q
 ·cases q;exact ek.refl _
 ·split at q
  ·cases q
  ·rename_i v h1 ho;cases q;exact MN ok ho
  ·rename_i f args ho;split at q
   ·cases q
   ·rename_i v h1 hcl;cases q;exact hc.eP _ _ _ _ _ hcl
theorem FP(ok:C.Ok P){cal:u0}(hcal:mU C P cal){ops:Array Oper}{o:Oper}{i:Nat}(hi:ops[i]?=some o){e e':Env}{h h':aq}(q:ep C cal ops.toList o e h=some (e',h'))
  {σ:aY} {a:Act} {w:World} (hw:∀i b,h.get i=some b->i<h.next) (hg:oj C σ) (s:cU σ h.get w) (he:fE σ e a) (hf:∀i,h.next<=i->i<h'.next->σ i=none)
  {Q:Exit->Act->World->Prop} {K:Act->World->Prop}
  (hK:∀σ' a' w',fE σ' e' a'->a'.defers=a.defers->cU σ' h'.get w'->Ev σ h.get h.next w σ' h'.get h'.next w'->K a' w'):wpOp P ops Q i K a w:=by
 unfold wpOp;rw[hi];simp only;have hput:∀(v':Value),(a.put o.dst v').defers=a.defers:=λv'=>by cases o.dst<;>rfl
 unfold ep at q;split at q
 ·cases q
 ·rename_i hwant;cases q;rw[AM he hwant,AT (by simp)];exact hK σ _ w (he.put (fZ σ)) (hput _) s (Ev.refl _ _ _ _)
 ·rename_i hwant;rw[AM he hwant,By rfl];left;have hop:=he.uR hg;unfold Oper.wp;split at q
  ·cases q
  ·rename_i v h1 ho;cases q;have key:∃σ' v' w',O7 ((execOp a.eval o).run P w) v' w'/\aL σ' v v'/\cU σ' h'.get w'/\Ev σ h.get h.next w σ' h'.get h'.next w':=by
    cases hs:cb o.op with
    | true=>
     obtain⟨v2,q1,q2⟩:=kD ok hs ho;cases q1;obtain⟨v',r1,r2⟩:=q2 a.eval σ h.get w s hop (λ_ _=>rfl);exact⟨σ,v',w,.inl r1,r2,s,Ev.refl _ _ _ _⟩
    | false=>
     cases hn:rK o.op with
     | true=>
      obtain⟨v2,b,hb,q1,q2⟩:=tQ ok hn ho;cases q1;obtain⟨l,v',w',r1,r2,r3,r4,_⟩:=q2 a.eval σ h.get w s (hf h.next (AS _) (by simp)) hop
      exact⟨_,v',w',.inl r1,r2,by rw[aq.gL];exact r3,by rw[aq.gL];exact r4⟩
     | false=>
      cases hst:gJ o.op with
      | true=>
       obtain⟨b,cs,_,q1,_,q2⟩:=jc ok hst ho;cases q1;obtain⟨w',r1,r2,r3⟩:=q2 a.eval σ h.get w h.next s hop rfl
       exact⟨σ,undef,w',.inr ⟨r1,rfl⟩,fZ σ,by rw[aq.dQ];exact r2,by rw[aq.dQ];exact r3⟩
      | false=>exact yr ok (by simp[fj,hs,hn,hst]) ho s hw hop hf
   obtain⟨σ',v',w',hd,r1,r2,r3⟩:=key;have he':=(he.mono (r3.le hf)).put (d:=o.dst) r1;rcases hd with hd | ⟨hd,rfl⟩
   ·rw[hd];exact hK σ' _ w' he' (hput _) r2 r3
   ·rw[hd];exact hK σ' _ w' he' (hput _) r2 r3
  ·rename_i f args ho;split at q
   ·cases q
   ·rename_i v h1 hcl;cases q;obtain⟨args',r1,r2⟩:=qE ok ho hop s;rw[r1];simp only[Oper.upon];refine(hcal.run f args h v h' hcl hw σ w args' hg s r2 hf).mono ?_;rintro en w' ⟨v',σ',rfl,r3,r4,r5⟩;exact hK σ' _ w' ((he.mono (r5.le hf)).put r3) (hput _) r4 r5
theorem o7(ok:C.Ok P){cal:u0}(hc:mU C P cal){ops:List Oper}:∀(rest:List Oper) (e e':Env) (h h':aq),xP C cal ops rest e h=some (e',h')->ek h h'
 | [],e,e',h,h',q=>by cases q;exact ek.refl _
 | o::rest,e,e',h,h',q=>by
  unfold xP at q;split at q
  ·cases q
  ·rename_i e1 h1 hs;exact(ob ok hc hs).trans (o7 ok hc rest _ _ _ _ q)
theorem IX(ok:C.Ok P){cal:u0}(hcal:mU C P cal){ops:Array Oper}{Q:Exit->Act->World->Prop}:∀(rest:List Oper) (l:List Nat) (e e':Env) (h h':aq) (σ:aY) (a:Act) (w:World),
  l.map (λi=>ops[i]?)=rest.map some->xP C cal ops.toList rest e h=some (e',h')->
  (∀i b,h.get i=some b->i<h.next)->oj C σ->cU σ h.get w->fE σ e a->(∀i,h.next<=i->i<h'.next->σ i=none)->
  (∀σ' a' w',fE σ' e' a'->a'.defers=a.defers->cU σ' h'.get w'->Ev σ h.get h.next w σ' h'.get h'.next w'->Q .normal a' w')->wpOps P ops Q l a w
 | [],l,e,e',h,h',σ,a,w,hl,q,hw,hg,s,he,hf,hQ=>by
  have:l=[]:=by simpa using hl
  subst this;cases q;exact hQ σ a w he rfl s (Ev.refl _ _ _ _)
 | o::rest,l,e,e',h,h',σ,a,w,hl,q,hw,hg,s,he,hf,hQ=>by
  cases l with
  | nil=>cases hl
  | cons i l=>
   simp only[JN,R1] at hl;unfold xP at q;split at q
   ·cases q
   ·rename_i e1 h1 hs;have hev1:=ob ok hcal hs;have hev2:=o7 ok hcal _ _ _ _ _ q;rw[wpOps_cons];refine FP ok hcal hl.1 hs hw hg s he (λi h1 h2=>hf i h1 (SH h2 hev2.next)) ?_
    intro σ1 a1 w1 r1 r2 r3 r4;have hle:=r4.le (λi h1 h2=>hf i h1 (SH h2 hev2.next))
    refine IX ok hcal rest l e1 e' h1 h' σ1 a1 w1 hl.2 q (hev1.wf hw) (hg.mono hle) r3 r1 (λi h2 h3=>?_) ?_
    ·rw[r4.sig i (.inr h2)];exact hf i (AI hev1.next h2) h3
    ·intro σ2 a2 w2 r5 r6 r7 r8;exact hQ σ2 a2 w2 r5 (r6.trans r2) r7 (r4.trans r8 hev1.next hev2.next)
end
end Go.Abs
/-
 Soundness,seventeenth part: a region whose order is open: the plain facts.
-/
namespace Go.Abs
open Go
theorem gO{masks:List Nat}{o:Oper}{i:Nat}(h:(bH masks o).testBit i=true) :
  ∃x∈o.after.toList,Region.binds .any x=true/\(i=x.on\/((masks[x.on]?).getD 0).testBit i=true):=by
 unfold bH at h;have key:∀(l:List Edge) (s:Nat),(l.foldl (λs x=>bif Region.binds .any x then s ||| 2 ^ x.on ||| (masks[x.on]?).getD 0 else s) s).testBit i=true->
   s.testBit i=true\/∃x∈l,Region.binds .any x=true/\(i=x.on\/((masks[x.on]?).getD 0).testBit i=true):=by
  intro l
  induction l with
  | nil=>intro s hs;exact .inl hs
  | cons x l ih=>
   intro s hs;simp only[List.foldl_cons] at hs;rcases ih _ hs with h1 | ⟨y,hy,h2⟩
   ·cases hb:Region.binds .any x with
    | false=>simp only[hb,RO] at h1;exact .inl h1
    | true=>
     simp only[hb,RH,Nat.testBit_or,SZ] at h1;rcases h1 with (h1 | h1) | h1
     ·exact .inl h1
     ·rw[UH] at h1;exact .inr ⟨x,by simp,hb,.inl (by have:=S4 h1;exact this.symm)⟩
     ·exact .inr ⟨x,by simp,hb,.inr h1⟩
   ·exact .inr ⟨y,by simp[hy],h2⟩
 rcases key _ 0 h with h1 | h1
 ·simp at h1
 ·exact h1
theorem kV:∀(ops:List Oper) (acc:List Nat) (k:Nat),k<acc.length->(bp acc ops)[k]?=acc[k]?
 | [],_,_,_=>rfl
 | o::ops,acc,k,h=>by
  unfold bp;rw[kV ops _ k (by simp;omega),RW h]
theorem qH:∀(ops:List Oper) (acc:List Nat) (j:Nat) (o:Oper),ops[j]?=some o->
  ∃l,(bp acc ops)[acc.length+j]?=some (bH l o)/\∀k,k<acc.length+j->l[k]?=(bp acc ops)[k]?
 | [],acc,j,o,h=>by simp at h
 | p::ops,acc,0,o,h=>by
  simp at h;subst h;unfold bp;refine⟨acc,?_,λk hk=>?_⟩
  ·rw[kV ops _ _ (by simp)];simp
  ·rw[kV ops _ k (by simp;omega),RW (by omega)]
 | p::ops,acc,j+1,o,h=>by
  unfold bp;obtain⟨l,h1,h2⟩:=qH ops (acc++[bH acc p]) j o (by simpa using h);simp only[RP,R4,UJ] at h1 h2;exact⟨l,by rw[show acc.length+(j+1)=acc.length+(0+1)+j from by omega];exact h1,λk hk=>h2 k (by omega)⟩
def before(ops:List Oper)(j:Nat):Nat:=((bp [] ops)[j]?).getD 0
theorem wX{ops:List Oper}{j i:Nat}{o:Oper}(ho:ops[j]?=some o)(h:(before ops j).testBit i=true) :
  ∃x∈o.after.toList,Region.binds .any x=true/\(i=x.on\/(x.on<j/\(before ops x.on).testBit i=true)\/¬x.on<j):=by
 obtain⟨l,h1,h2⟩:=qH ops [] j o ho;simp only[UJ,RY] at h1 h2;unfold before at h;rw[h1] at h;obtain⟨x,hx,hb,hor⟩:=gO h;refine⟨x,hx,hb,?_⟩;rcases hor with h3 | h3
 ·exact .inl h3
 ·by_cases hlt:x.on<j
  ·refine .inr (.inl ⟨hlt,?_⟩);unfold before;rw[<-h2 x.on hlt];exact h3
  ·exact .inr (.inr hlt)
theorem nZ:∀{ops:List Oper} {k:Nat},jM ops k=true->∀(j:Nat) (o:Oper),ops[j]?=some o->
  (∀x∈o.after.toList,Region.binds .any x=true->x.on<k+j)/\(∀q b,o.guard=some (q,b)->∃x∈o.after.toList,x.on=q/\Region.binds .any x=true)
 | [],k,_,j,o,h=>by simp at h
 | p::ops,k,he,0,o,h=>by
  simp at h;subst h;unfold jM at he;simp only[IN] at he;obtain⟨⟨h1,h2⟩,_⟩:=he;refine⟨λx hx hb=>?_,λq b hg=>?_⟩
  ·have:=SI.1 h1 x hx;simp only[hb,Tp,Bool.false_or] at this;simpa using this
  ·rw[hg] at h2;simp only[Sv,IN,SK] at h2;exact h2
 | p::ops,k,he,j+1,o,h=>by
  unfold jM at he;simp only[IN] at he;obtain⟨_,h3⟩:=he;have:=nZ h3 j o (by simpa using h);rw[show k+1+j=k+(j+1) from by omega] at this;exact this
theorem tD{ops:List Oper}(he:jM ops 0=true):∀(j i:Nat) (o:Oper),ops[j]?=some o->(before ops j).testBit i=true->i<j:=by
 intro j
 induction j using Nat.strongRecOn with
 | _ j ih=>
  intro i o ho h;obtain⟨x,hx,hb,hor⟩:=wX ho h;have hlt:x.on<j:=by have:=(nZ he j o ho).1 x hx hb;omega
  rcases hor with h1 | ⟨_,h1⟩ | h1
  ·omega
  ·cases ho2:ops[x.on]? with
   | none=>
    have:(before ops x.on)=0:=by
     unfold before;have hl:∀(ops:List Oper) (acc:List Nat),(bp acc ops).length=acc.length+ops.length:=by
      intro ops
      induction ops with
      | nil=>intro acc;simp[bp]
      | cons p ops ih=>intro acc;unfold bp;rw[ih];simp;omega
     rw[R3 (by rw[hl];simp;exact TR.1 ho2)];rfl
    rw[this] at h1;simp at h1
   | some o2=>have:=ih x.on hlt i o2 ho2 h1;omega
  ·exact absurd hlt h1
def kZ(ops:List Oper)(D:Nat->Prop):Prop:=∀j o,D j->ops[j]?=some o->∀x∈o.after.toList,Region.binds .any x=true->D x.on
theorem kU{ops:List Oper}(he:jM ops 0=true){D:Nat->Prop}(hD:kZ ops D):∀(j i:Nat) (o:Oper),ops[j]?=some o->
  (∀x∈o.after.toList,Region.binds .any x=true->D x.on)->(before ops j).testBit i=true->D i:=by
 intro j
 induction j using Nat.strongRecOn with
 | _ j ih=>
  intro i o ho hd h;obtain⟨x,hx,hb,hor⟩:=wX ho h;have hlt:x.on<j:=by have:=(nZ he j o ho).1 x hx hb;omega
  have hxD:=hd x hx hb;rcases hor with h1 | ⟨_,h1⟩ | h1
  ·subst h1;exact hxD
  ·cases ho2:ops[x.on]? with
   | none=>
    have:(before ops x.on)=0:=by
     unfold before;have hl:∀(ops:List Oper) (acc:List Nat),(bp acc ops).length=acc.length+ops.length:=by
      intro ops
      induction ops with
      | nil=>intro acc;simp[bp]
      | cons p ops ih=>intro acc;unfold bp;rw[ih];simp;omega
     rw[R3 (by rw[hl];simp;exact TR.1 ho2)];rfl
    rw[this] at h1;simp at h1
   | some o2=>exact ih x.on hlt i o2 ho2 (hD x.on o2 hxD ho2) h1
  ·exact absurd hlt h1
theorem C5{ops:List Oper}{b:Oper}{j m:Nat}:∀(l:List Oper) (i:Nat),oK.inner ops b j m l i=true->∀(k:Nat) (a:Oper),l[k]?=some a->i+k<j->
  m.testBit (i+k)=true\/kq ops a b=true
 | [],i,_,k,a,h,_=>by simp at h
 | p::l,i,hi,k,a,h,hk=>by
  unfold oK.inner at hi;have hji:Nat.ble j i=false:=by
   cases hb:Nat.ble j i with
   | false=>rfl
   | true=>have:=S1 hb;omega
  simp only[hji,RO,IN,SZ] at hi;cases k with
  | zero=>simp at h;subst h;exact hi.1
  | succ k=>
   have:=C5 l (i+1) hi.2 k a (by simpa using h) (by omega);rw[show i+1+k=i+(k+1) from by omega] at this;exact this
theorem Cj{ops:List Oper}:∀{rest:List Oper} {j0:Nat},oK ops (bp [] ops) rest j0=true->∀(j:Nat) (b:Oper),rest[j]?=some b->∀(k:Nat) (a:Oper),ops[k]?=some a->k<j0+j->
  (before ops (j0+j)).testBit k=true\/kq ops a b=true
 | [],j0,_,j,b,h,_,_,_,_=>by simp at h
 | p::rest,j0,hp,j,b,h,k,a,hk,hlt=>by
  unfold oK at hp;simp only[IN] at hp;cases j with
  | zero=>
   simp at h;subst h;have:=C5 ops 0 hp.1 k a hk (by omega);simpa [before] using this
  | succ j=>
   have:=Cj hp.2 j b (by simpa using h) k a hk (by omega);rw[show j0+1+j=j0+(j+1) from by omega] at this;exact this
theorem y8{ops:List Oper}{a b:Oper}(h:kq ops a b=true){d:Tmp}(hd:a.dst=some d):d∉tmpsOf ops b/\b.dst≠some d:=by
 unfold kq at h;simp only[hd,IN,Tu] at h;obtain⟨⟨⟨⟨h1,h2⟩,_⟩,_⟩,_⟩:=h;refine⟨λhm=>?_,λhm=>?_⟩
 ·rw[List.contains_iff_mem.2 hm] at h1;cases h1
 ·rw[hm] at h2;simp at h2
theorem Er{ops:List Oper}{a b:Oper}(h:kq ops a b=true){d:Tmp}(hd:b.dst=some d):d∉tmpsOf ops a:=by
 unfold kq at h;simp only[hd,IN,Tu] at h;obtain⟨⟨⟨_,h1⟩,_⟩,_⟩:=h;intro hm;rw[List.contains_iff_mem.2 hm] at h1;cases h1
theorem qp{ops:List Oper}{a b:Oper}(h:kq ops a b=true):¬(fj b.op=true/\cb a.op=false)/\¬(fj a.op=true/\gJ b.op=true):=by
 unfold kq at h;simp only[IN,Tu] at h;obtain⟨⟨_,h1⟩,h2⟩:=h;refine⟨λ⟨x,y⟩=>?_,λ⟨x,y⟩=>?_⟩
 ·rw[x,y] at h1;cases h1
 ·rw[x,y] at h2;cases h2
theorem zA{mi i:Nat}{masks:List Nat}{look:List Nat}{fl:aq->Bool}:∀(os:List Oper) (tr:List xH) (j0:Nat),ez.outer.inner masks fl i look mi os tr j0=true->
  ∀(k:Nat) (o:Oper) (h h1:aq) (lk:List Nat×(aq->Bool)),os[k]?=some o->tr[k]?=some (h,h1,lk)->
   cb o.op=true\/i=j0+k\/mi.testBit (j0+k)=true\/((masks[j0+k]?).getD 0).testBit i=true\/(∀x∈look,h.get x=h1.get x)\/(i<j0+k/\fl h1=true)
 | [],_,_,_,k,o,h,h1,lk,ho,_=>by simp at ho
 | _::_,[],_,_,k,o,h,h1,lk,_,ht=>by simp at ht
 | p::os,(g,g1,l1,l2)::tr,j0,hi,k,o,h,h1,lk,ho,ht=>by
  unfold ez.outer.inner at hi;simp only[IN,SZ] at hi;cases k with
  | zero=>
   simp at ho ht;subst ho;obtain⟨rfl,rfl,rfl⟩:=ht;rcases hi.1 with ((((h2 | h2) | h2) | h2) | h2) | h2
   ·exact .inl h2
   ·exact .inr (.inl (by simpa using h2))
   ·exact .inr (.inr (.inl h2))
   ·exact .inr (.inr (.inr (.inl h2)))
   ·exact .inr (.inr (.inr (.inr (.inl λx hx=>BT (SI.1 h2 x hx)))))
   ·exact .inr (.inr (.inr (.inr (.inr ⟨SH (S1 h2.1) (AS _),h2.2⟩))))
  | succ k=>
   have:=zA os tr (j0+1) hi.2 k o h h1 lk (by simpa using ho) (by simpa using ht);rw[show j0+1+k=j0+(k+1) from by omega] at this;exact this
theorem Dg{ops:List Oper}{masks:List Nat}{tr:List xH}:∀(rest:List xH) (i0:Nat),ez.outer ops masks tr rest i0=true->
  ∀(i:Nat) (g g1:aq) (look:List Nat) (fl:aq->Bool),rest[i]?=some (g,g1,look,fl)->∀(k:Nat) (o:Oper) (h h1:aq) (lk:List Nat×(aq->Bool)),ops[k]?=some o->tr[k]?=some (h,h1,lk)->∀x∈look,
   cb o.op=true\/i0+i=k\/((masks[i0+i]?).getD 0).testBit k=true\/((masks[k]?).getD 0).testBit (i0+i)=true\/h.get x=h1.get x\/(i0+i<k/\fl h1=true)
 | [],_,_,i,g,g1,look,fl,h,_,_,_,_,_,_,_,_,_=>by simp at h
 | (p,p1,pl,pf)::rest,i0,hc,i,g,g1,look,fl,hi,k,o,h,h1,lk,ho,ht,x,hx=>by
  unfold ez.outer at hc;simp only[IN] at hc;cases i with
  | zero=>
   simp at hi;obtain⟨rfl,rfl,rfl,rfl⟩:=hi;have hc1:=hc.1;split at hc1
   ·cases hx
   ·have:=zA ops tr 0 hc1 k o h h1 lk ho ht;simp only[RY] at this;rcases this with h2 | h2 | h2 | h2 | h2 | h2
    ·exact .inl h2
    ·exact .inr (.inl h2)
    ·exact .inr (.inr (.inl h2))
    ·exact .inr (.inr (.inr (.inl h2)))
    ·exact .inr (.inr (.inr (.inr (.inl (h2 x hx)))))
    ·exact .inr (.inr (.inr (.inr (.inr ⟨by simpa using h2.1,h2.2⟩))))
  | succ i=>
   have:=Dg rest (i0+1) hc.2 i g g1 look fl (by simpa using hi) k o h h1 lk ho ht x hx;rw[show i0+1+i=i0+(i+1) from by omega] at this;exact this
end Go.Abs
/-
 Soundness,eighteenth part: a region whose order is open: whatever order,the same comes out.
-/
namespace Go.Abs
open Go
section
variable {C:Ctx}{P:Program}
theorem iX{ρ ρ2:Operand->Option Value}:∀(xs:List Operand),(∀x∈xs,ρ x=ρ2 x)->dI ρ xs=dI ρ2 xs
 | [],_=>rfl
 | x::xs,h=>by simp only[dI,h x (by simp),iX xs λy hy=>h y (by simp[hy])]
theorem oz{ρ ρ2:Operand->Option Value}:∀(xs:List (Nat×Operand)),(∀x∈xs.map (·.2),ρ x=ρ2 x)->eN ρ xs=eN ρ2 xs
 | [],_=>rfl
 | (i,x)::xs,h=>by simp only[eN,h x (by simp),oz xs λy hy=>h y (by simp only[JN,R0];exact .inr hy)]
theorem tZ{ρ ρ2:Operand->Option Value}{x:Option Operand}(h:∀y,x=some y->ρ y=ρ2 y):lH ρ x=lH ρ2 x:=by
 cases x with
 | none=>rfl
 | some y=>simp only[lH,h y rfl]
theorem GM{ρ ρ2:Operand->Option Value}{h:aq}{op:Op}(hx:∀x∈op.operands,ρ x=ρ2 x):aN C ρ h op=aN C ρ2 h op/\bE ρ op=bE ρ2 op:=by
 cases op with
 | build t ps=>
  have:=oz (ρ:=ρ) (ρ2:=ρ2) ps.toList (λx hm=>hx x (by simpa [Op.operands] using hm));simp only[aN,bE,this,and_self]
 | buildSlice t n ps=>
  have:=oz (ρ:=ρ) (ρ2:=ρ2) ps.toList (λx hm=>hx x (by simpa [Op.operands] using hm));simp only[aN,bE,this,and_self]
 | makeFunc fn xs ys=>
  have h1:=iX (ρ:=ρ) (ρ2:=ρ2) xs.toList (λx hm=>hx x (by simp[Op.operands,SS.1 hm]));have h2:=iX (ρ:=ρ) (ρ2:=ρ2) ys.toList (λx hm=>hx x (by simp[Op.operands,SS.1 hm]));simp only[aN,bE,h1,h2,and_self]
 | slice t x lo hi mx=>
  have h0:=hx x (by simp[Op.operands]);have h1:=tZ (ρ:=ρ) (ρ2:=ρ2) (x:=lo) (λy hy=>hx y (by subst hy;simp[Op.operands]));have h2:=tZ (ρ:=ρ) (ρ2:=ρ2) (x:=hi) (λy hy=>hx y (by subst hy;simp[Op.operands]));have h3:=tZ (ρ:=ρ) (ρ2:=ρ2) (x:=mx) (λy hy=>hx y (by subst hy;simp[Op.operands]));simp only[aN,bE,h0,h1,h2,h3,and_self]
 | call c=>
  cases hc:c.callee with
  | value f=>
   have h0:=hx f (by simp[Op.operands,Call.operands,hc]);have h1:=iX (ρ:=ρ) (ρ2:=ρ2) c.args.toList (λx hm=>hx x (by simp[Op.operands,Call.operands,SS.1 hm]));simp only[aN,bE,hc,h0,h1,and_self]
  | invoke f m=>
   have h0:=hx f (by simp[Op.operands,Call.operands,hc]);have h1:=iX (ρ:=ρ) (ρ2:=ρ2) c.args.toList (λx hm=>hx x (by simp[Op.operands,Call.operands,SS.1 hm]));simp only[aN,bE,hc,h0,h1,and_self]
  | builtin b=>
   have h1:=iX (ρ:=ρ) (ρ2:=ρ2) c.args.toList (λx hm=>hx x (by simp[Op.operands,Call.operands,SS.1 hm]));simp only[aN,hc,h1,true_and];cases b<;>simp only[bE,hc];cases hax:c.args.toList with
   | nil=>rfl
   | cons a as=>
    have h0:=hx a (by
     have:a∈c.args:=SS.1 (by rw[hax];simp);simp[Op.operands,Call.operands,this])
    simp only[h0]
 | makeMap t r=>cases r<;>exact⟨rfl,rfl⟩
 | move x | assign x | load t x | nilCheck x | unOp t x t2 | convert t t2 x | makeInterface t x | fieldAddr t x f | field t x f | extract x i | typeAssert x xt t b | box t x=>
  simp only[Op.operands] at hx;simp[aN,bE,hx]
 | pick x y z=>
  simp only[Op.operands] at hx;simp[aN,bE,hx x (by simp),hx y (by simp),hx z (by simp)]
 | store t x y | binOp o t x y t2 | makeSlice t x y | indexAddr t x y | index t x y | lookup t x y b | mapEntry t x y=>
  simp only[Op.operands] at hx;simp[aN,bE,hx x (by simp),hx y (by simp)]
 | mapUpdate t x y z | insert t x y z | entryStore t x y z=>
  simp only[Op.operands] at hx;simp[aN,bE,hx x (by simp),hx y (by simp),hx z (by simp)]
 | _=>exact⟨rfl,rfl⟩
theorem mH{cal:u0}{ops:List Oper}:∀(rest:List Oper) (e e':Env) (h h':aq) (tr:List xH),iQ C cal ops rest e h=some (e',h',tr)->
  ∃(es:Nat->Env) (hs:Nat->aq),es 0=e/\hs 0=h/\es rest.length=e'/\hs rest.length=h'/\
   ∀(j:Nat) (o:Oper),rest[j]?=some o->ep C cal ops o (es j) (hs j)=some (es (j+1),hs (j+1))/\tr[j]?=some (hs j,hs (j+1),bE ((es j).eval C) o.op,lN C ((es j).eval C) (hs j) o.op)
 | [],e,e',h,h',tr,q=>by
  cases q;exact⟨λ_=>e,λ_=>h,rfl,rfl,rfl,rfl,λj o ho=>by simp at ho⟩
 | o::rest,e,e',h,h',tr,q=>by
  unfold iQ at q;split at q
  ·cases q
  ·rename_i e1 h1 hst;split at q
   ·cases q
   ·rename_i e2 h2 l ht;cases q;obtain⟨es,hs,p1,p2,p3,p4,p5⟩:=mH rest e1 e' h1 h' l ht;refine⟨λj=>match j with | 0=>e | j+1=>es j,λj=>match j with | 0=>h | j+1=>hs j,rfl,rfl,p3,p4,λj p hp=>?_⟩
    cases j with
    | zero=>
     simp at hp;subst hp;simp only[p1,p2];exact⟨hst,by simp⟩
    | succ j=>exact⟨(p5 j p (by simpa using hp)).1,by simpa using (p5 j p (by simpa using hp)).2⟩
structure cP(C:Ctx)(P:Program)(cal:u0)(ops:Array Oper)(es:Nat->Env)(hs:Nat->aq)(tr:List xH):Prop where
 ok:C.Ok P
 L7:mU C P cal
 step:∀(j:Nat) (o:Oper),ops[j]?=some o->ep C cal ops.toList o (es j) (hs j)=some (es (j+1),hs (j+1))/\tr[j]?=some (hs j,hs (j+1),bE ((es j).eval C) o.op,lN C ((es j).eval C) (hs j) o.op)
 wf:∀i b,(hs 0).get i=some b->i<(hs 0).next
 draw:mf ops.toList=true
 OK:ez ops.toList (bp [] ops.toList) tr=true
variable {cal:u0}{ops:Array Oper}{es:Nat->Env}{hs:Nat->aq}{tr:List xH}
theorem cP.eP(d:cP C P cal ops es hs tr){j:Nat}(h:j<ops.size):ek (hs j) (hs (j+1)):=by
 have ho:ops[j]?=some ops[j]:=by simp[h]
 exact ob d.ok d.L7 (d.step j _ ho).1
theorem cP.nt(d:cP C P cal ops es hs tr){i j:Nat}(hij:i<=j)(h:j<=ops.size):ek (hs i) (hs j):=by
 induction j with
 | zero =>
  have : i = 0 := by omega
  subst this;exact ek.refl _
 | succ j ih=>
  by_cases hi:i=j+1
  ·subst hi;exact ek.refl _
  ·exact(ih (by omega) (by omega)).trans (d.eP (by omega))
theorem cP.Kl(d:cP C P cal ops es hs tr){j:Nat}(h:j<=ops.size):∀i b,(hs j).get i=some b->i<(hs j).next:=(d.nt (R6 j) h).wf d.wf
theorem cP.uO(d:cP C P cal ops es hs tr):jM ops.toList 0=true:=by
 have:=d.draw;simp only[mf,IN] at this;exact this.1
theorem cP.pair(d:cP C P cal ops es hs tr){i j:Nat}{a b:Oper}(ha:ops[i]?=some a)(hb:ops[j]?=some b)(h:i<j):(before ops.toList j).testBit i=true\/kq ops.toList a b=true:=by
 have:=d.draw;simp only[mf,IN] at this;have:=Cj this.2 j b (by simpa using hb) i a (by simpa using ha) (by omega);simpa using this
def cG(hs:Nat->aq)(k x:Nat):Prop:=(hs (k+1)).get x≠(hs k).get x
theorem cP.kinds(d:cP C P cal ops es hs tr){k:Nat}{o:Oper}(ho:ops[k]?=some o) :
  (cb o.op=true->hs (k+1)=hs k)/\(rK o.op=true->∀x,cG hs k x->x=(hs k).next)/\(gJ o.op=true->∀x,cG hs k x->bE ((es k).eval C) o.op=[x]/\∃B,(hs k).get x=some B):=by
 have q:=(d.step k o ho).1;unfold ep at q;split at q
 ·cases q
 ·simp only[IT,Sb] at q;obtain⟨_,q2⟩:=q;have hno:∀x,¬cG hs k x:=λx hx=>hx (by rw[<-q2]);exact⟨λ_=>q2.symm,λ_ x hx=>absurd hx (hno x),λ_ x hx=>absurd hx (hno x)⟩
 ·split at q
  ·cases q
  ·rename_i v h1 hop;simp only[IT,Sb] at q;obtain⟨q1,q2⟩:=q;refine⟨λhst=>?_,λhn x hx=>?_,λhst x hx=>?_⟩
   ·obtain⟨v2,r1,_⟩:=kD d.ok hst hop;cases r1;exact q2.symm
   ·obtain⟨v2,b,_,r1,_⟩:=tQ d.ok hn hop;cases r1;unfold cG at hx;rw[<-q2,aq.dP] at hx;split at hx
    ·assumption
    ·exact absurd rfl hx
   ·obtain⟨b,cs,r0,r1,⟨cs0,r2⟩,_⟩:=jc d.ok hst hop;cases r1;unfold cG at hx;rw[<-q2,aq.dy] at hx;split at hx
    ·rename_i hxb;subst hxb;exact⟨r0,_,r2⟩
    ·exact absurd rfl hx
  ·rename_i f args hop;refine⟨λhst=>?_,λhn x hx=>?_,λhst x hx=>?_⟩
   ·obtain⟨v2,r1,_⟩:=kD d.ok hst hop;cases r1
   ·obtain⟨v2,b,_,r1,_⟩:=tQ d.ok hn hop;cases r1
   ·obtain⟨b,cs,r0,r1,_⟩:=jc d.ok hst hop;cases r1
open Classical in
noncomputable def G(hs:Nat->aq)(D:Nat->Prop):Nat->Nat->Option aE
 | 0,x=>(hs 0).get x
 | k+1,x=>if D k/\cG hs k x then (hs (k+1)).get x else G hs D k x
open Classical in
noncomputable def V(ops:Array Oper)(es:Nat->Env)(D:Nat->Prop):Nat->Nat->Option Value
 | 0,t=>(es 0).get t
 | k+1,t=>if D k/\(ops[k]?).bind (·.dst)=some t then (es (k+1)).get t else V ops es D k t
theorem sS{D:Nat->Prop}{x:Nat}:∀{j:Nat},(∀k,k<j->cG hs k x->D k)->G hs D j x=(hs j).get x
 | 0,_=>rfl
 | j+1,h=>by
  unfold G;by_cases hc:cG hs j x
  ·rw[By ⟨h j (by omega) hc,hc⟩]
  ·rw[AT (λq=>hc q.2),sS λk hk=>h k (by omega)];unfold cG at hc;exact(Classical.not_not.1 hc).symm
theorem mr{D:Nat->Prop}{x i:Nat}:∀{j:Nat},i<=j->(∀k,i<=k->k<j->¬(D k/\cG hs k x))->G hs D j x=G hs D i x
 | 0, h, _ => by
  have : i = 0 := by omega
  subst this;rfl
 | j+1,h,hn=>by
  by_cases hi:i=j+1
  ·subst hi;rfl
  ·rw[G,AT (hn j (by omega) (by omega)),mr (by omega) λk h1 h2=>hn k h1 (by omega)]
theorem qR{D D':Nat->Prop}{x:Nat}:∀{j:Nat},(∀k,k<j->cG hs k x->(D k↔D' k))->G hs D j x=G hs D' j x
 | 0,_=>rfl
 | j+1,h=>by
  unfold G;rw[qR λk hk=>h k (by omega)];by_cases hc:cG hs j x
  ·by_cases hd:D j
   ·rw[By ⟨hd,hc⟩,By ⟨(h j (by omega) hc).1 hd,hc⟩]
   ·rw[AT (λq=>hd q.1),AT (λq=>hd ((h j (by omega) hc).2 q.1))]
  ·rw[AT (λq=>hc q.2),AT (λq=>hc q.2)]
theorem As(d:cP C P cal ops es hs tr){D:Nat->Prop}{t:Nat}:∀{j:Nat},j<=ops.size->(∀k,k<j->(ops[k]?).bind (·.dst)=some t->D k)->V ops es D j t=(es j).get t
 | 0,_,_=>rfl
 | j+1,hj,h=>by
  unfold V;by_cases hc:(ops[j]?).bind (·.dst)=some t
  ·rw[By ⟨h j (by omega) hc,hc⟩]
  ·rw[AT (λq=>hc q.2),As d (by omega) λk hk=>h k (by omega)];have ho:ops[j]?=some ops[j]:=by simp[show j<ops.size from by omega]
   have q:=(d.step j _ ho).1;have hput:∀v,((es j).put ops[j].dst v).get t=(es j).get t:=by
    intro v;unfold Env.put;cases hd:ops[j].dst with
    | none=>rfl
    | some dd=>
     simp only;have hdt:t≠dd:=by
      intro e;subst e;exact hc (by rw[ho];exact hd)
     cases hb:Nat.blt dd (es j).n with
     | true=>exact T.vQ _ _ _ _ hdt
     | false=>rfl
   unfold ep at q;split at q
   ·cases q
   ·simp only[IT,Sb] at q;rw[<-q.1,hput]
   ·split at q
    ·cases q
    ·simp only[IT,Sb] at q;rw[<-q.1,hput]
    ·split at q
     ·cases q
     ·simp only[IT,Sb] at q;rw[<-q.1,hput]
theorem qV{D:Nat->Prop}{t i:Nat}:∀{j:Nat},i<=j->(∀k,i<=k->k<j->¬(D k/\(ops[k]?).bind (·.dst)=some t))->V ops es D j t=V ops es D i t
 | 0, h, _ => by
  have : i = 0 := by omega
  subst this;rfl
 | j+1,h,hn=>by
  by_cases hi:i=j+1
  ·subst hi;rfl
  ·rw[V,AT (hn j (by omega) (by omega)),qV (by omega) λk h1 h2=>hn k h1 (by omega)]
theorem Fp{D D':Nat->Prop}{t:Nat}:∀{j:Nat},(∀k,k<j->(ops[k]?).bind (·.dst)=some t->(D k↔D' k))->V ops es D j t=V ops es D' j t
 | 0,_=>rfl
 | j+1,h=>by
  unfold V;rw[Fp λk hk=>h k (by omega)];by_cases hc:(ops[j]?).bind (·.dst)=some t
  ·by_cases hd:D j
   ·rw[By ⟨hd,hc⟩,By ⟨(h j (by omega) hc).1 hd,hc⟩]
   ·rw[AT (λq=>hd q.1),AT (λq=>hd ((h j (by omega) hc).2 q.1))]
  ·rw[AT (λq=>hc q.2),AT (λq=>hc q.2)]
end
end Go.Abs
/-
 Soundness,nineteenth part: one step of a region whose order is open.
-/
namespace Go.Abs
open Go
section
variable {C:Ctx}{P:Program}
theorem Ev.FD{σ:aY}{g:Nat->Option aE}{n:Nat}{w:World}{σ':aY}{g':Nat->Option aE}{n':Nat}{w':World}(h:Ev σ g n w σ' g' n' w'){n0 N:Nat}(h0:n0<=n)(h1:n'<=N) :
  Ev σ g n0 w σ' g' N w':=⟨h.size,h.os,h.out,h.tape,h.mg,h.own,λi hi=>h.sig i (by omega)⟩
theorem Ev.comp{σ:aY}{g:Nat->Option aE}{n N:Nat}{w:World}{σ1:aY}{g1:Nat->Option aE}{w1:World}{σ2:aY}{g2:Nat->Option aE}{w2:World}
  (a:Ev σ g n w σ1 g1 N w1) (b:Ev σ1 g1 n w1 σ2 g2 N w2):Ev σ g n w σ2 g2 N w2 where
 size:=AI a.size b.size
 os:=b.os.trans a.os
 out:=b.out.trans a.out
 tape:=b.tape.trans a.tape
 mg:=λk hk hn=>by
  rw[b.mg k (SH hk a.size) (λi B l hg hr hs hb=>?_),a.mg k hk hn];rcases a.own i B l hg hr hs with h1 | ⟨j,D,m,h1,h2,h3,h4⟩
  ·omega
  ·exact hn j D m h1 h2 h3 (h4.trans hb)
 own:=λi B l hg hr hs=>by
  rcases b.own i B l hg hr hs with h1 | ⟨j,D,m,h1,h2,h3,h4⟩
  ·exact .inl (AI a.size h1)
  ·rcases a.own j D m h1 h2 h3 with h5 | ⟨k,E,q,h5,h6,h7,h8⟩
   ·exact .inl (by omega)
   ·exact .inr ⟨k,E,q,h5,h6,h7,h8.trans h4⟩
 sig:=λi hi=>by rw[b.sig i hi,a.sig i hi]
structure Inv(C:Ctx)(ops:Array Oper)(es:Nat->Env)(hs:Nat->aq)(σ0:aY)(w0:World)(df:List Deferred)(D:Nat->Prop)(σ:aY)(a:Act)(w:World):Prop where
 gX:oj C σ
 lU:cU σ (G hs D ops.size) w
 size:(es 0).n=a.tmps.size
 env:∀(t:Nat) (v:Value),V ops es D ops.size t=some v->∃v',a.tmps[t]?=some v'/\aL σ v v'
 fresh:∀k,k<ops.size->¬D k->∀i,(hs k).next<=i->i<(hs (k+1)).next->σ i=none
 ev:Ev σ0 (hs 0).get (hs 0).next w0 σ (G hs D ops.size) (hs ops.size).next w
 defers:a.defers=df
variable {cal:u0}{ops:Array Oper}{es:Nat->Env}{hs:Nat->aq}{tr:List xH}
theorem Env.HP(e:Env)(d:Option Tmp)(v:Value):(e.put d v).n=e.n:=by
 unfold Env.put;cases d with
 | none=>rfl
 | some d=>simp only;cases Nat.blt d e.n<;>rfl
theorem Nx{cal:u0}{l:List Oper}{o:Oper}{e e':Env}{h h':aq}(q:ep C cal l o e h=some (e',h')):e'.n=e.n:=by
 unfold ep at q;split at q
 ·cases q
 ·simp only[IT,Sb] at q;rw[<-q.1,Env.HP]
 ·split at q
  ·cases q
  ·simp only[IT,Sb] at q;rw[<-q.1,Env.HP]
  ·split at q
   ·cases q
   ·simp only[IT,Sb] at q;rw[<-q.1,Env.HP]
theorem cP.ns(d:cP C P cal ops es hs tr):∀{j:Nat},j<=ops.size->(es j).n=(es 0).n
 | 0,_=>rfl
 | j+1,h=>by
  have ho:ops[j]?=some ops[j]:=by simp[show j<ops.size from by omega]
  rw[Nx (d.step j _ ho).1,d.ns (by omega)]
structure cr(ops:Array Oper)(D:Nat->Prop)(j:Nat)(o:Oper):Prop where
 at_:ops[j]?=some o
 not:¬D j
 uO:∀x∈o.after.toList,Region.binds .any x=true->D x.on
 closed:kZ ops.toList D
theorem cr.lt{D:Nat->Prop}{j:Nat}{o:Oper}(r:cr ops D j o):j<ops.size:=(RV.1 r.at_).1
theorem cr.Pc{D:Nat->Prop}{j:Nat}{o:Oper}(r:cr ops D j o)(d:cP C P cal ops es hs tr){k:Nat}(h:(before ops.toList j).testBit k=true):D k:=
 kU d.uO r.closed j k o (by simpa using r.at_) r.uO h
theorem cr.desc{D:Nat->Prop}{j:Nat}{o:Oper}(r:cr ops D j o)(d:cP C P cal ops es hs tr){k:Nat}{p:Oper}(hk:D k)(hp:ops[k]?=some p)(h:(before ops.toList k).testBit j=true):False:=
 r.not (kU d.uO r.closed k j p (by simpa using hp) (λx hx hb=>r.closed k p hk (by simpa using hp) x hx hb) h)
theorem MG{ops:Array Oper}{k t:Nat}(h:(ops[k]?).bind (·.dst)=some t):∃p,ops[k]?=some p/\p.dst=some t:=by
 cases hp:ops[k]? with
 | none=>simp[hp] at h
 | some p=>exact⟨p,rfl,by simpa [hp] using h⟩
theorem cr.uY{D:Nat->Prop}{j:Nat}{o:Oper}(r:cr ops D j o)(d:cP C P cal ops es hs tr){t:Nat}(ht:t∈tmpsOf ops.toList o\/o.dst=some t) :
  ∀k,k≠j->(ops[k]?).bind (·.dst)=some t->(k<j->D k)/\(j<k->¬D k):=by
 intro k hkj hd;obtain⟨p,hp,hpd⟩:=MG hd;refine⟨λhlt=>?_,λhlt hk=>?_⟩
 ·rcases d.pair hp r.at_ hlt with h | h
  ·exact r.Pc d h
  ·obtain⟨h1,h2⟩:=y8 h hpd;rcases ht with ht | ht
   ·exact absurd ht h1
   ·exact absurd ht h2
 ·rcases d.pair r.at_ hp hlt with h | h
  ·exact r.desc d hk hp h
  ·rcases ht with ht | ht
   ·exact absurd ht (Er h hpd)
   ·exact absurd hpd (y8 h ht).2
theorem cr.read{D:Nat->Prop}{j:Nat}{o:Oper}(r:cr ops D j o)(d:cP C P cal ops es hs tr){t:Nat}(ht:t∈tmpsOf ops.toList o\/o.dst=some t) :
  V ops es D ops.size t=(es j).get t:=by
 have hlt:=r.lt;rw[qV (i:=j) (by omega),As d (by omega)]
 ·intro k hk hd;exact(r.uY d ht k (by omega) hd).1 hk
 ·rintro k h1 h2 ⟨hD,hd⟩;by_cases hkj:k=j
  ·subst hkj;exact r.not hD
  ·exact(r.uY d ht k hkj hd).2 (by omega) hD
def plus(D:Nat->Prop)(j:Nat):Nat->Prop:=λk=>D k\/k=j
theorem cr.after{D:Nat->Prop}{j:Nat}{o:Oper}(r:cr ops D j o)(d:cP C P cal ops es hs tr){t:Nat} :
  V ops es (plus D j) ops.size t=if o.dst=some t then (es (j+1)).get t else V ops es D ops.size t:=by
 have hlt:=r.lt;split
 ·rename_i ht;rw[qV (i:=j+1) (by omega),As d (by omega)]
  ·intro k hk hd;by_cases hkj:k=j
   ·exact .inr hkj
   ·exact .inl ((r.uY d (.inr ht) k hkj hd).1 (by omega))
  ·rintro k h1 h2 ⟨hD,hd⟩;rcases hD with hD | hD
   ·exact(r.uY d (.inr ht) k (by omega) hd).2 (by omega) hD
   ·omega
 ·rename_i ht;refine Fp λk hk hd=>?_;have hkj:k≠j:=by
   intro e;subst e;rw[r.at_] at hd;exact ht (by simpa using hd)
  exact⟨λh=>h.resolve_right hkj,.inl⟩
theorem cr.finish{D:Nat->Prop}{j:Nat}{o:Oper}(r:cr ops D j o)(d:cP C P cal ops es hs tr){σ0 σ σ':aY}{w0 w w':World}{df:List Deferred}{a:Act}(I:Inv C ops es hs σ0 w0 df D σ a w)
  {v v':Value} (he:es (j+1)=(es j).put o.dst v) (hv:aL σ' v v') (hle:aY.le σ σ') (hs':cU σ' (G hs (plus D j) ops.size) w')
  (eP:Ev σ (G hs D ops.size) (hs 0).next w σ' (G hs (plus D j) ops.size) (hs ops.size).next w')
  (hfr:∀k,k<ops.size->¬D k->k≠j->∀i,(hs k).next<=i->i<(hs (k+1)).next->σ' i=σ i) :
  Inv C ops es hs σ0 w0 df (plus D j) σ' (a.put o.dst v') w' where
 gX:=I.gX.mono hle
 lU:=hs'
 size:=by
  rw[I.size];cases hd:o.dst with
  | none=>rfl
  | some t=>simp[Act.put]
 env:=λt u hu=>by
  rw[r.after d] at hu;have c6:V ops es D ops.size t=some u->∃v',a.tmps[t]?=some v'/\aL σ' u v':=λh=>by
   obtain⟨u',h1,h2⟩:=I.env t u h;exact⟨u',h1,h2.mono hle⟩
  have hn:(es j).n=a.tmps.size:=by rw[d.ns (SF r.lt),I.size]
  split at hu
  ·rename_i ht;rw[he] at hu;simp only[ht,Env.put,Act.put] at hu ⊢;cases hb:Nat.blt t (es j).n with
   | true=>
    simp only[hb,RH] at hu;have:((es j).t.set t (some v)).get t=some u:=hu;rw[T.qJ] at this;cases this;have hlt:t<a.tmps.size:=by rw[<-hn];simpa using hb
    exact⟨v',by simp[hlt],hv⟩
   | false=>
    simp only[hb,RO] at hu;have hlt:¬t<a.tmps.size:=by
     rw[<-hn];intro h;rw[show Nat.blt t (es j).n=true from by simpa using h] at hb;cases hb
    obtain⟨u',h1,h2⟩:=c6 (by rw[r.read d (.inr ht)];exact hu);exact absurd (RV.1 h1).1 hlt
  ·rename_i ht;obtain⟨u',h1,h2⟩:=c6 hu;refine⟨u',?_,h2⟩;cases hd:o.dst with
   | none=>exact h1
   | some t2=>
    have hne:t≠t2:=λe=>ht (by rw[hd,e]);simp only[Act.put];rw[Sz (Ne.symm hne)];exact h1
 fresh:=λk hk hnk i h1 h2=>by
  have hkj:k≠j:=λe=>hnk (.inr e);rw[hfr k hk (λh=>hnk (.inl h)) hkj i h1 h2];exact I.fresh k hk (λh=>hnk (.inl h)) i h1 h2
 ev:=I.ev.comp eP
 defers:=by
  rw[<-I.defers];cases o.dst<;>rfl
end
end Go.Abs