/-
  The abstract machine is sound, fourth part: steps and regions in the order of the text.
-/
import Derived.Test.YtcldmcmclejlhaaGreatDoorAbs3
/-
 Soundness,sixteenth part: abstract heaps grow;frames;one operation of a region;regions in the text's order.
-/
namespace Go.Abs
open Go
section
variable {C:Ctx}{P:Program}
structure fu(h h':au):Prop where
 next:h.next<=h'.next
 dead:∀i,i<h.next->h.get i=none->h'.get i=none
 ro:∀i b,h'.get i=some b->b.ro=true->h.get i=some b
 wf:(∀i b,h.get i=some b->i<h.next)->∀i b,h'.get i=some b->i<h'.next
theorem fu.refl(h:au):fu h h:=⟨mc _,λ_ _ e=>e,λ_ _ e _=>e,λe=>e⟩
theorem fu.trans{a b c:au}(x:fu a b)(y:fu b c):fu a c:=
 ⟨AS x.next y.next,λi hi e=>y.dead i (Ti hi x.next) (x.dead i hi e),λi B e r=>x.ro i B (y.ro i B e r) r,λe=>y.wf (x.wf e)⟩
theorem fu.alloc(h:au){b:aJ}(g:b.ro=false):fu h (h.alloc b) where
 next:=by simp
 dead:=λi hi e=>by rw[au.eB,nw (by omega)];exact e
 ro:=λi B e r=>by
  rw[au.eB] at e;split at e
  ·cases e;rw[g] at r;cases r
  ·exact e
 wf:=λhw i B e=>by
  rw[au.eB] at e;simp only[au.HK];split at e
  ·omega
  ·have:=hw i B e;omega
theorem fu.put(h:au){i:Nat}{b o:aJ}(l:h.get i=some o)(p:b.ro=false):fu h (h.put i (some b)) where
 next:=mc _
 dead:=λj t e=>by
  rw[au.dX];split
  ·rename_i g;subst g;rw[l] at e;cases e
  ·exact e
 ro:=λj B e r=>by
  rw[au.dX] at e;split at e
  ·cases e;rw[p] at r;cases r
  ·exact e
 wf:=λhw j B e=>by
  rw[au.dX] at e;simp only[au.MJ];split at e
  ·rename_i g;subst g;exact hw _ _ l
  ·exact hw j B e
theorem fu.kill(h:au)(i:Nat):fu h (h.put i none) where
 next:=mc _
 dead:=λj g e=>by rw[au.dX];split<;>first | rfl | exact e
 ro:=λj B e r=>by
  rw[au.dX] at e;split at e
  ·cases e
  ·exact e
 wf:=λhw j B e=>by
  rw[au.dX] at e;split at e
  ·cases e
  ·exact hw j B e
theorem gX{α:Type}{c:Bool}{a:Option α}{x:α}(h:(bif c then a else none)=some x):c=true/\a=some x:=by
 cases c with| true=>{exact⟨rfl,h⟩}| false=>{cases h}
theorem pF{α:Type}{c:Bool}{a:Option α}{x:α}(h:(bif c then none else a)=some x):c=false/\a=some x:=by
 cases c with| true=>{cases h}| false=>{exact⟨rfl,h⟩}
theorem vq{α:Type}{c:Bool}{a b:α}{x:α}(h:(bif c then a else b)=x):(c=true/\a=x)\/(c=false/\b=x):=by
 cases c with| true=>{exact .inl ⟨rfl,h⟩}| false=>{exact .inr ⟨rfl,h⟩}
theorem GN{h i:au}{t:TypeId}{j:Option TypeId}{x y v:Value}(e:gg C h t j x y=some (v,i)):fu h i:=by
 unfold gg at e;split at e;{split at e;{split at e;{rename_i n new l;obtain⟨_,e⟩:=pF e;cases g:(n==0) with| true=>{simp only[g,xf,sw,Tk] at e;obtain⟨_,rfl⟩:=e;exact fu.refl _}| false=>{simp only[g,zm] at e;split at e;{cases e;exact fu.alloc _ rfl};{rcases vq e with ⟨_,e⟩ | ⟨_,e⟩;{obtain⟨_,e⟩:=gX e;cases e;exact fu.alloc _ rfl};{obtain⟨_,e⟩:=pF e;split at e;{split at e;{cases e;exact(fu.kill _ _).trans (fu.alloc _ rfl)};{cases e}};{cases e}}};{cases e}}};{cases e}};{cases e}};{cases e}
theorem LD{h i:au}{t:TypeId}{x y v:Value}(e:E2 C h t x y=some (v,i)):fu h i:=by
 unfold E2 at e;split at e;{split at e;{split at e;{rename_i new j;obtain⟨_,e⟩:=pF e;split at e;{cases e;exact fu.refl _};{cases g:new.isEmpty with| true=>{simp only[g,xf,sw,Tk] at e;obtain⟨_,rfl⟩:=e;exact fu.refl _}| false=>{simp only[g,zm] at e;split at e;{rename_i cs hblk;obtain⟨_,e⟩:=gX e;cases e;exact fu.put _ hblk rfl};{cases e}}};{cases e}};{cases e}};{cases e}};{cases e}
theorem Ky{h g:au}{t:TypeId}{x:Value}(e:pI C h t x=some g):fu h g:=by
 unfold pI at e;split at e;{cases e;exact fu.refl _};{cases e;exact fu.refl _};{split at e;{rename_i z cs i hblk;obtain⟨_,e⟩:=gX e;cases e;exact fu.put _ hblk rfl};{cases e}};{cases e}
theorem rM{h g:au}{t:TypeId}{m k v:Value}(e:cO C h t m k v=some g):fu h g:=by
 unfold cO at e;split at e;{split at e;{rename_i es he;revert e;generalize eD C 8 _ k=i;intro e;cases i with| false=>{simp only[UK,xf] at e;cases e}| true=>{simp only[Uz,zm] at e;split at e;{split at e;{rename_i k2 v2 _;cases hs:cg k2 k with| true=>{simp only[hs,xf,sw] at e;subst e;exact fu.put _ he rfl}| false=>{simp only[hs,zm] at e;cases e}};{cases e}};{cases e;exact fu.put _ he rfl};{cases e}}};{cases e}};{cases e}
theorem CX{h g:au}{t:TypeId}{m k v:Value}(e:eX C h t m k=some (v,g)):fu h g:=by
 unfold eX at e;split at e;{split at e;{rename_i es he;rcases vq e with ⟨_,e⟩ | ⟨_,e⟩;{cases e};{split at e;{split at e;{obtain⟨_,e⟩:=gX e;cases e;exact fu.refl _};{cases e}};{split at e;{cases e;exact fu.put _ he rfl};{cases e}};{cases e}}};{cases e}};{cases e}
theorem Ax{h g:au}{m n v:Value}(e:eG h m n v=some g):fu h g:=by
 unfold eG at e;split at e;{split at e;{rename_i es he;split at e;{split at e;{cases e;exact fu.put _ he rfl};{cases e}};{cases e}};{cases e}};{cases e}
theorem GQ{h g:au}{t:TypeId}{m k:Value}(e:kL C h t m k=some g):fu h g:=by
 unfold kL at e;split at e;{split at e;{rename_i es he;rcases vq e with ⟨_,e⟩ | ⟨_,e⟩;{cases e};{split at e;{cases e;exact fu.put _ he rfl};{cases e;exact fu.put _ he rfl};{cases e}}};{cases e}};{cases e}
theorem OX(ok:C.Ok P){ρ:Operand->Option Value}{h h':au}{o:Oper}{v:Value}(e:aW C ρ h o.op=some (.val v h')):fu h h':=by
 cases hs:cy o.op with
 | true=>
  obtain⟨v2,h1,_⟩:=lQ ok hs e;cases h1;exact fu.refl _
 | false=>
  cases U:tW o.op with
  | true=>
   obtain⟨v2,b,I,h1,_⟩:=vT ok U e;cases h1;exact fu.alloc _ I
  | false=>
   cases g:hZ o.op with
   | true=>
    obtain⟨b,cs,_,h1,⟨ac,p⟩,_⟩:=jJ ok g e;cases h1;exact fu.put _ p rfl
   | false=>
    cases l:o.op with
    | mapUpdate t m k x=>
     rw[l] at e;simp only[aW] at e;split at e
     ·rename_i m1 r J _ _ _;cases g:cO C h t m1 r J with
      | none=>rw[g] at e;cases e
      | some p=>rw[g] at e;cases e;exact rM g
     ·cases e
    | mapEntry t m k=>
     rw[l] at e;simp only[aW] at e;split at e
     ·rename_i m1 r _ _;cases g:eX C h t m1 r with
      | none=>rw[g] at e;cases e
      | some p=>rw[g] at e;obtain⟨v2,p⟩:=p;cases e;exact CX g
     ·cases e
    | entryStore t m k x=>
     rw[l] at e;simp only[aW] at e;split at e
     ·rename_i m1 r J _ _ _;cases g:eG h m1 r J with
      | none=>rw[g] at e;cases e
      | some p=>rw[g] at e;cases e;exact Ax g
     ·cases e
    | insert t m k x=>
     rw[l] at e;simp only[aW] at e;split at e
     ·rename_i m1 r J _ _ _;cases g:cO C h t m1 r J with
      | none=>rw[g] at e;cases e
      | some p=>rw[g] at e;cases e;exact rM g
     ·cases e
    | call c=>
     rw[l] at e hs;cases R:c.callee with
     | invoke x m=>
      simp only[aW,R] at e;split at e
      ·split at e
       ·split at e
        ·rename_i fn aa;cases I:fn.body.isSome<;>simp[I] at e
        ·cases e
       ·cases e
      ·cases e
     | value f=>
      simp only[aW,R] at e;split at e
      ·unfold mf at e;split at e
       ·split at e
        ·rename_i fn aa;cases I:fn.body.isSome<;>simp[I] at e
        ·cases e
       ·cases e
      ·cases e
     | builtin b=>
      simp only[aW,R] at e;split at e
      ·rename_i as _;cases i:bR C h b c.argTypes.toList as with
       | none=>rw[i] at e;cases e
       | some vh=>
        rw[i] at e;obtain⟨v2,p⟩:=vh;cases e;unfold bR at i;split at i<;>first
         | (simp[cy,R] at hs;done)
         | exact GN i
         | exact LD i
         | (rename_i t _ x y _ _; cases j : kL C h t x y with
            | none=>rw[j] at i;cases i
            | some h3=>rw[j] at i;cases i;exact GQ j)
         | (rename_i t _ x _ _; cases j : pI C h t x with
            | none=>rw[j] at i;cases i
            | some h3=>rw[j] at i;cases i;exact Ky j)
         | (cases i;exact fu.refl _)
         | cases i
      ·cases e
    | _=>first
     | (rw[l] at hs;cases hs;done)
     | (rw[l] at U;cases U;done)
     | (rw[l] at g;cases g;done)
     | (rw[l] at e;cases e)
structure fg(σ:bD)(e:Env)(a:Act):Prop where
 size:e.n=a.tmps.size
 rel:∀(i:Nat) (v:Value),e.get i=some v->∃v',a.tmps[i]?=some v'/\aX σ v v'
def kv(C:Ctx)(σ:bD):Prop:=∀g,g<C.cA->∃l,σ g=some l/\l.bQ=g/\l.off=0
theorem kv.mono{σ τ:bD}(h:kv C σ)(i:bD.le σ τ):kv C τ:=λg j=>let ⟨l,a,b⟩:=h g j;⟨l,i _ _ a,b⟩
theorem fg.mono{σ τ:bD}{e:Env}{a:Act}(h:fg σ e a)(g:bD.le σ τ):fg τ e a:=
 ⟨h.size,λi v q=>let ⟨v',x,y⟩:=h.rel i v q;⟨v',x,y.mono g⟩⟩
theorem fg.JA{σ:bD}{e:Env}{a:Act}(h:fg σ e a)(p:kv C σ):yz σ (e.eval C) a.eval:=by
 intro x v q;cases x with| tmp i=>{obtain⟨v',h1,j⟩:=h.rel i v q;simp only[Act.eval];rw[TA,h1];exact j}| const c=>{simp only[Env.eval] at q;cases hp:plain c with| true=>{simp[hp] at q;subst q;exact gD σ c hp}| false=>{simp[hp] at q}}| global g=>{simp only[Env.eval] at q;cases o:Nat.blt g C.cA with| true=>{simp only[o,xf,sw] at q;subst q;obtain⟨l,h1,j,r⟩:=p g (by simpa using o);exact⟨l,h1,rfl,by simp[Act.eval,j,r]⟩}| false=>{simp[o] at q}}| func f=>{simp only[Env.eval,sw] at q;subst q;exact⟨[],[],rfl,rfl,rfl⟩}
theorem fg.put{σ:bD}{e:Env}{a:Act}(h:fg σ e a){d:Option Tmp}{v v':Value}(I:aX σ v v'):fg σ (e.put d v) (a.put d v'):=by
 cases d with| none=>{exact h}| some d=>{simp only[Env.put,Act.put];cases j:Nat.blt d e.n with| true=>{simp only[xf];refine⟨by simp[h.size],λi u q=>?_⟩;have l:d<a.tmps.size:=by{rw[<-h.size];simpa using j};by_cases hi:i=d;{subst hi;have:(e.t.set i (some v)).get i=some u:=q;rw[T.sW] at this;cases this;exact⟨v',by simp[l],I⟩};{have:(e.t.set d (some v)).get i=some u:=q;rw[T.y6 _ _ _ _ hi] at this;obtain⟨o,g,p⟩:=h.rel i u this;exact⟨o,by rw[T0 (Ne.symm hi)];exact g,p⟩}}| false=>{simp only[zm];have l:¬d<a.tmps.size:=by{rw[<-h.size];intro r;rw[show Nat.blt d e.n=true from by simpa using r] at j;cases j};refine⟨by simp[h.size],λi u q=>?_⟩;obtain⟨o,g,p⟩:=h.rel i u q;refine⟨o,?_,p⟩;have hi:i≠d:=by{intro hi;subst hi;have:=(Tr.1 g).1;exact l this};rw[T0 (Ne.symm hi)];exact g}}
theorem DR{σ:bD}{ops:Array Oper}{e:Env}{a:Act}(h:fg σ e a){o:Oper}{b:Bool}(q:lI ops.toList e o=some b):Region.wanted o (yielded ops a.tmps)=b:=by
 unfold lI at q;unfold Region.wanted;cases l:o.guard with| none=>{simp[l] at q;subst q;rfl}| some r=>{obtain⟨j,want⟩:=r;simp only[l] at q ⊢;unfold yielded;rw[TK] at q;cases p:(ops[j]?).bind (·.dst) with| none=>{simp[p] at q;subst q;simp}| some d=>{simp only[p] at q;simp only[Option.bind_some];split at q;{rename_i t g;cases q;obtain⟨v',h1,i⟩:=h.rel d _ g;rw[h1,show v'=.bool t from i];simp};{rename_i g;cases q;obtain⟨v',h1,cs,i,I⟩:=h.rel d _ g;rw[h1,i];simp};{cases q}}}
def wK(C:Ctx):List PanicEntry:=[{ v:=xE C,recovered:=false }]
abbrev MQ:=FuncId->List Value->au->au->Prop
structure si(C:Ctx)(P:Program)(cal:oM)(hp:MQ):Prop where
 gY:∀f args h v h',cal f args h=some (v,h')->fu h h'
 Qc:∀f args h v h',cal f args h=some (v,h')->(∀i b,h.get i=some b->i<h.next)->∀σ w args',kv C σ->cM σ h.get w->aV σ args args'->
  (∀i,h.next<=i->i<h'.next->σ i=none)->
  Calls P f ⟨args'⟩ w λen w'=>(¬hp f args h h'/\∃v' σ',en=.returned v'/\aX σ' v v'/\cM σ' h'.get w'/\Ev σ h.get h.next w σ' h'.get h'.next w')\/
   (en=.panicked (wK C)/\hp f args h h'/\∃σ',cM σ' h'.get w'/\Ev σ h.get h.next w σ' h'.get h'.next w')
abbrev iF(C:Ctx)(P:Program)(cal:oM):Prop:=si C P cal λ_ _ _ _=>False
theorem si.run{cal:oM}(p:iF C P cal):∀f args h v g,cal f args h=some (v,g)->(∀i b,h.get i=some b->i<h.next)->∀σ w args',kv C σ->cM σ h.get w->aV σ args args'->
  (∀i,h.next<=i->i<g.next->σ i=none)->
  Calls P f ⟨args'⟩ w λt o=>∃v' j,t=.returned v'/\aX j v v'/\cM j g.get o/\Ev σ h.get h.next w j g.get g.next o:=
 λf args h v g q hw σ w args' I s r J=>(p.Qc f args h v g q hw σ w args' I s r J).mono λ_ _ l=>(l.resolve_right λl=>l.2.1).2
theorem iF.mk{cal:oM}(gY:∀f args h v g,cal f args h=some (v,g)->fu h g)
  (run:∀f args h v g,cal f args h=some (v,g)->(∀i b,h.get i=some b->i<h.next)->∀σ w args',kv C σ->cM σ h.get w->aV σ args args'->
   (∀i,h.next<=i->i<g.next->σ i=none)->
   Calls P f ⟨args'⟩ w λo l=>∃v' j,o=.returned v'/\aX j v v'/\cM j g.get l/\Ev σ h.get h.next w j g.get g.next l):iF C P cal:=
 ⟨gY,λf args h v g q hw σ w args' p s r t=>(run f args h v g q hw σ w args' p s r t).mono λ_ _ I=>.inl ⟨id,I⟩⟩
theorem jc(ok:C.Ok P){cal:oM}{hp:MQ}(l:si C P cal hp){ops:List Oper}{o:Oper}{e p:Env}{h i:au}(q:cq C cal ops o e h=some (p,i)):fu h i:=by
 unfold cq at q;split at q;{cases q};{cases q;exact fu.refl _};{split at q;{cases q};{rename_i v h1 j;cases q;exact OX ok j};{rename_i f args j;split at q;{cases q};{rename_i v h1 g;cases q;exact l.gY _ _ _ _ _ g}}}
theorem IG(ok:C.Ok P){cal:oM}(R:iF C P cal){ops:List Oper}{o:Oper}{e e':Env}{h t:au}(q:cq C cal ops o e h=some (e',t))(I:lI ops e o=some true)
  {σ:bD} {a:Act} {w:World} (hw:∀i b,h.get i=some b->i<h.next) (hg:kv C σ) (s:cM σ h.get w) (he:fg σ e a) (U:∀i,h.next<=i->i<t.next->σ i=none)
  {Q:Exit->Act->World->Prop} {K:Act->World->Prop}
  (hK:∀g a' j,fg g e' a'->a'.defers=a.defers->cM g t.get j->Ev σ h.get h.next w g t.get t.next j->K a' j):o.wp P a w K Q:=by
 have p:∀(v':Value),(a.put o.dst v').defers=a.defers:=λv'=>by{cases o.dst<;>rfl};unfold cq at q;rw[I] at q;simp only at q;have r:=he.JA hg;unfold Oper.wp;split at q;{cases q};{rename_i v h1 J;cases q;have key:∃g v' j,QU ((execOp a.eval o).run P w) v' j/\aX g v v'/\cM g t.get j/\Ev σ h.get h.next w g t.get t.next j:=by{cases hs:cy o.op with| true=>{obtain⟨v2,q1,q2⟩:=lQ ok hs J;cases q1;obtain⟨v',r1,r2⟩:=q2 a.eval σ h.get w s r (λ_ _=>rfl);exact⟨σ,v',w,.inl r1,r2,s,Ev.refl _ _ _ _⟩}| false=>{cases hn:tW o.op with| true=>{obtain⟨v2,b,hb,q1,q2⟩:=vT ok hn J;cases q1;obtain⟨l,v',j,r1,r2,r3,r4,_⟩:=q2 a.eval σ h.get w s (U h.next (mc _) (by simp)) r;exact⟨_,v',j,.inl r1,r2,by rw[au.iu];exact r3,by rw[au.iu];exact r4⟩}| false=>{cases ac:hZ o.op with| true=>{obtain⟨b,cs,_,q1,_,q2⟩:=jJ ok ac J;cases q1;obtain⟨j,r1,r2,r3⟩:=q2 a.eval σ h.get w h.next s r rfl;exact⟨σ,undef,j,.inr ⟨r1,rfl⟩,eT σ,by rw[au.eF];exact r2,by rw[au.eF];exact r3⟩}| false=>{exact Bw ok (by simp[fY,hs,hn,ac]) J s hw r U}}}};obtain⟨g,v',j,hd,r1,r2,r3⟩:=key;have ae:=(he.mono (r3.le U)).put (d:=o.dst) r1;rcases hd with hd | ⟨hd,rfl⟩;{rw[hd];exact hK g _ j ae (p _) r2 r3};{rw[hd];exact hK g _ j ae (p _) r2 r3}};{rename_i f args J;split at q;{cases q};{rename_i v h1 an;cases q;obtain⟨args',r1,r2⟩:=sR ok J r s;rw[r1];simp only[Oper.upon];refine(R.run f args h v t an hw σ w args' hg s r2 U).mono ?_;rintro en j ⟨v',g,rfl,r3,r4,r5⟩;exact hK g _ j ((he.mono (r5.le U)).put r3) (p _) r4 r5}}
theorem D7(ok:C.Ok P){cal:oM}(l:iF C P cal){ops:Array Oper}{o:Oper}{i:Nat}(hi:ops[i]?=some o){e I:Env}{h p:au}(q:cq C cal ops.toList o e h=some (I,p))
  {σ:bD} {a:Act} {w:World} (hw:∀i b,h.get i=some b->i<h.next) (R:kv C σ) (s:cM σ h.get w) (he:fg σ e a) (U:∀i,h.next<=i->i<p.next->σ i=none)
  {Q:Exit->Act->World->Prop} {K:Act->World->Prop}
  (J:∀j r t,fg j I r->r.defers=a.defers->cM j p.get t->Ev σ h.get h.next w j p.get p.next t->K r t):wpOp P ops Q i K a w:=by
 unfold wpOp;rw[hi];simp only;cases g:lI ops.toList e o with| none=>{unfold cq at q;rw[g] at q;cases q}| some b=>{rw[DR he g];cases b with| false=>{unfold cq at q;rw[g] at q;cases q;rw[nw (by simp)];exact J σ _ w (he.put (eT σ)) (by cases o.dst<;>rfl) s (Ev.refl _ _ _ _)}| true=>{rw[n0 rfl];exact .inl (IG ok l q g hw R s he U J)}}
theorem DF(ok:C.Ok P){cal:oM}{hp:MQ}(j:si C P cal hp){ops:List Oper}:∀(rest:List Oper) (e i:Env) (h g:au),Jp C cal ops rest e h=some (i,g)->fu h g
 | [],e,i,h,g,q=>by cases q;exact fu.refl _
 | o::rest,e,i,h,g,q=>by{unfold Jp at q;split at q;{cases q};{rename_i l h1 hs;exact(jc ok j hs).trans (DF ok j rest _ _ _ _ q)}}
theorem LL(ok:C.Ok P){cal:oM}(g:iF C P cal){ops:Array Oper}{Q:Exit->Act->World->Prop}:∀(rest:List Oper) (l:List Nat) (e R:Env) (h r:au) (σ:bD) (a:Act) (w:World),
  l.map (λi=>ops[i]?)=rest.map some->Jp C cal ops.toList rest e h=some (R,r)->
  (∀i b,h.get i=some b->i<h.next)->kv C σ->cM σ h.get w->fg σ e a->(∀i,h.next<=i->i<r.next->σ i=none)->
  (∀t a' w',fg t R a'->a'.defers=a.defers->cM t r.get w'->Ev σ h.get h.next w t r.get r.next w'->Q .normal a' w')->wpOps P ops Q l a w
 | [],l,e,R,h,r,σ,a,w,I,q,hw,hg,s,he,U,hQ=>by{have:l=[]:=by{simpa using I};subst this;cases q;exact hQ σ a w he rfl s (Ev.refl _ _ _ _)}
 | o::rest,l,e,R,h,r,σ,a,w,I,q,hw,hg,s,he,U,hQ=>by{cases l with| nil=>{cases I}| cons i l=>{simp only[y2,T1] at I;unfold Jp at q;split at q;{cases q};{rename_i e1 h1 hs;have j:=jc ok g hs;have p:=DF ok g _ _ _ _ _ q;rw[wpOps_cons];refine D7 ok g I.1 hs hw hg s he (λi h1 J=>U i h1 (Ti J p.next)) ?_;intro ae a1 w1 r1 r2 r3 r4;have hle:=r4.le (λi h1 J=>U i h1 (Ti J p.next));refine LL ok g rest l e1 R h1 r ae a1 w1 I.2 q (j.wf hw) (hg.mono hle) r3 r1 (λi J h3=>?_) ?_;{rw[r4.sig i (.inr J)];exact U i (AS j.next J) h3};{intro ag a2 w2 r5 r6 r7 r8;exact hQ ag a2 w2 r5 (r6.trans r2) r7 (r4.trans r8 j.next p.next)}}}}
end
end Go.Abs
/-
 Soundness,seventeenth part: a region whose order is open: the plain facts.
-/
namespace Go.Abs
open Go
theorem ei{g:List Nat}{o:Oper}{i:Nat}(h:(bB g o).testBit i=true) :
  ∃x∈o.after.toList,Region.binds .any x=true/\(i=x.on\/((g[x.on]?).getD 0).testBit i=true):=by
 unfold bB at h;have key:∀(l:List Edge) (s:Nat),(l.foldl (λs x=>bif Region.binds .any x then s ||| 2 ^ x.on ||| (g[x.on]?).getD 0 else s) s).testBit i=true->
   s.testBit i=true\/∃x∈l,Region.binds .any x=true/\(i=x.on\/((g[x.on]?).getD 0).testBit i=true):=by
  intro l
  induction l with
  | nil=>intro s hs;exact .inl hs
  | cons x l p=>
   intro s hs;simp only[V9] at hs;rcases p _ hs with h1 | ⟨y,r,t⟩
   ·cases j:Region.binds .any x with
    | false=>simp only[j,zm] at h1;exact .inl h1
    | true=>
     simp only[j,xf,Ui,T7] at h1;rcases h1 with (h1 | h1) | h1
     ·exact .inl h1
     ·rw[Vk] at h1;exact .inr ⟨x,by simp,j,.inl (by have:=Ue h1;exact this.symm)⟩
     ·exact .inr ⟨x,by simp,j,.inr h1⟩
   ·exact .inr ⟨y,by simp[r],t⟩
 rcases key _ 0 h with h1 | h1
 ·simp at h1
 ·exact h1
theorem mr:∀(ops:List Oper) (acc:List Nat) (k:Nat),k<acc.length->(bH acc ops)[k]?=acc[k]?
 | [],_,_,_=>rfl
 | o::ops,acc,k,h=>by{unfold bH;rw[mr ops _ k (by simp;omega),AT h]}
theorem sU:∀(ops:List Oper) (acc:List Nat) (j:Nat) (o:Oper),ops[j]?=some o->
  ∃l,(bH acc ops)[acc.length+j]?=some (bB l o)/\∀k,k<acc.length+j->l[k]?=(bH acc ops)[k]?
 | [],acc,j,o,h=>by simp at h
 | p::ops,acc,0,o,h=>by{simp at h;subst h;unfold bH;refine⟨acc,?_,λk hk=>?_⟩;{rw[mr ops _ _ (by simp)];simp};{rw[mr ops _ k (by simp;omega),AT (by omega)]}}
 | p::ops,acc,j+1,o,h=>by{unfold bH;obtain⟨l,h1,g⟩:=sU ops (acc++[bB acc p]) j o (by simpa using h);simp only[sj,IT,List.length_nil] at h1 g;exact⟨l,by rw[show acc.length+(j+1)=acc.length+(0+1)+j from by omega];exact h1,λk hk=>g k (by omega)⟩}
def before(ops:List Oper)(j:Nat):Nat:=((bH [] ops)[j]?).getD 0
theorem Au{ops:List Oper}{j i:Nat}{o:Oper}(t:ops[j]?=some o)(h:(before ops j).testBit i=true) :
  ∃x∈o.after.toList,Region.binds .any x=true/\(i=x.on\/(x.on<j/\(before ops x.on).testBit i=true)\/¬x.on<j):=by
 obtain⟨l,h1,r⟩:=sU ops [] j o t;simp only[List.length_nil,AI] at h1 r;unfold before at h;rw[h1] at h;obtain⟨x,C,I,p⟩:=ei h;refine⟨x,C,I,?_⟩;rcases p with h3 | h3;{exact .inl h3};{by_cases g:x.on<j;{refine .inr (.inl ⟨g,?_⟩);unfold before;rw[<-r x.on g];exact h3};{exact .inr (.inr g)}}
theorem ud:∀{ops:List Oper} {k:Nat},lX ops k=true->∀(j:Nat) (o:Oper),ops[j]?=some o->
  (∀x∈o.after.toList,Region.binds .any x=true->x.on<k+j)/\(∀q b,o.guard=some (q,b)->∃x∈o.after.toList,x.on=q/\Region.binds .any x=true)
 | [],k,_,j,o,h=>by simp at h
 | p::ops,k,he,0,o,h=>by{simp at h;subst h;unfold lX at he;simp only[tx] at he;obtain⟨⟨h1,g⟩,_⟩:=he;refine⟨λx i l=>?_,λq b r=>?_⟩;{have:=TM.1 h1 x i;simp only[l,Uz,Bool.false_or] at this;simpa using this};{rw[r] at g;simp only[VA,tx,T5] at g;exact g}}
 | p::ops,k,he,j+1,o,h=>by{unfold lX at he;simp only[tx] at he;obtain⟨_,t⟩:=he;have:=ud t j o (by simpa using h);rw[show k+1+j=k+(j+1) from by omega] at this;exact this}
theorem vF{ops:List Oper}(he:lX ops 0=true):∀(j i:Nat) (o:Oper),ops[j]?=some o->(before ops j).testBit i=true->i<j:=by
 intro j;induction j using Nat.strongRecOn with| _ j r=>{intro i o C h;obtain⟨x,I,J,t⟩:=Au C h;have g:x.on<j:=by{have:=(ud he j o C).1 x I J;omega};rcases t with h1 | ⟨_,h1⟩ | h1;{omega};{cases l:ops[x.on]? with| none=>{have:(before ops x.on)=0:=by{unfold before;have P:∀(ops:List Oper) (acc:List Nat),(bH acc ops).length=acc.length+ops.length:=by{intro ops;induction ops with| nil=>{intro acc;simp[bH]}| cons p ops r=>{intro acc;unfold bH;rw[r];simp;omega}};rw[zE (by rw[P];simp;exact UG.1 l)];rfl};rw[this] at h1;simp at h1}| some R=>{have:=r x.on g i R l h1;omega}};{exact absurd g h1}}
def sQ(ops:List Oper)(D:Nat->Prop):Prop:=∀j o,D j->ops[j]?=some o->∀x∈o.after.toList,Region.binds .any x=true->D x.on
theorem rC{ops:List Oper}(he:lX ops 0=true){D:Nat->Prop}(U:sQ ops D):∀(j i:Nat) (o:Oper),ops[j]?=some o->
  (∀x∈o.after.toList,Region.binds .any x=true->D x.on)->(before ops j).testBit i=true->D i:=by
 intro j;induction j using Nat.strongRecOn with| _ j t=>{intro i o I hd h;obtain⟨x,J,P,C⟩:=Au I h;have l:x.on<j:=by{have:=(ud he j o I).1 x J P;omega};have r:=hd x J P;rcases C with h1 | ⟨_,h1⟩ | h1;{subst h1;exact r};{cases g:ops[x.on]? with| none=>{have:(before ops x.on)=0:=by{unfold before;have hl:∀(ops:List Oper) (acc:List Nat),(bH acc ops).length=acc.length+ops.length:=by{intro ops;induction ops with| nil=>{intro acc;simp[bH]}| cons p ops t=>{intro acc;unfold bH;rw[t];simp;omega}};rw[zE (by rw[hl];simp;exact UG.1 g)];rfl};rw[this] at h1;simp at h1}| some R=>{exact t x.on l i R g (U x.on R r g) h1}};{exact absurd l h1}}
theorem Gh{ops:List Oper}{b:Oper}{j m:Nat}:∀(l:List Oper) (i:Nat),ql.inner ops b j m l i=true->∀(k:Nat) (a:Oper),l[k]?=some a->i+k<j->
  m.testBit (i+k)=true\/lH ops a b=true
 | [],i,_,k,a,h,_=>by simp at h
 | p::l,i,hi,k,a,h,hk=>by{unfold ql.inner at hi;have g:Nat.ble j i=false:=by{cases o:Nat.ble j i with| false=>{rfl}| true=>{have:=TH o;omega}};simp only[g,zm,tx,T7] at hi;cases k with| zero=>{simp at h;subst h;exact hi.1}| succ k=>{have:=Gh l (i+1) hi.2 k a (by simpa using h) (by omega);rw[show i+1+k=i+(k+1) from by omega] at this;exact this}}
theorem Fp{ops:List Oper}:∀{rest:List Oper} {g:Nat},ql ops (bH [] ops) rest g=true->∀(j:Nat) (b:Oper),rest[j]?=some b->∀(k:Nat) (a:Oper),ops[k]?=some a->k<g+j->
  (before ops (g+j)).testBit k=true\/lH ops a b=true
 | [],g,_,j,b,h,_,_,_,_=>by simp at h
 | p::rest,g,hp,j,b,h,k,a,hk,i=>by{unfold ql at hp;simp only[tx] at hp;cases j with| zero=>{simp at h;subst h;have:=Gh ops 0 hp.1 k a hk (by omega);simpa [before] using this}| succ j=>{have:=Fp hp.2 j b (by simpa using h) k a hk (by omega);rw[show g+1+j=g+(j+1) from by omega] at this;exact this}}
theorem Cw{ops:List Oper}{a b:Oper}(h:lH ops a b=true){d:Tmp}(i:a.dst=some d):d∉tmpsOf ops b/\b.dst≠some d:=by
 unfold lH at h;simp only[i,tx,TZ] at h;obtain⟨⟨⟨⟨h1,g⟩,_⟩,_⟩,_⟩:=h;refine⟨λhm=>?_,λhm=>?_⟩;{rw[List.contains_iff_mem.2 hm] at h1;cases h1};{rw[hm] at g;simp at g}
theorem HF{ops:List Oper}{a b:Oper}(h:lH ops a b=true){d:Tmp}(g:b.dst=some d):d∉tmpsOf ops a:=by
 unfold lH at h;simp only[g,tx,TZ] at h;obtain⟨⟨⟨_,h1⟩,_⟩,_⟩:=h;intro hm;rw[List.contains_iff_mem.2 hm] at h1;cases h1
theorem sF{ops:List Oper}{a b:Oper}(h:lH ops a b=true):¬(fY b.op=true/\cy a.op=false)/\¬(fY a.op=true/\hZ b.op=true):=by
 unfold lH at h;simp only[tx,TZ] at h;obtain⟨⟨_,h1⟩,g⟩:=h;refine⟨λ⟨x,y⟩=>?_,λ⟨x,y⟩=>?_⟩;{rw[x,y] at h1;cases h1};{rw[x,y] at g;cases g}
theorem CK{C i:Nat}{j:List Nat}{look:List Nat}{I:au->Bool}:∀(os:List Oper) (tr:List su) (l:Nat),eR.outer.inner j I i look C os tr l=true->
  ∀(k:Nat) (o:Oper) (h h1:au) (lk:List Nat×(au->Bool)),os[k]?=some o->tr[k]?=some (h,h1,lk)->
   cy o.op=true\/i=l+k\/C.testBit (l+k)=true\/((j[l+k]?).getD 0).testBit i=true\/(∀x∈look,h.get x=h1.get x)\/(i<l+k/\I h1=true)
 | [],_,_,_,k,o,h,h1,lk,r,_=>by simp at r
 | _::_,[],_,_,k,o,h,h1,lk,_,t=>by simp at t
 | p::os,(g,g1,P,R)::tr,l,hi,k,o,h,h1,lk,r,t=>by{unfold eR.outer.inner at hi;simp only[tx,T7] at hi;cases k with| zero=>{simp at r t;subst r;obtain⟨rfl,rfl,rfl⟩:=t;rcases hi.1 with ((((h2 | h2) | h2) | h2) | h2) | h2;{exact .inl h2};{exact .inr (.inl (by simpa using h2))};{exact .inr (.inr (.inl h2))};{exact .inr (.inr (.inr (.inl h2)))};{exact .inr (.inr (.inr (.inr (.inl λx J=>pz (TM.1 h2 x J)))))};{exact .inr (.inr (.inr (.inr (.inr ⟨Ti (TH h2.1) (mc _),h2.2⟩))))}}| succ k=>{have:=CK os tr (l+1) hi.2 k o h h1 lk (by simpa using r) (by simpa using t);rw[show l+1+k=l+(k+1) from by omega] at this;exact this}}
theorem Gs{ops:List Oper}{j:List Nat}{tr:List su}:∀(rest:List su) (i0:Nat),eR.outer ops j tr rest i0=true->
  ∀(i:Nat) (g g1:au) (look:List Nat) (l:au->Bool),rest[i]?=some (g,g1,look,l)->∀(k:Nat) (o:Oper) (h h1:au) (lk:List Nat×(au->Bool)),ops[k]?=some o->tr[k]?=some (h,h1,lk)->∀x∈look,
   cy o.op=true\/i0+i=k\/((j[i0+i]?).getD 0).testBit k=true\/((j[k]?).getD 0).testBit (i0+i)=true\/h.get x=h1.get x\/(i0+i<k/\l h1=true)
 | [],_,_,i,g,g1,look,l,h,_,_,_,_,_,_,_,_,_=>by simp at h
 | (p,P,pl,R)::rest,i0,t,i,g,g1,look,l,hi,k,o,h,h1,lk,I,J,x,C=>by{unfold eR.outer at t;simp only[tx] at t;cases i with| zero=>{simp at hi;obtain⟨rfl,rfl,rfl,rfl⟩:=hi;have r:=t.1;split at r;{cases C};{have:=CK ops tr 0 r k o h h1 lk I J;simp only[AI] at this;rcases this with h2 | h2 | h2 | h2 | h2 | h2;{exact .inl h2};{exact .inr (.inl h2)};{exact .inr (.inr (.inl h2))};{exact .inr (.inr (.inr (.inl h2)))};{exact .inr (.inr (.inr (.inr (.inl (h2 x C)))))};{exact .inr (.inr (.inr (.inr (.inr ⟨by simpa using h2.1,h2.2⟩))))}}}| succ i=>{have:=Gs rest (i0+1) t.2 i g g1 look l (by simpa using hi) k o h h1 lk I J x C;rw[show i0+1+i=i0+(i+1) from by omega] at this;exact this}}
end Go.Abs
/-
 Soundness,eighteenth part: a region whose order is open: whatever order,the same comes out.
-/
namespace Go.Abs
open Go
section
variable {C:Ctx}{P:Program}
theorem jG{ρ ρ2:Operand->Option Value}:∀(xs:List Operand),(∀x∈xs,ρ x=ρ2 x)->dm ρ xs=dm ρ2 xs
 | [],_=>rfl
 | x::xs,h=>by simp only[dm,h x (by simp),jG xs λy g=>h y (by simp[g])]
theorem pZ{ρ ρ2:Operand->Option Value}:∀(xs:List (Nat×Operand)),(∀x∈xs.map (·.2),ρ x=ρ2 x)->fC ρ xs=fC ρ2 xs
 | [],_=>rfl
 | (i,x)::xs,h=>by simp only[fC,h x (by simp),pZ xs λy g=>h y (by simp only[y2,PJ];exact .inr g)]
theorem vY{ρ ρ2:Operand->Option Value}{x:Option Operand}(h:∀y,x=some y->ρ y=ρ2 y):mC ρ x=mC ρ2 x:=by
 cases x with| none=>{rfl}| some y=>{simp only[mC,h y rfl]}
theorem JN{ρ ρ2:Operand->Option Value}{h:au}{op:Op}(g:∀x∈op.operands,ρ x=ρ2 x):aW C ρ h op=aW C ρ2 h op/\bJ ρ op=bJ ρ2 op:=by
 cases op with| build t ps=>{have:=pZ (ρ:=ρ) (ρ2:=ρ2) ps.toList (λx hm=>g x (by simpa [Op.operands] using hm));simp only[aW,bJ,this,and_self]}| buildSlice t n ps=>{have:=pZ (ρ:=ρ) (ρ2:=ρ2) ps.toList (λx hm=>g x (by simpa [Op.operands] using hm));simp only[aW,bJ,this,and_self]}| makeFunc fn xs ys=>{have h1:=jG (ρ:=ρ) (ρ2:=ρ2) xs.toList (λx hm=>g x (by simp[Op.operands,Uy.1 hm]));have I:=jG (ρ:=ρ) (ρ2:=ρ2) ys.toList (λx hm=>g x (by simp[Op.operands,Uy.1 hm]));simp only[aW,bJ,h1,I,and_self]}| slice t x lo hi R=>{have j:=g x (by simp[Op.operands]);have h1:=vY (ρ:=ρ) (ρ2:=ρ2) (x:=lo) (λy p=>g y (by subst p;simp[Op.operands]));have I:=vY (ρ:=ρ) (ρ2:=ρ2) (x:=hi) (λy p=>g y (by subst p;simp[Op.operands]));have U:=vY (ρ:=ρ) (ρ2:=ρ2) (x:=R) (λy p=>g y (by subst p;simp[Op.operands]));simp only[aW,bJ,j,h1,I,U,and_self]}| call c=>{cases l:c.callee with| value f=>{have j:=g f (by simp[Op.operands,Call.operands,l]);have h1:=jG (ρ:=ρ) (ρ2:=ρ2) c.args.toList (λx hm=>g x (by simp[Op.operands,Call.operands,Uy.1 hm]));simp only[aW,bJ,l,j,h1,and_self]}| invoke f m=>{have j:=g f (by simp[Op.operands,Call.operands,l]);have h1:=jG (ρ:=ρ) (ρ2:=ρ2) c.args.toList (λx hm=>g x (by simp[Op.operands,Call.operands,Uy.1 hm]));simp only[aW,bJ,l,j,h1,and_self]}| builtin b=>{have h1:=jG (ρ:=ρ) (ρ2:=ρ2) c.args.toList (λx hm=>g x (by simp[Op.operands,Call.operands,Uy.1 hm]));simp only[aW,l,h1,Vd];cases b<;>simp only[bJ,l];cases J:c.args.toList with| nil=>{rfl}| cons a as=>{have j:=g a (by{have:a∈c.args:=Uy.1 (by rw[J];simp);simp[Op.operands,Call.operands,this]});simp only[j]}}}| makeMap t r=>{cases r<;>exact⟨rfl,rfl⟩}| move x | assign x | load t x | nilCheck x | unOp t x t2 | convert t t2 x | makeInterface t x | fieldAddr t x f | field t x f | extract x i | typeAssert x xt t b | box t x=>{simp only[Op.operands] at g;simp[aW,bJ,g]}| pick x y z=>{simp only[Op.operands] at g;simp[aW,bJ,g x (by simp),g y (by simp),g z (by simp)]}| store t x y | binOp o t x y t2 | makeSlice t x y | indexAddr t x y | index t x y | lookup t x y b | mapEntry t x y=>{simp only[Op.operands] at g;simp[aW,bJ,g x (by simp),g y (by simp)]}| mapUpdate t x y z | insert t x y z | entryStore t x y z=>{simp only[Op.operands] at g;simp[aW,bJ,g x (by simp),g y (by simp),g z (by simp)]}| _=>{exact⟨rfl,rfl⟩}
theorem ox{cal:oM}{ops:List Oper}:∀(rest:List Oper) (e g:Env) (h i:au) (tr:List su),cG C cal ops rest e h=some (g,i,tr)->
  ∃(es:Nat->Env) (hs:Nat->au),es 0=e/\hs 0=h/\es rest.length=g/\hs rest.length=i/\
   ∀(j:Nat) (o:Oper),rest[j]?=some o->cq C cal ops o (es j) (hs j)=some (es (j+1),hs (j+1))/\tr[j]?=some (hs j,hs (j+1),bJ ((es j).eval C) o.op,jt C ((es j).eval C) (hs j) o.op)
 | [],e,g,h,i,tr,q=>by{cases q;exact⟨λ_=>e,λ_=>h,rfl,rfl,rfl,rfl,λj o I=>by simp at I⟩}
 | o::rest,e,g,h,i,tr,q=>by{unfold cG at q;split at q;{cases q};{rename_i J h1 r;split at q;{cases q};{rename_i e2 h2 l R;cases q;obtain⟨es,hs,U,p2,p3,p4,t⟩:=ox rest J g h1 i l R;refine⟨λj=>match j with | 0=>e | j+1=>es j,λj=>match j with | 0=>h | j+1=>hs j,rfl,rfl,p3,p4,λj p hp=>?_⟩;cases j with| zero=>{simp at hp;subst hp;simp only[U,p2];exact⟨r,by simp⟩}| succ j=>{exact⟨(t j p (by simpa using hp)).1,by simpa using (t j p (by simpa using hp)).2⟩}}}}
structure dj(C:Ctx)(P:Program)(cal:oM)(hp:MQ)(ops:Array Oper)(es:Nat->Env)(hs:Nat->au)(tr:List su):Prop where
 ok:C.Ok P
 Od:si C P cal hp
 step:∀(j:Nat) (o:Oper),ops[j]?=some o->cq C cal ops.toList o (es j) (hs j)=some (es (j+1),hs (j+1))/\tr[j]?=some (hs j,hs (j+1),bJ ((es j).eval C) o.op,jt C ((es j).eval C) (hs j) o.op)
 wf:∀i b,(hs 0).get i=some b->i<(hs 0).next
 draw:oW ops.toList=true
 Qw:eR ops.toList (bH [] ops.toList) tr=true
variable {cal:oM}{hp:MQ}{ops:Array Oper}{es:Nat->Env}{hs:Nat->au}{tr:List su}
theorem dj.gY(d:dj C P cal hp ops es hs tr){j:Nat}(h:j<ops.size):fu (hs j) (hs (j+1)):=by
 have g:ops[j]?=some ops[j]:=by{simp[h]};exact jc d.ok d.Od (d.step j _ g).1
theorem dj.rW(d:dj C P cal hp ops es hs tr){i j:Nat}(g:i<=j)(h:j<=ops.size):fu (hs i) (hs j):=by
 induction j with| zero =>{have : i = 0 := by{omega};subst this;exact fu.refl _}| succ j l=>{by_cases hi:i=j+1;{subst hi;exact fu.refl _};{exact(l (by omega) (by omega)).trans (d.gY (by omega))}}
theorem dj.K5(d:dj C P cal hp ops es hs tr){j:Nat}(h:j<=ops.size):∀i b,(hs j).get i=some b->i<(hs j).next:=(d.rW (If j) h).wf d.wf
theorem dj.xu(d:dj C P cal hp ops es hs tr):lX ops.toList 0=true:=by
 have:=d.draw;simp only[oW,tx] at this;exact this.1
theorem dj.pair(d:dj C P cal hp ops es hs tr){i j:Nat}{a b:Oper}(g:ops[i]?=some a)(l:ops[j]?=some b)(h:i<j):(before ops.toList j).testBit i=true\/lH ops.toList a b=true:=by
 have:=d.draw;simp only[oW,tx] at this;have:=Fp this.2 j b (by simpa using l) i a (by simpa using g) (by omega);simpa using this
def dc(hs:Nat->au)(k x:Nat):Prop:=(hs (k+1)).get x≠(hs k).get x
theorem dj.kinds(d:dj C P cal hp ops es hs tr){k:Nat}{o:Oper}(I:ops[k]?=some o) :
  (cy o.op=true->hs (k+1)=hs k)/\(tW o.op=true->∀x,dc hs k x->x=(hs k).next)/\(hZ o.op=true->∀x,dc hs k x->bJ ((es k).eval C) o.op=[x]/\∃B,(hs k).get x=some B):=by
 have q:=(d.step k o I).1;unfold cq at q;split at q;{cases q};{simp only[sw,Tk] at q;obtain⟨_,l⟩:=q;have p:∀x,¬dc hs k x:=λx g=>g (by rw[<-l]);exact⟨λ_=>l.symm,λ_ x g=>absurd g (p x),λ_ x g=>absurd g (p x)⟩};{split at q;{cases q};{rename_i v h1 i;simp only[sw,Tk] at q;obtain⟨R,l⟩:=q;refine⟨λj=>?_,λr x g=>?_,λj x g=>?_⟩;{obtain⟨v2,r1,_⟩:=lQ d.ok j i;cases r1;exact l.symm};{obtain⟨v2,b,_,r1,_⟩:=vT d.ok r i;cases r1;unfold dc at g;rw[<-l,au.eB] at g;split at g;{assumption};{exact absurd rfl g}};{obtain⟨b,cs,r0,r1,⟨J,r2⟩,_⟩:=jJ d.ok j i;cases r1;unfold dc at g;rw[<-l,au.dX] at g;split at g;{rename_i t;subst t;exact⟨r0,_,r2⟩};{exact absurd rfl g}}};{rename_i f args i;refine⟨λj=>?_,λr x g=>?_,λj x g=>?_⟩;{obtain⟨v2,r1,_⟩:=lQ d.ok j i;cases r1};{obtain⟨v2,b,_,r1,_⟩:=vT d.ok r i;cases r1};{obtain⟨b,cs,r0,r1,_⟩:=jJ d.ok j i;cases r1}}}
open Classical in
noncomputable def G(hs:Nat->au)(D:Nat->Prop):Nat->Nat->Option aJ
 | 0,x=>(hs 0).get x
 | k+1,x=>if D k/\dc hs k x then (hs (k+1)).get x else G hs D k x
open Classical in
noncomputable def V(ops:Array Oper)(es:Nat->Env)(D:Nat->Prop):Nat->Nat->Option Value
 | 0,t=>(es 0).get t
 | k+1,t=>if D k/\(ops[k]?).bind (·.dst)=some t then (es (k+1)).get t else V ops es D k t
theorem u6{D:Nat->Prop}{x:Nat}:∀{j:Nat},(∀k,k<j->dc hs k x->D k)->G hs D j x=(hs j).get x
 | 0,_=>rfl
 | j+1,h=>by{unfold G;by_cases g:dc hs j x;{rw[n0 ⟨h j (by omega) g,g⟩]};{rw[nw (λq=>g q.2),u6 λk hk=>h k (by omega)];unfold dc at g;exact(Classical.not_not.1 g).symm}}
theorem qF{D:Nat->Prop}{x i:Nat}:∀{j:Nat},i<=j->(∀k,i<=k->k<j->¬(D k/\dc hs k x))->G hs D j x=G hs D i x
 | 0, h, _ =>by{have : i = 0 := by{omega};subst this;rfl}
 | j+1,h,g=>by{by_cases hi:i=j+1;{subst hi;rfl};{rw[G,nw (g j (by omega) (by omega)),qF (by omega) λk h1 l=>g k h1 (by omega)]}}
theorem s9{D l:Nat->Prop}{x:Nat}:∀{j:Nat},(∀k,k<j->dc hs k x->(D k↔l k))->G hs D j x=G hs l j x
 | 0,_=>rfl
 | j+1,h=>by{unfold G;rw[s9 λk hk=>h k (by omega)];by_cases g:dc hs j x;{by_cases i:D j;{rw[n0 ⟨i,g⟩,n0 ⟨(h j (by omega) g).1 i,g⟩]};{rw[nw (λq=>i q.1),nw (λq=>i ((h j (by omega) g).2 q.1))]}};{rw[nw (λq=>g q.2),nw (λq=>g q.2)]}}
theorem DC(d:dj C P cal hp ops es hs tr){D:Nat->Prop}{t:Nat}:∀{j:Nat},j<=ops.size->(∀k,k<j->(ops[k]?).bind (·.dst)=some t->D k)->V ops es D j t=(es j).get t
 | 0,_,_=>rfl
 | j+1,I,h=>by{unfold V;by_cases i:(ops[j]?).bind (·.dst)=some t;{rw[n0 ⟨h j (by omega) i,i⟩]};{rw[nw (λq=>i q.2),DC d (by omega) λk hk=>h k (by omega)];have o:ops[j]?=some ops[j]:=by{simp[show j<ops.size from by omega]};have q:=(d.step j _ o).1;have g:∀v,((es j).put ops[j].dst v).get t=(es j).get t:=by{intro v;unfold Env.put;cases r:ops[j].dst with| none=>{rfl}| some p=>{simp only;have l:t≠p:=by{intro e;subst e;exact i (by rw[o];exact r)};cases J:Nat.blt p (es j).n with| true=>{exact T.y6 _ _ _ _ l}| false=>{rfl}}};unfold cq at q;split at q;{cases q};{simp only[sw,Tk] at q;rw[<-q.1,g]};{split at q;{cases q};{simp only[sw,Tk] at q;rw[<-q.1,g]};{split at q;{cases q};{simp only[sw,Tk] at q;rw[<-q.1,g]}}}}}
theorem tq{D:Nat->Prop}{t i:Nat}:∀{j:Nat},i<=j->(∀k,i<=k->k<j->¬(D k/\(ops[k]?).bind (·.dst)=some t))->V ops es D j t=V ops es D i t
 | 0, h, _ =>by{have : i = 0 := by{omega};subst this;rfl}
 | j+1,h,g=>by{by_cases hi:i=j+1;{subst hi;rfl};{rw[V,nw (g j (by omega) (by omega)),tq (by omega) λk h1 l=>g k h1 (by omega)]}}
theorem Iy{D l:Nat->Prop}{t:Nat}:∀{j:Nat},(∀k,k<j->(ops[k]?).bind (·.dst)=some t->(D k↔l k))->V ops es D j t=V ops es l j t
 | 0,_=>rfl
 | j+1,h=>by{unfold V;rw[Iy λk hk=>h k (by omega)];by_cases g:(ops[j]?).bind (·.dst)=some t;{by_cases i:D j;{rw[n0 ⟨i,g⟩,n0 ⟨(h j (by omega) g).1 i,g⟩]};{rw[nw (λq=>i q.1),nw (λq=>i ((h j (by omega) g).2 q.1))]}};{rw[nw (λq=>g q.2),nw (λq=>g q.2)]}}
end
end Go.Abs
/-
 Soundness,nineteenth part: one step of a region whose order is open.
-/
namespace Go.Abs
open Go
section
variable {C:Ctx}{P:Program}
theorem Ev.IM{σ:bD}{g:Nat->Option aJ}{n:Nat}{w:World}{j:bD}{l:Nat->Option aJ}{o:Nat}{p:World}(h:Ev σ g n w j l o p){r N:Nat}(t:r<=n)(h1:o<=N) :
  Ev σ g r w j l N p:=⟨h.size,h.os,h.out,h.tape,h.oL,h.own,λi hi=>h.sig i (by omega)⟩
theorem Ev.comp{σ:bD}{g:Nat->Option aJ}{n N:Nat}{w:World}{o:bD}{g1:Nat->Option aJ}{U:World}{p:bD}{g2:Nat->Option aJ}{w2:World}
  (a:Ev σ g n w o g1 N U) (b:Ev o g1 n U p g2 N w2):Ev σ g n w p g2 N w2 where
 size:=AS a.size b.size
 os:=b.os.trans a.os
 out:=b.out.trans a.out
 tape:=a.tape.trans b.tape
 oL:=λk hk hn=>by
  rw[b.oL k (Ti hk a.size) (λi B l r t hs hb=>?_),a.oL k hk hn];rcases a.own i B l r t hs with h1 | ⟨j,D,m,h1,I,J,R⟩
  ·omega
  ·exact hn j D m h1 I J (R.trans hb)
 own:=λi B l r t hs=>by
  rcases b.own i B l r t hs with h1 | ⟨j,D,m,h1,I,J,R⟩
  ·exact .inl (AS a.size h1)
  ·rcases a.own j D m h1 I J with h5 | ⟨k,E,q,h5,h6,h7,h8⟩
   ·exact .inl (by omega)
   ·exact .inr ⟨k,E,q,h5,h6,h7,h8.trans R⟩
 sig:=λi hi=>by rw[b.sig i hi,a.sig i hi]
structure Inv(C:Ctx)(ops:Array Oper)(es:Nat->Env)(hs:Nat->au)(σ0:bD)(w0:World)(df:List Deferred)(D:Nat->Prop)(σ:bD)(a:Act)(w:World):Prop where
 rh:kv C σ
 oP:cM σ (G hs D ops.size) w
 size:(es 0).n=a.tmps.size
 env:∀(t:Nat) (v:Value),V ops es D ops.size t=some v->∃v',a.tmps[t]?=some v'/\aX σ v v'
 fresh:∀k,k<ops.size->¬D k->∀i,(hs k).next<=i->i<(hs (k+1)).next->σ i=none
 ev:Ev σ0 (hs 0).get (hs 0).next w0 σ (G hs D ops.size) (hs ops.size).next w
 defers:a.defers=df
variable {cal:oM}{hp:MQ}{ops:Array Oper}{es:Nat->Env}{hs:Nat->au}{tr:List su}
theorem Env.KX(e:Env)(d:Option Tmp)(v:Value):(e.put d v).n=e.n:=by
 unfold Env.put;cases d with| none=>{rfl}| some d=>{simp only;cases Nat.blt d e.n<;>rfl}
theorem Pv{cal:oM}{l:List Oper}{o:Oper}{e g:Env}{h i:au}(q:cq C cal l o e h=some (g,i)):g.n=e.n:=by
 unfold cq at q;split at q;{cases q};{simp only[sw,Tk] at q;rw[<-q.1,Env.KX]};{split at q;{cases q};{simp only[sw,Tk] at q;rw[<-q.1,Env.KX]};{split at q;{cases q};{simp only[sw,Tk] at q;rw[<-q.1,Env.KX]}}}
theorem dj.ns(d:dj C P cal hp ops es hs tr):∀{j:Nat},j<=ops.size->(es j).n=(es 0).n
 | 0,_=>rfl
 | j+1,h=>by{have g:ops[j]?=some ops[j]:=by{simp[show j<ops.size from by omega]};rw[Pv (d.step j _ g).1,d.ns (by omega)]}
structure cT(ops:Array Oper)(D:Nat->Prop)(j:Nat)(o:Oper):Prop where
 at_:ops[j]?=some o
 not:¬D j
 xu:∀x∈o.after.toList,Region.binds .any x=true->D x.on
 closed:sQ ops.toList D
theorem cT.lt{D:Nat->Prop}{j:Nat}{o:Oper}(r:cT ops D j o):j<ops.size:=(Tr.1 r.at_).1
theorem cT.QW{D:Nat->Prop}{j:Nat}{o:Oper}(r:cT ops D j o)(d:dj C P cal hp ops es hs tr){k:Nat}(h:(before ops.toList j).testBit k=true):D k:=
 rC d.xu r.closed j k o (by simpa using r.at_) r.xu h
theorem cT.desc{D:Nat->Prop}{j:Nat}{o:Oper}(r:cT ops D j o)(d:dj C P cal hp ops es hs tr){k:Nat}{p:Oper}(hk:D k)(hp:ops[k]?=some p)(h:(before ops.toList k).testBit j=true):False:=
 r.not (rC d.xu r.closed k j p (by simpa using hp) (λx g i=>r.closed k p hk (by simpa using hp) x g i) h)
theorem OO{ops:Array Oper}{k t:Nat}(h:(ops[k]?).bind (·.dst)=some t):∃p,ops[k]?=some p/\p.dst=some t:=by
 cases hp:ops[k]? with| none=>{simp[hp] at h}| some p=>{exact⟨p,rfl,by simpa [hp] using h⟩}
theorem cT.xT{D:Nat->Prop}{j:Nat}{o:Oper}(r:cT ops D j o)(d:dj C P cal hp ops es hs tr){t:Nat}(ht:t∈tmpsOf ops.toList o\/o.dst=some t) :
  ∀k,k≠j->(ops[k]?).bind (·.dst)=some t->(k<j->D k)/\(j<k->¬D k):=by
 intro k l I;obtain⟨p,hp,g⟩:=OO I;refine⟨λi=>?_,λi hk=>?_⟩;{rcases d.pair hp r.at_ i with h | h;{exact r.QW d h};{obtain⟨h1,J⟩:=Cw h g;rcases ht with ht | ht;{exact absurd ht h1};{exact absurd ht J}}};{rcases d.pair r.at_ hp i with h | h;{exact r.desc d hk hp h};{rcases ht with ht | ht;{exact absurd ht (HF h g)};{exact absurd g (Cw h ht).2}}}
theorem cT.read{D:Nat->Prop}{j:Nat}{o:Oper}(r:cT ops D j o)(d:dj C P cal hp ops es hs tr){t:Nat}(p:t∈tmpsOf ops.toList o\/o.dst=some t) :
  V ops es D ops.size t=(es j).get t:=by
 have J:=r.lt;rw[tq (i:=j) (by omega),DC d (by omega)];{intro k hk l;exact(r.xT d p k (by omega) l).1 hk};{rintro k h1 R ⟨I,l⟩;by_cases g:k=j;{subst g;exact r.not I};{exact(r.xT d p k g l).2 (by omega) I}}
def plus(D:Nat->Prop)(j:Nat):Nat->Prop:=λk=>D k\/k=j
theorem cT.after{D:Nat->Prop}{j:Nat}{o:Oper}(r:cT ops D j o)(d:dj C P cal hp ops es hs tr){t:Nat} :
  V ops es (plus D j) ops.size t=if o.dst=some t then (es (j+1)).get t else V ops es D ops.size t:=by
 have I:=r.lt;split;{rename_i p;rw[tq (i:=j+1) (by omega),DC d (by omega)];{intro k hk l;by_cases g:k=j;{exact .inr g};{exact .inl ((r.xT d (.inr p) k g l).1 (by omega))}};{rintro k h1 J ⟨hD,l⟩;rcases hD with hD | hD;{exact(r.xT d (.inr p) k (by omega) l).2 (by omega) hD};{omega}}};{rename_i p;refine Iy λk hk l=>?_;have g:k≠j:=by{intro e;subst e;rw[r.at_] at l;exact p (by simpa using l)};exact⟨λh=>h.resolve_right g,.inl⟩}
theorem cT.finish{D:Nat->Prop}{j:Nat}{o:Oper}(r:cT ops D j o)(d:dj C P cal hp ops es hs tr){σ0 σ g:bD}{w0 w w':World}{df:List Deferred}{a:Act}(I:Inv C ops es hs σ0 w0 df D σ a w)
  {v v':Value} (he:es (j+1)=(es j).put o.dst v) (hv:aX g v v') (hle:bD.le σ g) (ac:cM g (G hs (plus D j) ops.size) w')
  (gY:Ev σ (G hs D ops.size) (hs 0).next w g (G hs (plus D j) ops.size) (hs ops.size).next w')
  (ad:∀k,k<ops.size->¬D k->k≠j->∀i,(hs k).next<=i->i<(hs (k+1)).next->g i=σ i) :
  Inv C ops es hs σ0 w0 df (plus D j) g (a.put o.dst v') w' where
 rh:=I.rh.mono hle
 oP:=ac
 size:=by
  rw[I.size];cases hd:o.dst with
  | none=>rfl
  | some t=>simp[Act.put]
 env:=λt u hu=>by
  rw[r.after d] at hu;have dy:V ops es D ops.size t=some u->∃v',a.tmps[t]?=some v'/\aX g u v':=λh=>by
   obtain⟨U,h1,l⟩:=I.env t u h;exact⟨U,h1,l.mono hle⟩
  have hn:(es j).n=a.tmps.size:=by rw[d.ns (TC r.lt),I.size]
  split at hu
  ·rename_i ht;rw[he] at hu;simp only[ht,Env.put,Act.put] at hu ⊢;cases R:Nat.blt t (es j).n with
   | true=>
    simp only[R,xf] at hu;have:((es j).t.set t (some v)).get t=some u:=hu;rw[T.sW] at this;cases this;have p:t<a.tmps.size:=by rw[<-hn];simpa using R
    exact⟨v',by simp[p],hv⟩
   | false=>
    simp only[R,zm] at hu;have p:¬t<a.tmps.size:=by
     rw[<-hn];intro h;rw[show Nat.blt t (es j).n=true from by simpa using h] at R;cases R
    obtain⟨U,h1,l⟩:=dy (by rw[r.read d (.inr ht)];exact hu);exact absurd (Tr.1 h1).1 p
  ·rename_i ht;obtain⟨U,h1,l⟩:=dy hu;refine⟨U,?_,l⟩;cases hd:o.dst with
   | none=>exact h1
   | some t2=>
    have ae:t≠t2:=λe=>ht (by rw[hd,e]);simp only[Act.put];rw[T0 (Ne.symm ae)];exact h1
 fresh:=λk hk J i h1 l=>by
  have af:k≠j:=λe=>J (.inr e);rw[ad k hk (λh=>J (.inl h)) af i h1 l];exact I.fresh k hk (λh=>J (.inl h)) i h1 l
 ev:=I.ev.comp gY
 defers:=by
  rw[<-I.defers];cases o.dst<;>rfl
end
end Go.Abs