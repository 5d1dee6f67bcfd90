/-
  The abstract machine is sound, fourth part: steps and regions in the order of the text.
-/
import Derived.Test.YtmbdmfjijofmmaaGreatDoorAbs3
/-
 Soundness,sixteenth part: abstract heaps grow;frames;one operation of a region;regions in the text's order.
-/
namespace Go.Abs
open Go
section
variable {C:Ctx}{P:Program}
structure gY(h h':au):Prop where
 next:h.next<=h'.next
 dead:∀i,i<h.next->h.get i=none->h'.get i=none
 ro:∀i b,h'.get i=some b->b.ro=true->h.get i=some b
 wf:(∀i b,h.get i=some b->i<h.next)->∀i b,h'.get i=some b->i<h'.next
theorem gY.refl(h:au):gY h h:=⟨mc _,λ_ _ e=>e,λ_ _ e _=>e,λe=>e⟩
theorem gY.trans{a b c:au}(x:gY a b)(y:gY b c):gY a c:=
 ⟨LN x.next y.next,λi hi e=>y.dead i (Sk hi x.next) (x.dead i hi e),λi B e r=>x.ro i B (y.ro i B e r) r,λe=>y.wf (x.wf e)⟩
theorem gY.alloc(h:au){b:aC}(f:b.ro=false):gY h (h.alloc b) where
 next:=by simp
 dead:=λi hi e=>by rw[au.dH,mb (by omega)];exact e
 ro:=λi B e r=>by
  rw[au.dH] at e;split at e
  ·cases e;rw[f] at r;cases r
  ·exact e
 wf:=λhw i B e=>by
  rw[au.dH] at e;simp only[au.ny];split at e
  ·omega
  ·have:=hw i B e;omega
theorem gY.put(h:au){i:Nat}{b l:aC}(g:h.get i=some l)(o:b.ro=false):gY h (h.put i (some b)) where
 next:=mc _
 dead:=λj p e=>by
  rw[au.dL];split
  ·rename_i f;subst f;rw[g] at e;cases e
  ·exact e
 ro:=λj B e r=>by
  rw[au.dL] at e;split at e
  ·cases e;rw[o] at r;cases r
  ·exact e
 wf:=λhw j B e=>by
  rw[au.dL] at e;simp only[au.tM];split at e
  ·rename_i f;subst f;exact hw _ _ g
  ·exact hw j B e
theorem gY.kill(h:au)(i:Nat):gY h (h.put i none) where
 next:=mc _
 dead:=λj f e=>by rw[au.dL];split<;>first | rfl | exact e
 ro:=λj B e r=>by
  rw[au.dL] at e;split at e
  ·cases e
  ·exact e
 wf:=λhw j B e=>by
  rw[au.dL] at e;split at e
  ·cases e
  ·exact hw j B e
theorem mN{α:Type}{c:Bool}{a:Option α}{x:α}(h:(bif c then a else none)=some x):c=true/\a=some x:=by cases c with| true=>{exact⟨rfl,h⟩}| false=>{cases h}
theorem x7{α:Type}{c:Bool}{a:Option α}{x:α}(h:(bif c then none else a)=some x):c=false/\a=some x:=by cases c with| true=>{cases h}| false=>{exact⟨rfl,h⟩}
theorem uq{α:Type}{c:Bool}{a b:α}{x:α}(h:(bif c then a else b)=x):(c=true/\a=x)\/(c=false/\b=x):=by cases c with| true=>{exact .inl ⟨rfl,h⟩}| false=>{exact .inr ⟨rfl,h⟩}
theorem FK{h g:au}{t:TypeId}{i:Option TypeId}{x y v:Value}(e:dP C h t i x y=some (v,g)):gY h g:=by unfold dP at e;split at e;{split at e;{split at e;{rename_i n new j;obtain⟨_,e⟩:=x7 e;cases f:(n==0) with| true=>{simp only[f,xf,pr,R7] at e;obtain⟨_,rfl⟩:=e;exact gY.refl _}| false=>{simp only[f,zy] at e;split at e;{cases e;exact gY.alloc _ rfl};{rcases uq e with ⟨_,e⟩ | ⟨_,e⟩;{obtain⟨_,e⟩:=mN e;cases e;exact gY.alloc _ rfl};{obtain⟨_,e⟩:=x7 e;split at e;{split at e;{cases e;exact(gY.kill _ _).trans (gY.alloc _ rfl)};{cases e}};{cases e}}};{cases e}}};{cases e}};{cases e}};{cases e}
theorem KT{h i:au}{t:TypeId}{x y v:Value}(e:vw C h t x y=some (v,i)):gY h i:=by unfold vw at e;split at e;{split at e;{split at e;{rename_i new j;obtain⟨_,e⟩:=x7 e;split at e;{cases e;exact gY.refl _};{cases f:new.isEmpty with| true=>{simp only[f,xf,pr,R7] at e;obtain⟨_,rfl⟩:=e;exact gY.refl _}| false=>{simp only[f,zy] at e;split at e;{rename_i cs g;obtain⟨_,e⟩:=mN e;cases e;exact gY.put _ g rfl};{cases e}}};{cases e}};{cases e}};{cases e}};{cases e}
theorem JK{h g:au}{t:TypeId}{x:Value}(e:kQ C h t x=some g):gY h g:=by unfold kQ at e;split at e;{cases e;exact gY.refl _};{cases e;exact gY.refl _};{split at e;{rename_i z cs i f;obtain⟨_,e⟩:=mN e;cases e;exact gY.put _ f rfl};{cases e}};{cases e}
theorem qK{h f:au}{t:TypeId}{m k v:Value}(e:bW C h t m k v=some f):gY h f:=by unfold bW at e;split at e;{split at e;{rename_i es he;revert e;generalize eA C 8 _ k=g;intro e;cases g with| false=>{simp only[TD,xf] at e;cases e}| true=>{simp only[Ti,zy] at e;split at e;{split at e;{rename_i k2 v2 _;cases hs:bU k2 k with| true=>{simp only[hs,xf,pr] at e;subst e;exact gY.put _ he rfl}| false=>{simp only[hs,zy] at e;cases e}};{cases e}};{cases e;exact gY.put _ he rfl};{cases e}}};{cases e}};{cases e}
theorem Br{h f:au}{t:TypeId}{m k v:Value}(e:dI C h t m k=some (v,f)):gY h f:=by unfold dI at e;split at e;{split at e;{rename_i es he;rcases uq e with ⟨_,e⟩ | ⟨_,e⟩;{cases e};{split at e;{split at e;{obtain⟨_,e⟩:=mN e;cases e;exact gY.refl _};{cases e}};{split at e;{cases e;exact gY.put _ he rfl};{cases e}};{cases e}}};{cases e}};{cases e}
theorem yW{h f:au}{m n v:Value}(e:dg h m n v=some f):gY h f:=by unfold dg at e;split at e;{split at e;{rename_i es he;split at e;{split at e;{cases e;exact gY.put _ he rfl};{cases e}};{cases e}};{cases e}};{cases e}
theorem FO{h f:au}{t:TypeId}{m k:Value}(e:hZ C h t m k=some f):gY h f:=by unfold hZ at e;split at e;{split at e;{rename_i es he;rcases uq e with ⟨_,e⟩ | ⟨_,e⟩;{cases e};{split at e;{cases e;exact gY.put _ he rfl};{cases e;exact gY.put _ he rfl};{cases e}}};{cases e}};{cases e}
theorem Oy(ok:C.Ok P){ρ:Operand->Option Value}{h h':au}{o:Oper}{v:Value}(e:aQ C ρ h o.op=some (.val v h')):gY h h':=by
 cases hs:cd o.op with
 | true=>
  obtain⟨v2,J,_⟩:=k4 ok hs e;cases J;exact gY.refl _
 | false=>
  cases hn:sQ o.op with
  | true=>
   obtain⟨v2,b,R,J,_⟩:=uQ ok hn e;cases J;exact gY.alloc _ R
  | false=>
   cases g:ia o.op with
   | true=>
    obtain⟨b,cs,_,J,⟨ae,p⟩,_⟩:=jl ok g e;cases J;exact gY.put _ p rfl
   | false=>
    cases l:o.op with
    | mapUpdate t m k x=>
     rw[l] at e;simp only[aQ] at e;split at e
     ·rename_i r I U _ _ _;cases g:bW C h t r I U with
      | none=>rw[g] at e;cases e
      | some p=>rw[g] at e;cases e;exact qK g
     ·cases e
    | mapEntry t m k=>
     rw[l] at e;simp only[aQ] at e;split at e
     ·rename_i r I _ _;cases g:dI C h t r I with
      | none=>rw[g] at e;cases e
      | some p=>rw[g] at e;obtain⟨v2,p⟩:=p;cases e;exact Br g
     ·cases e
    | entryStore t m k x=>
     rw[l] at e;simp only[aQ] at e;split at e
     ·rename_i r I U _ _ _;cases g:dg h r I U with
      | none=>rw[g] at e;cases e
      | some p=>rw[g] at e;cases e;exact yW g
     ·cases e
    | insert t m k x=>
     rw[l] at e;simp only[aQ] at e;split at e
     ·rename_i r I U _ _ _;cases g:bW C h t r I U with
      | none=>rw[g] at e;cases e
      | some p=>rw[g] at e;cases e;exact qK g
     ·cases e
    | call c=>
     rw[l] at e hs;cases hc:c.callee with
     | invoke x m=>
      simp only[aQ,hc] at e;split at e
      ·split at e
       ·split at e
        ·rename_i fn ac;cases R:fn.body.isSome<;>simp[R] at e
        ·cases e
       ·cases e
      ·cases e
     | value f=>
      simp only[aQ,hc] at e;split at e
      ·unfold kO at e;split at e
       ·split at e
        ·rename_i fn ac;cases R:fn.body.isSome<;>simp[R] at e
        ·cases e
       ·cases e
      ·cases e
     | builtin b=>
      simp only[aQ,hc] at e;split at e
      ·rename_i as _;cases i:bD C h b c.argTypes.toList as with
       | none=>rw[i] at e;cases e
       | some vh=>
        rw[i] at e;obtain⟨v2,p⟩:=vh;cases e;unfold bD at i;split at i<;>first
         | (simp[cd,hc] at hs;done)
         | exact FK i
         | exact KT i
         | (rename_i t _ x y _ _; cases j : hZ C h t x y with
            | none=>rw[j] at i;cases i
            | some h3=>rw[j] at i;cases i;exact FO j)
         | (rename_i t _ x _ _; cases j : kQ C h t x with
            | none=>rw[j] at i;cases i
            | some h3=>rw[j] at i;cases i;exact JK j)
         | (cases i;exact gY.refl _)
         | cases i
      ·cases e
    | _=>first
     | (rw[l] at hs;cases hs;done)
     | (rw[l] at hn;cases hn;done)
     | (rw[l] at g;cases g;done)
     | (rw[l] at e;cases e)
structure kV(σ:bG)(e:Env)(a:Act):Prop where
 size:e.n=a.tmps.size
 rel:∀(i:Nat) (v:Value),e.get i=some v->∃v',a.tmps[i]?=some v'/\aV σ v v'
def uG(C:Ctx)(σ:bG):Prop:=∀g,g<C.cM->∃l,σ g=some l/\l.cf=g/\l.off=0
theorem uG.mono{σ τ:bG}(h:uG C σ)(f:bG.le σ τ):uG C τ:=λg i=>let ⟨l,a,b⟩:=h g i;⟨l,f _ _ a,b⟩
theorem kV.mono{σ τ:bG}{e:Env}{a:Act}(h:kV σ e a)(f:bG.le σ τ):kV τ e a:=
 ⟨h.size,λi v q=>let ⟨v',x,y⟩:=h.rel i v q;⟨v',x,y.mono f⟩⟩
theorem kV.MM{σ:bG}{e:Env}{a:Act}(h:kV σ e a)(t:uG C σ):w6 σ (e.eval C) a.eval:=by intro x v q;cases x with| tmp i=>{obtain⟨v',j,o⟩:=h.rel i v q;simp only[Act.eval];rw[Sl,j];exact o}| const c=>{simp only[Env.eval] at q;cases p:plain c with| true=>{simp[p] at q;subst q;exact gz σ c p}| false=>{simp[p] at q}}| global g=>{simp only[Env.eval] at q;cases r:Nat.blt g C.cM with| true=>{simp only[r,xf,pr] at q;subst q;obtain⟨l,j,o,I⟩:=t g (by simpa using r);exact⟨l,j,rfl,by simp[Act.eval,o,I]⟩}| false=>{simp[r] at q}}| func f=>{simp only[Env.eval,pr] at q;subst q;exact⟨[],[],rfl,rfl,rfl⟩}
theorem kV.put{σ:bG}{e:Env}{a:Act}(h:kV σ e a){d:Option Tmp}{v v':Value}(r:aV σ v v'):kV σ (e.put d v) (a.put d v'):=by cases d with| none=>{exact h}| some d=>{simp only[Env.put,Act.put];cases g:Nat.blt d e.n with| true=>{simp only[xf];refine⟨by simp[h.size],λi u q=>?_⟩;have j:d<a.tmps.size:=by{rw[<-h.size];simpa using g};by_cases hi:i=d;{subst hi;have:(e.t.set i (some v)).get i=some u:=q;rw[T.rM] at this;cases this;exact⟨v',by simp[j],r⟩};{have:(e.t.set d (some v)).get i=some u:=q;rw[T.xI _ _ _ _ hi] at this;obtain⟨l,f,o⟩:=h.rel i u this;exact⟨l,by rw[SM (Ne.symm hi)];exact f,o⟩}}| false=>{simp only[zy];have j:¬d<a.tmps.size:=by{rw[<-h.size];intro p;rw[show Nat.blt d e.n=true from by simpa using p] at g;cases g};refine⟨by simp[h.size],λi u q=>?_⟩;obtain⟨l,f,o⟩:=h.rel i u q;refine⟨l,?_,o⟩;have hi:i≠d:=by{intro hi;subst hi;have:=(Sc.1 f).1;exact j this};rw[SM (Ne.symm hi)];exact f}}
theorem HU{σ:bG}{ops:Array Oper}{e:Env}{a:Act}(h:kV σ e a){o:Oper}{b:Bool}(q:qA ops.toList e o=some b):Region.wanted o (yielded ops a.tmps)=b:=by unfold qA at q;unfold Region.wanted;cases l:o.guard with| none=>{simp[l] at q;subst q;rfl}| some r=>{obtain⟨j,want⟩:=r;simp only[l] at q |-;unfold yielded;rw[Sx] at q;cases p:(ops[j]?).bind (·.dst) with| none=>{simp[p] at q;subst q;simp}| some d=>{simp only[p] at q;simp only[Option.bind_some];split at q;{rename_i t f;cases q;obtain⟨v',g,i⟩:=h.rel d _ f;rw[g,show v'=.bool t from i];simp};{rename_i f;cases q;obtain⟨v',g,cs,i,I⟩:=h.rel d _ f;rw[g,i];simp};{cases q}}}
structure qu(C:Ctx)(P:Program)(cal:rJ):Prop where
 k7:∀f args h v h',cal f args h=some (v,h')->gY h h'
 run:∀f args h v h',cal f args h=some (v,h')->(∀i b,h.get i=some b->i<h.next)->∀σ w args',uG C σ->dT σ h.get w->aZ σ args args'->
  (∀i,h.next<=i->i<h'.next->σ i=none)->
  Calls P f ⟨args'⟩ w λen w'=>∃v' σ',en=.returned v'/\aV σ' v v'/\dT σ' h'.get w'/\Ev σ h.get h.next w σ' h'.get h'.next w'
theorem sZ(ok:C.Ok P){cal:rJ}(l:qu C P cal){ops:List Oper}{o:Oper}{e p:Env}{h i:au}(q:dj C cal ops o e h=some (p,i)):gY h i:=by unfold dj at q;split at q;{cases q};{cases q;exact gY.refl _};{split at q;{cases q};{rename_i v r j;cases q;exact Oy ok j};{rename_i f args j;split at q;{cases q};{rename_i v r g;cases q;exact l.k7 _ _ _ _ _ g}}}
theorem Nt(ok:C.Ok P){cal:rJ}(R:qu C P cal){ops:Array Oper}{o:Oper}{i:Nat}(hi:ops[i]?=some o){e e':Env}{h I:au}(q:dj C cal ops.toList o e h=some (e',I))
  {σ:bG} {a:Act} {w:World} (hw:∀i b,h.get i=some b->i<h.next) (hg:uG C σ) (s:dT σ h.get w) (he:kV σ e a) (U:∀i,h.next<=i->i<I.next->σ i=none)
  {Q:Exit->Act->World->Prop} {K:Act->World->Prop}
  (hK:∀g a' j,kV g e' a'->a'.defers=a.defers->dT g I.get j->Ev σ h.get h.next w g I.get I.next j->K a' j):wpOp P ops Q i K a w:=by unfold wpOp;rw[hi];simp only;have r:∀(v':Value),(a.put o.dst v').defers=a.defers:=λv'=>by{cases o.dst<;>rfl};unfold dj at q;split at q;{cases q};{rename_i p;cases q;rw[HU he p,mb (by simp)];exact hK σ _ w (he.put (gx σ)) (r _) s (Ev.refl _ _ _ _)};{rename_i p;rw[HU he p,nw rfl];left;have t:=he.MM hg;unfold Oper.wp;split at q;{cases q};{rename_i v h1 J;cases q;have key:∃g v' j,P9 ((execOp a.eval o).run P w) v' j/\aV g v v'/\dT g I.get j/\Ev σ h.get h.next w g I.get I.next j:=by{cases hs:cd o.op with| true=>{obtain⟨v2,q1,q2⟩:=k4 ok hs J;cases q1;obtain⟨v',r1,r2⟩:=q2 a.eval σ h.get w s t (λ_ _=>rfl);exact⟨σ,v',w,.inl r1,r2,s,Ev.refl _ _ _ _⟩}| false=>{cases hn:sQ o.op with| true=>{obtain⟨v2,b,hb,q1,q2⟩:=uQ ok hn J;cases q1;obtain⟨l,v',j,r1,r2,r3,r4,_⟩:=q2 a.eval σ h.get w s (U h.next (mc _) (by simp)) t;exact⟨_,v',j,.inl r1,r2,by rw[au.iu];exact r3,by rw[au.iu];exact r4⟩}| false=>{cases ac:ia o.op with| true=>{obtain⟨b,cs,_,q1,_,q2⟩:=jl ok ac J;cases q1;obtain⟨j,r1,r2,r3⟩:=q2 a.eval σ h.get w h.next s t rfl;exact⟨σ,undef,j,.inr ⟨r1,rfl⟩,gx σ,by rw[au.eB];exact r2,by rw[au.eB];exact r3⟩}| false=>{exact Ak ok (by simp[fU,hs,hn,ac]) J s hw t U}}}};obtain⟨g,v',j,hd,r1,r2,r3⟩:=key;have ae:=(he.mono (r3.le U)).put (d:=o.dst) r1;rcases hd with hd | ⟨hd,rfl⟩;{rw[hd];exact hK g _ j ae (r _) r2 r3};{rw[hd];exact hK g _ j ae (r _) r2 r3}};{rename_i f args J;split at q;{cases q};{rename_i v h1 an;cases q;obtain⟨args',r1,r2⟩:=zF ok J t s;rw[r1];simp only[Oper.upon];refine(R.run f args h v I an hw σ w args' hg s r2 U).mono ?_;rintro en j ⟨v',g,rfl,r3,r4,r5⟩;exact hK g _ j ((he.mono (r5.le U)).put r3) (r _) r4 r5}}}
theorem Cs(ok:C.Ok P){cal:rJ}(i:qu C P cal){ops:List Oper}:∀(rest:List Oper) (e g:Env) (h f:au),uh C cal ops rest e h=some (g,f)->gY h f
 | [],e,g,h,f,q=>by cases q;exact gY.refl _
 | o::rest,e,g,h,f,q=>by{unfold uh at q;split at q;{cases q};{rename_i j l hs;exact(sZ ok i hs).trans (Cs ok i rest _ _ _ _ q)}}
theorem K1(ok:C.Ok P){cal:rJ}(f:qu C P cal){ops:Array Oper}{Q:Exit->Act->World->Prop}:∀(rest:List Oper) (l:List Nat) (e J:Env) (h p:au) (σ:bG) (a:Act) (w:World),
  l.map (λi=>ops[i]?)=rest.map some->uh C cal ops.toList rest e h=some (J,p)->
  (∀i b,h.get i=some b->i<h.next)->uG C σ->dT σ h.get w->kV σ e a->(∀i,h.next<=i->i<p.next->σ i=none)->
  (∀r a' w',kV r J a'->a'.defers=a.defers->dT r p.get w'->Ev σ h.get h.next w r p.get p.next w'->Q .normal a' w')->wpOps P ops Q l a w
 | [],l,e,J,h,p,σ,a,w,t,q,hw,hg,s,he,U,hQ=>by{have:l=[]:=by{simpa using t};subst this;cases q;exact hQ σ a w he rfl s (Ev.refl _ _ _ _)}
 | o::rest,l,e,J,h,p,σ,a,w,t,q,hw,hg,s,he,U,hQ=>by{cases l with| nil=>{cases t}| cons i l=>{simp only[y2,Te] at t;unfold uh at q;split at q;{cases q};{rename_i e1 R hs;have g:=sZ ok f hs;have j:=Cs ok f _ _ _ _ _ q;rw[wpOps_cons];refine Nt ok f t.1 hs hw hg s he (λi R I=>U i R (Sk I j.next)) ?_;intro ae a1 w1 r1 r2 r3 r4;have hle:=r4.le (λi R I=>U i R (Sk I j.next));refine K1 ok f rest l e1 J R p ae a1 w1 t.2 q (g.wf hw) (hg.mono hle) r3 r1 (λi I h3=>?_) ?_;{rw[r4.sig i (.inr I)];exact U i (LN g.next I) h3};{intro ag a2 w2 r5 r6 r7 r8;exact hQ ag a2 w2 r5 (r6.trans r2) r7 (r4.trans r8 g.next j.next)}}}}
end
end Go.Abs
/-
 Soundness,seventeenth part: a region whose order is open: the plain facts.
-/
namespace Go.Abs
open Go
theorem ef{f:List Nat}{o:Oper}{i:Nat}(h:(bB f o).testBit i=true) :
  ∃x∈o.after.toList,Region.binds .any x=true/\(i=x.on\/((f[x.on]?).getD 0).testBit i=true):=by
 unfold bB at h;have key:∀(l:List Edge) (s:Nat),(l.foldl (λs x=>bif Region.binds .any x then s ||| 2 ^ x.on ||| (f[x.on]?).getD 0 else s) s).testBit i=true->
   s.testBit i=true\/∃x∈l,Region.binds .any x=true/\(i=x.on\/((f[x.on]?).getD 0).testBit i=true):=by
  intro l
  induction l with
  | nil=>intro s hs;exact .inl hs
  | cons x l j=>
   intro s hs;simp only[List.foldl_cons] at hs;rcases j _ hs with h1 | ⟨y,p,r⟩
   ·cases g:Region.binds .any x with
    | false=>simp only[g,zy] at h1;exact .inl h1
    | true=>
     simp only[g,xf,S5,SO] at h1;rcases h1 with (h1 | h1) | h1
     ·exact .inl h1
     ·rw[T8] at h1;exact .inr ⟨x,by simp,g,.inl (by have:=SU h1;exact this.symm)⟩
     ·exact .inr ⟨x,by simp,g,.inr h1⟩
   ·exact .inr ⟨y,by simp[p],r⟩
 rcases key _ 0 h with h1 | h1
 ·simp at h1
 ·exact h1
theorem lK:∀(ops:List Oper) (acc:List Nat) (k:Nat),k<acc.length->(bA acc ops)[k]?=acc[k]?
 | [],_,_,_=>rfl
 | o::ops,acc,k,h=>by{unfold bA;rw[lK ops _ k (by simp;omega),By h]}
theorem rK:∀(ops:List Oper) (acc:List Nat) (j:Nat) (o:Oper),ops[j]?=some o->
  ∃l,(bA acc ops)[acc.length+j]?=some (bB l o)/\∀k,k<acc.length+j->l[k]?=(bA acc ops)[k]?
 | [],acc,j,o,h=>by simp at h
 | p::ops,acc,0,o,h=>by{simp at h;subst h;unfold bA;refine⟨acc,?_,λk hk=>?_⟩;{rw[lK ops _ _ (by simp)];simp};{rw[lK ops _ k (by simp;omega),By (by omega)]}}
 | p::ops,acc,j+1,o,h=>by{unfold bA;obtain⟨l,f,g⟩:=rK ops (acc++[bB acc p]) j o (by simpa using h);simp only[q0,If,UF] at f g;exact⟨l,by rw[show acc.length+(j+1)=acc.length+(0+1)+j from by omega];exact f,λk hk=>g k (by omega)⟩}
def before(ops:List Oper)(j:Nat):Nat:=((bA [] ops)[j]?).getD 0
theorem yT{ops:List Oper}{j i:Nat}{o:Oper}(t:ops[j]?=some o)(h:(before ops j).testBit i=true) :
  ∃x∈o.after.toList,Region.binds .any x=true/\(i=x.on\/(x.on<j/\(before ops x.on).testBit i=true)\/¬x.on<j):=by obtain⟨l,p,r⟩:=rK ops [] j o t;simp only[UF,yo] at p r;unfold before at h;rw[p] at h;obtain⟨x,C,I,g⟩:=ef h;refine⟨x,C,I,?_⟩;rcases g with h3 | h3;{exact .inl h3};{by_cases f:x.on<j;{refine .inr (.inl ⟨f,?_⟩);unfold before;rw[<-r x.on f];exact h3};{exact .inr (.inr f)}}
theorem sV:∀{ops:List Oper} {k:Nat},lp ops k=true->∀(j:Nat) (o:Oper),ops[j]?=some o->
  (∀x∈o.after.toList,Region.binds .any x=true->x.on<k+j)/\(∀q b,o.guard=some (q,b)->∃x∈o.after.toList,x.on=q/\Region.binds .any x=true)
 | [],k,_,j,o,h=>by simp at h
 | p::ops,k,he,0,o,h=>by{simp at h;subst h;unfold lp at he;simp only[ti] at he;obtain⟨⟨g,f⟩,_⟩:=he;refine⟨λx i l=>?_,λq b r=>?_⟩;{have:=SK.1 g x i;simp only[l,Ti,Bool.false_or] at this;simpa using this};{rw[r] at f;simp only[UP,ti,S6] at f;exact f}}
 | p::ops,k,he,j+1,o,h=>by{unfold lp at he;simp only[ti] at he;obtain⟨_,t⟩:=he;have:=sV t j o (by simpa using h);rw[show k+1+j=k+(j+1) from by omega] at this;exact this}
theorem uB{ops:List Oper}(he:lp ops 0=true):∀(j i:Nat) (o:Oper),ops[j]?=some o->(before ops j).testBit i=true->i<j:=by intro j;induction j using Nat.strongRecOn with| _ j l=>{intro i o t h;obtain⟨x,C,I,r⟩:=yT t h;have f:x.on<j:=by{have:=(sV he j o t).1 x C I;omega};rcases r with h1 | ⟨_,h1⟩ | h1;{omega};{cases g:ops[x.on]? with| none=>{have:(before ops x.on)=0:=by{unfold before;have J:∀(ops:List Oper) (acc:List Nat),(bA acc ops).length=acc.length+ops.length:=by{intro ops;induction ops with| nil=>{intro acc;simp[bA]}| cons p ops l=>{intro acc;unfold bA;rw[l];simp;omega}};rw[D2 (by rw[J];simp;exact To.1 g)];rfl};rw[this] at h1;simp at h1}| some P=>{have:=l x.on f i P g h1;omega}};{exact absurd f h1}}
def rG(ops:List Oper)(D:Nat->Prop):Prop:=∀j o,D j->ops[j]?=some o->∀x∈o.after.toList,Region.binds .any x=true->D x.on
theorem qq{ops:List Oper}(he:lp ops 0=true){D:Nat->Prop}(R:rG ops D):∀(j i:Nat) (o:Oper),ops[j]?=some o->
  (∀x∈o.after.toList,Region.binds .any x=true->D x.on)->(before ops j).testBit i=true->D i:=by intro j;induction j using Nat.strongRecOn with| _ j r=>{intro i o C U h;obtain⟨x,I,J,t⟩:=yT C h;have g:x.on<j:=by{have:=(sV he j o C).1 x I J;omega};have l:=U x I J;rcases t with h1 | ⟨_,h1⟩ | h1;{subst h1;exact l};{cases f:ops[x.on]? with| none=>{have:(before ops x.on)=0:=by{unfold before;have hl:∀(ops:List Oper) (acc:List Nat),(bA acc ops).length=acc.length+ops.length:=by{intro ops;induction ops with| nil=>{intro acc;simp[bA]}| cons p ops r=>{intro acc;unfold bA;rw[r];simp;omega}};rw[D2 (by rw[hl];simp;exact To.1 f)];rfl};rw[this] at h1;simp at h1}| some P=>{exact r x.on g i P f (R x.on P l f) h1}};{exact absurd g h1}}
theorem E9{ops:List Oper}{b:Oper}{j m:Nat}:∀(l:List Oper) (i:Nat),o6.inner ops b j m l i=true->∀(k:Nat) (a:Oper),l[k]?=some a->i+k<j->
  m.testBit (i+k)=true\/kS ops a b=true
 | [],i,_,k,a,h,_=>by simp at h
 | p::l,i,hi,k,a,h,hk=>by{unfold o6.inner at hi;have f:Nat.ble j i=false:=by{cases g:Nat.ble j i with| false=>{rfl}| true=>{have:=Tq g;omega}};simp only[f,zy,ti,SO] at hi;cases k with| zero=>{simp at h;subst h;exact hi.1}| succ k=>{have:=E9 l (i+1) hi.2 k a (by simpa using h) (by omega);rw[show i+1+k=i+(k+1) from by omega] at this;exact this}}
theorem Ef{ops:List Oper}:∀{rest:List Oper} {f:Nat},o6 ops (bA [] ops) rest f=true->∀(j:Nat) (b:Oper),rest[j]?=some b->∀(k:Nat) (a:Oper),ops[k]?=some a->k<f+j->
  (before ops (f+j)).testBit k=true\/kS ops a b=true
 | [],f,_,j,b,h,_,_,_,_=>by simp at h
 | p::rest,f,g,j,b,h,k,a,hk,i=>by{unfold o6 at g;simp only[ti] at g;cases j with| zero=>{simp at h;subst h;have:=E9 ops 0 g.1 k a hk (by omega);simpa [before] using this}| succ j=>{have:=Ef g.2 j b (by simpa using h) k a hk (by omega);rw[show f+1+j=f+(j+1) from by omega] at this;exact this}}
theorem A6{ops:List Oper}{a b:Oper}(h:kS ops a b=true){d:Tmp}(i:a.dst=some d):d∉tmpsOf ops b/\b.dst≠some d:=by unfold kS at h;simp only[i,ti,Tw] at h;obtain⟨⟨⟨⟨f,g⟩,_⟩,_⟩,_⟩:=h;refine⟨λhm=>?_,λhm=>?_⟩;{rw[List.contains_iff_mem.2 hm] at f;cases f};{rw[hm] at g;simp at g}
theorem GM{ops:List Oper}{a b:Oper}(h:kS ops a b=true){d:Tmp}(g:b.dst=some d):d∉tmpsOf ops a:=by unfold kS at h;simp only[g,ti,Tw] at h;obtain⟨⟨⟨_,f⟩,_⟩,_⟩:=h;intro hm;rw[List.contains_iff_mem.2 hm] at f;cases f
theorem rq{ops:List Oper}{a b:Oper}(h:kS ops a b=true):¬(fU b.op=true/\cd a.op=false)/\¬(fU a.op=true/\ia b.op=true):=by unfold kS at h;simp only[ti,Tw] at h;obtain⟨⟨_,f⟩,g⟩:=h;refine⟨λ⟨x,y⟩=>?_,λ⟨x,y⟩=>?_⟩;{rw[x,y] at f;cases f};{rw[x,y] at g;cases g}
theorem Bf{C i:Nat}{f:List Nat}{look:List Nat}{I:au->Bool}:∀(os:List Oper) (tr:List qt) (j:Nat),cX.outer.inner f I i look C os tr j=true->
  ∀(k:Nat) (o:Oper) (h l:au) (lk:List Nat×(au->Bool)),os[k]?=some o->tr[k]?=some (h,l,lk)->
   cd o.op=true\/i=j+k\/C.testBit (j+k)=true\/((f[j+k]?).getD 0).testBit i=true\/(∀x∈look,h.get x=l.get x)\/(i<j+k/\I l=true)
 | [],_,_,_,k,o,h,l,lk,r,_=>by simp at r
 | _::_,[],_,_,k,o,h,l,lk,_,t=>by simp at t
 | p::os,(g,P,R,U)::tr,j,hi,k,o,h,l,lk,r,t=>by{unfold cX.outer.inner at hi;simp only[ti,SO] at hi;cases k with| zero=>{simp at r t;subst r;obtain⟨rfl,rfl,rfl⟩:=t;rcases hi.1 with ((((h2 | h2) | h2) | h2) | h2) | h2;{exact .inl h2};{exact .inr (.inl (by simpa using h2))};{exact .inr (.inr (.inl h2))};{exact .inr (.inr (.inr (.inl h2)))};{exact .inr (.inr (.inr (.inr (.inl λx J=>sv (SK.1 h2 x J)))))};{exact .inr (.inr (.inr (.inr (.inr ⟨Sk (Tq h2.1) (mc _),h2.2⟩))))}}| succ k=>{have:=Bf os tr (j+1) hi.2 k o h l lk (by simpa using r) (by simpa using t);rw[show j+1+k=j+(k+1) from by omega] at this;exact this}}
theorem Fs{ops:List Oper}{f:List Nat}{tr:List qt}:∀(rest:List qt) (i0:Nat),cX.outer ops f tr rest i0=true->
  ∀(i:Nat) (g t:au) (look:List Nat) (l:au->Bool),rest[i]?=some (g,t,look,l)->∀(k:Nat) (o:Oper) (h j:au) (lk:List Nat×(au->Bool)),ops[k]?=some o->tr[k]?=some (h,j,lk)->∀x∈look,
   cd o.op=true\/i0+i=k\/((f[i0+i]?).getD 0).testBit k=true\/((f[k]?).getD 0).testBit (i0+i)=true\/h.get x=j.get x\/(i0+i<k/\l j=true)
 | [],_,_,i,g,t,look,l,h,_,_,_,_,_,_,_,_,_=>by simp at h
 | (p,R,pl,U)::rest,i0,C,i,g,t,look,l,hi,k,o,h,j,lk,J,P,x,I=>by{unfold cX.outer at C;simp only[ti] at C;cases i with| zero=>{simp at hi;obtain⟨rfl,rfl,rfl,rfl⟩:=hi;have r:=C.1;split at r;{cases I};{have:=Bf ops tr 0 r k o h j lk J P;simp only[yo] at this;rcases this with h2 | h2 | h2 | h2 | h2 | h2;{exact .inl h2};{exact .inr (.inl h2)};{exact .inr (.inr (.inl h2))};{exact .inr (.inr (.inr (.inl h2)))};{exact .inr (.inr (.inr (.inr (.inl (h2 x I)))))};{exact .inr (.inr (.inr (.inr (.inr ⟨by simpa using h2.1,h2.2⟩))))}}}| succ i=>{have:=Fs rest (i0+1) C.2 i g t look l (by simpa using hi) k o h j lk J P x I;rw[show i0+1+i=i0+(i+1) from by omega] at this;exact this}}
end Go.Abs
/-
 Soundness,eighteenth part: a region whose order is open: whatever order,the same comes out.
-/
namespace Go.Abs
open Go
section
variable {C:Ctx}{P:Program}
theorem jj{ρ ρ2:Operand->Option Value}:∀(xs:List Operand),(∀x∈xs,ρ x=ρ2 x)->cZ ρ xs=cZ ρ2 xs
 | [],_=>rfl
 | x::xs,h=>by simp only[cZ,h x (by simp),jj xs λy f=>h y (by simp[f])]
theorem oO{ρ ρ2:Operand->Option Value}:∀(xs:List (Nat×Operand)),(∀x∈xs.map (·.2),ρ x=ρ2 x)->fw ρ xs=fw ρ2 xs
 | [],_=>rfl
 | (i,x)::xs,h=>by simp only[fw,h x (by simp),oO xs λy f=>h y (by simp only[y2,IN];exact .inr f)]
theorem uV{ρ ρ2:Operand->Option Value}{x:Option Operand}(h:∀y,x=some y->ρ y=ρ2 y):lO ρ x=lO ρ2 x:=by cases x with| none=>{rfl}| some y=>{simp only[lO,h y rfl]}
theorem IX{ρ ρ2:Operand->Option Value}{h:au}{op:Op}(g:∀x∈op.operands,ρ x=ρ2 x):aQ C ρ h op=aQ C ρ2 h op/\bL ρ op=bL ρ2 op:=by cases op with| build t ps=>{have:=oO (ρ:=ρ) (ρ2:=ρ2) ps.toList (λx hm=>g x (by simpa [Op.operands] using hm));simp only[aQ,bL,this,and_self]}| buildSlice t n ps=>{have:=oO (ρ:=ρ) (ρ2:=ρ2) ps.toList (λx hm=>g x (by simpa [Op.operands] using hm));simp only[aQ,bL,this,and_self]}| makeFunc fn xs ys=>{have j:=jj (ρ:=ρ) (ρ2:=ρ2) xs.toList (λx hm=>g x (by simp[Op.operands,Tg.1 hm]));have J:=jj (ρ:=ρ) (ρ2:=ρ2) ys.toList (λx hm=>g x (by simp[Op.operands,Tg.1 hm]));simp only[aQ,bL,j,J,and_self]}| slice t x lo hi U=>{have l:=g x (by simp[Op.operands]);have j:=uV (ρ:=ρ) (ρ2:=ρ2) (x:=lo) (λy I=>g y (by subst I;simp[Op.operands]));have J:=uV (ρ:=ρ) (ρ2:=ρ2) (x:=hi) (λy I=>g y (by subst I;simp[Op.operands]));have h3:=uV (ρ:=ρ) (ρ2:=ρ2) (x:=U) (λy I=>g y (by subst I;simp[Op.operands]));simp only[aQ,bL,l,j,J,h3,and_self]}| call c=>{cases p:c.callee with| value f=>{have l:=g f (by simp[Op.operands,Call.operands,p]);have j:=jj (ρ:=ρ) (ρ2:=ρ2) c.args.toList (λx hm=>g x (by simp[Op.operands,Call.operands,Tg.1 hm]));simp only[aQ,bL,p,l,j,and_self]}| invoke f m=>{have l:=g f (by simp[Op.operands,Call.operands,p]);have j:=jj (ρ:=ρ) (ρ2:=ρ2) c.args.toList (λx hm=>g x (by simp[Op.operands,Call.operands,Tg.1 hm]));simp only[aQ,bL,p,l,j,and_self]}| builtin b=>{have j:=jj (ρ:=ρ) (ρ2:=ρ2) c.args.toList (λx hm=>g x (by simp[Op.operands,Call.operands,Tg.1 hm]));simp only[aQ,p,j,Uk];cases b<;>simp only[bL,p];cases R:c.args.toList with| nil=>{rfl}| cons a as=>{have l:=g a (by{have:a∈c.args:=Tg.1 (by rw[R];simp);simp[Op.operands,Call.operands,this]});simp only[l]}}}| makeMap t r=>{cases r<;>exact⟨rfl,rfl⟩}| move x | assign x | load t x | nilCheck x | unOp t x t2 | convert t t2 x | makeInterface t x | fieldAddr t x f | field t x f | extract x i | typeAssert x xt t b | box t x=>{simp only[Op.operands] at g;simp[aQ,bL,g]}| pick x y z=>{simp only[Op.operands] at g;simp[aQ,bL,g x (by simp),g y (by simp),g z (by simp)]}| store t x y | binOp o t x y t2 | makeSlice t x y | indexAddr t x y | index t x y | lookup t x y b | mapEntry t x y=>{simp only[Op.operands] at g;simp[aQ,bL,g x (by simp),g y (by simp)]}| mapUpdate t x y z | insert t x y z | entryStore t x y z=>{simp only[Op.operands] at g;simp[aQ,bL,g x (by simp),g y (by simp),g z (by simp)]}| _=>{exact⟨rfl,rfl⟩}
theorem tq{cal:rJ}{ops:List Oper}:∀(rest:List Oper) (e f:Env) (h g:au) (tr:List qt),fz C cal ops rest e h=some (f,g,tr)->
  ∃(es:Nat->Env) (hs:Nat->au),es 0=e/\hs 0=h/\es rest.length=f/\hs rest.length=g/\
   ∀(j:Nat) (o:Oper),rest[j]?=some o->dj C cal ops o (es j) (hs j)=some (es (j+1),hs (j+1))/\tr[j]?=some (hs j,hs (j+1),bL ((es j).eval C) o.op,jV C ((es j).eval C) (hs j) o.op)
 | [],e,f,h,g,tr,q=>by{cases q;exact⟨λ_=>e,λ_=>h,rfl,rfl,rfl,rfl,λj o I=>by simp at I⟩}
 | o::rest,e,f,h,g,tr,q=>by{unfold fz at q;split at q;{cases q};{rename_i J R r;split at q;{cases q};{rename_i e2 h2 l U;cases q;obtain⟨es,hs,p1,p2,p3,p4,t⟩:=tq rest J f R g l U;refine⟨λj=>match j with | 0=>e | j+1=>es j,λj=>match j with | 0=>h | j+1=>hs j,rfl,rfl,p3,p4,λj p i=>?_⟩;cases j with| zero=>{simp at i;subst i;simp only[p1,p2];exact⟨r,by simp⟩}| succ j=>{exact⟨(t j p (by simpa using i)).1,by simpa using (t j p (by simpa using i)).2⟩}}}}
structure di(C:Ctx)(P:Program)(cal:rJ)(ops:Array Oper)(es:Nat->Env)(hs:Nat->au)(tr:List qt):Prop where
 ok:C.Ok P
 NL:qu C P cal
 step:∀(j:Nat) (o:Oper),ops[j]?=some o->dj C cal ops.toList o (es j) (hs j)=some (es (j+1),hs (j+1))/\tr[j]?=some (hs j,hs (j+1),bL ((es j).eval C) o.op,jV C ((es j).eval C) (hs j) o.op)
 wf:∀i b,(hs 0).get i=some b->i<(hs 0).next
 draw:n6 ops.toList=true
 HQ:cX ops.toList (bA [] ops.toList) tr=true
variable {cal:rJ}{ops:Array Oper}{es:Nat->Env}{hs:Nat->au}{tr:List qt}
theorem di.k7(d:di C P cal ops es hs tr){j:Nat}(h:j<ops.size):gY (hs j) (hs (j+1)):=by have f:ops[j]?=some ops[j]:=by{simp[h]};exact sZ d.ok d.NL (d.step j _ f).1
theorem di.qU(d:di C P cal ops es hs tr){i j:Nat}(f:i<=j)(h:j<=ops.size):gY (hs i) (hs j):=by induction j with| zero=>{have:i=0:=by{omega};subst this;exact gY.refl _}| succ j g=>{by_cases hi:i=j+1;{subst hi;exact gY.refl _};{exact(g (by omega) (by omega)).trans (d.k7 (by omega))}}
theorem di.Mi(d:di C P cal ops es hs tr){j:Nat}(h:j<=ops.size):∀i b,(hs j).get i=some b->i<(hs j).next:=(d.qU (BY j) h).wf d.wf
theorem di.v5(d:di C P cal ops es hs tr):lp ops.toList 0=true:=by have:=d.draw;simp only[n6,ti] at this;exact this.1
theorem di.pair(d:di C P cal ops es hs tr){i j:Nat}{a b:Oper}(f:ops[i]?=some a)(g:ops[j]?=some b)(h:i<j):(before ops.toList j).testBit i=true\/kS ops.toList a b=true:=by have:=d.draw;simp only[n6,ti] at this;have:=Ef this.2 j b (by simpa using g) i a (by simpa using f) (by omega);simpa using this
def cY(hs:Nat->au)(k x:Nat):Prop:=(hs (k+1)).get x≠(hs k).get x
theorem di.kinds(d:di C P cal ops es hs tr){k:Nat}{o:Oper}(I:ops[k]?=some o) :
  (cd o.op=true->hs (k+1)=hs k)/\(sQ o.op=true->∀x,cY hs k x->x=(hs k).next)/\(ia o.op=true->∀x,cY hs k x->bL ((es k).eval C) o.op=[x]/\∃B,(hs k).get x=some B):=by have q:=(d.step k o I).1;unfold dj at q;split at q;{cases q};{simp only[pr,R7] at q;obtain⟨_,l⟩:=q;have p:∀x,¬cY hs k x:=λx g=>g (by rw[<-l]);exact⟨λ_=>l.symm,λ_ x g=>absurd g (p x),λ_ x g=>absurd g (p x)⟩};{split at q;{cases q};{rename_i v R i;simp only[pr,R7] at q;obtain⟨U,l⟩:=q;refine⟨λj=>?_,λr x g=>?_,λj x g=>?_⟩;{obtain⟨v2,r1,_⟩:=k4 d.ok j i;cases r1;exact l.symm};{obtain⟨v2,b,_,r1,_⟩:=uQ d.ok r i;cases r1;unfold cY at g;rw[<-l,au.dH] at g;split at g;{assumption};{exact absurd rfl g}};{obtain⟨b,cs,r0,r1,⟨J,r2⟩,_⟩:=jl d.ok j i;cases r1;unfold cY at g;rw[<-l,au.dL] at g;split at g;{rename_i t;subst t;exact⟨r0,_,r2⟩};{exact absurd rfl g}}};{rename_i f args i;refine⟨λj=>?_,λr x g=>?_,λj x g=>?_⟩;{obtain⟨v2,r1,_⟩:=k4 d.ok j i;cases r1};{obtain⟨v2,b,_,r1,_⟩:=uQ d.ok r i;cases r1};{obtain⟨b,cs,r0,r1,_⟩:=jl d.ok j i;cases r1}}}
open Classical in
noncomputable def G(hs:Nat->au)(D:Nat->Prop):Nat->Nat->Option aC
 | 0,x=>(hs 0).get x
 | k+1,x=>if D k/\cY hs k x then (hs (k+1)).get x else G hs D k x
open Classical in
noncomputable def V(ops:Array Oper)(es:Nat->Env)(D:Nat->Prop):Nat->Nat->Option Value
 | 0,t=>(es 0).get t
 | k+1,t=>if D k/\(ops[k]?).bind (·.dst)=some t then (es (k+1)).get t else V ops es D k t
theorem tY{D:Nat->Prop}{x:Nat}:∀{j:Nat},(∀k,k<j->cY hs k x->D k)->G hs D j x=(hs j).get x
 | 0,_=>rfl
 | j+1,h=>by{unfold G;by_cases f:cY hs j x;{rw[nw ⟨h j (by omega) f,f⟩]};{rw[mb (λq=>f q.2),tY λk hk=>h k (by omega)];unfold cY at f;exact(Classical.not_not.1 f).symm}}
theorem pB{D:Nat->Prop}{x i:Nat}:∀{j:Nat},i<=j->(∀k,i<=k->k<j->¬(D k/\cY hs k x))->G hs D j x=G hs D i x
 | 0,h,_=>by{have:i=0:=by{omega};subst this;rfl}
 | j+1,h,f=>by{by_cases hi:i=j+1;{subst hi;rfl};{rw[G,mb (f j (by omega) (by omega)),pB (by omega) λk g l=>f k g (by omega)]}}
theorem rT{D i:Nat->Prop}{x:Nat}:∀{j:Nat},(∀k,k<j->cY hs k x->(D k↔i k))->G hs D j x=G hs i j x
 | 0,_=>rfl
 | j+1,h=>by{unfold G;rw[rT λk hk=>h k (by omega)];by_cases f:cY hs j x;{by_cases g:D j;{rw[nw ⟨g,f⟩,nw ⟨(h j (by omega) f).1 g,f⟩]};{rw[mb (λq=>g q.1),mb (λq=>g ((h j (by omega) f).2 q.1))]}};{rw[mb (λq=>f q.2),mb (λq=>f q.2)]}}
theorem Co(d:di C P cal ops es hs tr){D:Nat->Prop}{t:Nat}:∀{j:Nat},j<=ops.size->(∀k,k<j->(ops[k]?).bind (·.dst)=some t->D k)->V ops es D j t=(es j).get t
 | 0,_,_=>rfl
 | j+1,r,h=>by{unfold V;by_cases g:(ops[j]?).bind (·.dst)=some t;{rw[nw ⟨h j (by omega) g,g⟩]};{rw[mb (λq=>g q.2),Co d (by omega) λk hk=>h k (by omega)];have l:ops[j]?=some ops[j]:=by{simp[show j<ops.size from by omega]};have q:=(d.step j _ l).1;have f:∀v,((es j).put ops[j].dst v).get t=(es j).get t:=by{intro v;unfold Env.put;cases p:ops[j].dst with| none=>{rfl}| some o=>{simp only;have i:t≠o:=by{intro e;subst e;exact g (by rw[l];exact p)};cases I:Nat.blt o (es j).n with| true=>{exact T.xI _ _ _ _ i}| false=>{rfl}}};unfold dj at q;split at q;{cases q};{simp only[pr,R7] at q;rw[<-q.1,f]};{split at q;{cases q};{simp only[pr,R7] at q;rw[<-q.1,f]};{split at q;{cases q};{simp only[pr,R7] at q;rw[<-q.1,f]}}}}}
theorem wD{D:Nat->Prop}{t i:Nat}:∀{j:Nat},i<=j->(∀k,i<=k->k<j->¬(D k/\(ops[k]?).bind (·.dst)=some t))->V ops es D j t=V ops es D i t
 | 0,h,_=>by{have:i=0:=by{omega};subst this;rfl}
 | j+1,h,f=>by{by_cases hi:i=j+1;{subst hi;rfl};{rw[V,mb (f j (by omega) (by omega)),wD (by omega) λk g l=>f k g (by omega)]}}
theorem HG{D i:Nat->Prop}{t:Nat}:∀{j:Nat},(∀k,k<j->(ops[k]?).bind (·.dst)=some t->(D k↔i k))->V ops es D j t=V ops es i j t
 | 0,_=>rfl
 | j+1,h=>by{unfold V;rw[HG λk hk=>h k (by omega)];by_cases f:(ops[j]?).bind (·.dst)=some t;{by_cases g:D j;{rw[nw ⟨g,f⟩,nw ⟨(h j (by omega) f).1 g,f⟩]};{rw[mb (λq=>g q.1),mb (λq=>g ((h j (by omega) f).2 q.1))]}};{rw[mb (λq=>f q.2),mb (λq=>f q.2)]}}
end
end Go.Abs
/-
 Soundness,nineteenth part: one step of a region whose order is open.
-/
namespace Go.Abs
open Go
section
variable {C:Ctx}{P:Program}
theorem Ev.HT{σ:bG}{g:Nat->Option aC}{n:Nat}{w:World}{f:bG}{j:Nat->Option aC}{l:Nat}{o:World}(h:Ev σ g n w f j l o){p N:Nat}(r:p<=n)(t:l<=N) :
  Ev σ g p w f j N o:=⟨h.size,h.os,h.out,h.tape,h.qT,h.own,λi hi=>h.sig i (by omega)⟩
theorem Ev.comp{σ:bG}{g:Nat->Option aC}{n N:Nat}{w:World}{o:bG}{U:Nat->Option aC}{w1:World}{p:bG}{g2:Nat->Option aC}{w2:World}
  (a:Ev σ g n w o U N w1) (b:Ev o U n w1 p g2 N w2):Ev σ g n w p g2 N w2 where
 size:=LN a.size b.size
 os:=b.os.trans a.os
 out:=b.out.trans a.out
 tape:=b.tape.trans a.tape
 qT:=λk hk hn=>by
  rw[b.qT k (Sk hk a.size) (λi B l r t hs hb=>?_),a.qT k hk hn];rcases a.own i B l r t hs with f | ⟨j,D,m,f,I,J,R⟩
  ·omega
  ·exact hn j D m f I J (R.trans hb)
 own:=λi B l r t hs=>by
  rcases b.own i B l r t hs with f | ⟨j,D,m,f,I,J,R⟩
  ·exact .inl (LN a.size f)
  ·rcases a.own j D m f I J with h5 | ⟨k,E,q,h5,h6,h7,h8⟩
   ·exact .inl (by omega)
   ·exact .inr ⟨k,E,q,h5,h6,h7,h8.trans R⟩
 sig:=λi hi=>by rw[b.sig i hi,a.sig i hi]
structure Inv(C:Ctx)(ops:Array Oper)(es:Nat->Env)(hs:Nat->au)(σ0:bG)(w0:World)(df:List Deferred)(D:Nat->Prop)(σ:bG)(a:Act)(w:World):Prop where
 zV:uG C σ
 zK:dT σ (G hs D ops.size) w
 size:(es 0).n=a.tmps.size
 env:∀(t:Nat) (v:Value),V ops es D ops.size t=some v->∃v',a.tmps[t]?=some v'/\aV σ v v'
 fresh:∀k,k<ops.size->¬D k->∀i,(hs k).next<=i->i<(hs (k+1)).next->σ i=none
 ev:Ev σ0 (hs 0).get (hs 0).next w0 σ (G hs D ops.size) (hs ops.size).next w
 defers:a.defers=df
variable {cal:rJ}{ops:Array Oper}{es:Nat->Env}{hs:Nat->au}{tr:List qt}
theorem Env.Kb(e:Env)(d:Option Tmp)(v:Value):(e.put d v).n=e.n:=by unfold Env.put;cases d with| none=>{rfl}| some d=>{simp only;cases Nat.blt d e.n<;>rfl}
theorem O8{cal:rJ}{l:List Oper}{o:Oper}{e f:Env}{h g:au}(q:dj C cal l o e h=some (f,g)):f.n=e.n:=by unfold dj at q;split at q;{cases q};{simp only[pr,R7] at q;rw[<-q.1,Env.Kb]};{split at q;{cases q};{simp only[pr,R7] at q;rw[<-q.1,Env.Kb]};{split at q;{cases q};{simp only[pr,R7] at q;rw[<-q.1,Env.Kb]}}}
theorem di.ns(d:di C P cal ops es hs tr):∀{j:Nat},j<=ops.size->(es j).n=(es 0).n
 | 0,_=>rfl
 | j+1,h=>by{have f:ops[j]?=some ops[j]:=by{simp[show j<ops.size from by omega]};rw[O8 (d.step j _ f).1,d.ns (by omega)]}
structure cH(ops:Array Oper)(D:Nat->Prop)(j:Nat)(o:Oper):Prop where
 at_:ops[j]?=some o
 not:¬D j
 v5:∀x∈o.after.toList,Region.binds .any x=true->D x.on
 closed:rG ops.toList D
theorem cH.lt{D:Nat->Prop}{j:Nat}{o:Oper}(r:cH ops D j o):j<ops.size:=(Sc.1 r.at_).1
theorem cH.Qb{D:Nat->Prop}{j:Nat}{o:Oper}(r:cH ops D j o)(d:di C P cal ops es hs tr){k:Nat}(h:(before ops.toList j).testBit k=true):D k:=
 qq d.v5 r.closed j k o (by simpa using r.at_) r.v5 h
theorem cH.desc{D:Nat->Prop}{j:Nat}{o:Oper}(r:cH ops D j o)(d:di C P cal ops es hs tr){k:Nat}{p:Oper}(hk:D k)(f:ops[k]?=some p)(h:(before ops.toList k).testBit j=true):False:=
 r.not (qq d.v5 r.closed k j p (by simpa using f) (λx g i=>r.closed k p hk (by simpa using f) x g i) h)
theorem Oj{ops:Array Oper}{k t:Nat}(h:(ops[k]?).bind (·.dst)=some t):∃p,ops[k]?=some p/\p.dst=some t:=by cases f:ops[k]? with| none=>{simp[f] at h}| some p=>{exact⟨p,rfl,by simpa [f] using h⟩}
theorem cH.wB{D:Nat->Prop}{j:Nat}{o:Oper}(r:cH ops D j o)(d:di C P cal ops es hs tr){t:Nat}(ht:t∈tmpsOf ops.toList o\/o.dst=some t) :
  ∀k,k≠j->(ops[k]?).bind (·.dst)=some t->(k<j->D k)/\(j<k->¬D k):=by intro k l I;obtain⟨p,i,f⟩:=Oj I;refine⟨λg=>?_,λg hk=>?_⟩;{rcases d.pair i r.at_ g with h | h;{exact r.Qb d h};{obtain⟨J,R⟩:=A6 h f;rcases ht with ht | ht;{exact absurd ht J};{exact absurd ht R}}};{rcases d.pair r.at_ i g with h | h;{exact r.desc d hk i h};{rcases ht with ht | ht;{exact absurd ht (GM h f)};{exact absurd f (A6 h ht).2}}}
theorem cH.read{D:Nat->Prop}{j:Nat}{o:Oper}(r:cH ops D j o)(d:di C P cal ops es hs tr){t:Nat}(l:t∈tmpsOf ops.toList o\/o.dst=some t) :
  V ops es D ops.size t=(es j).get t:=by have I:=r.lt;rw[wD (i:=j) (by omega),Co d (by omega)];{intro k hk g;exact(r.wB d l k (by omega) g).1 hk};{rintro k J R ⟨p,g⟩;by_cases f:k=j;{subst f;exact r.not p};{exact(r.wB d l k f g).2 (by omega) p}}
def plus(D:Nat->Prop)(j:Nat):Nat->Prop:=λk=>D k\/k=j
theorem cH.after{D:Nat->Prop}{j:Nat}{o:Oper}(r:cH ops D j o)(d:di C P cal ops es hs tr){t:Nat} :
  V ops es (plus D j) ops.size t=if o.dst=some t then (es (j+1)).get t else V ops es D ops.size t:=by have p:=r.lt;split;{rename_i l;rw[wD (i:=j+1) (by omega),Co d (by omega)];{intro k hk g;by_cases f:k=j;{exact .inr f};{exact .inl ((r.wB d (.inr l) k f g).1 (by omega))}};{rintro k I J ⟨hD,g⟩;rcases hD with hD | hD;{exact(r.wB d (.inr l) k (by omega) g).2 (by omega) hD};{omega}}};{rename_i l;refine HG λk hk g=>?_;have f:k≠j:=by{intro e;subst e;rw[r.at_] at g;exact l (by simpa using g)};exact⟨λh=>h.resolve_right f,.inl⟩}
theorem cH.finish{D:Nat->Prop}{j:Nat}{o:Oper}(r:cH ops D j o)(d:di C P cal ops es hs tr){σ0 σ f:bG}{w0 w w':World}{df:List Deferred}{a:Act}(I:Inv C ops es hs σ0 w0 df D σ a w)
  {v v':Value} (he:es (j+1)=(es j).put o.dst v) (hv:aV f v v') (hle:bG.le σ f) (ac:dT f (G hs (plus D j) ops.size) w')
  (k7:Ev σ (G hs D ops.size) (hs 0).next w f (G hs (plus D j) ops.size) (hs ops.size).next w')
  (ad:∀k,k<ops.size->¬D k->k≠j->∀i,(hs k).next<=i->i<(hs (k+1)).next->f i=σ i) :
  Inv C ops es hs σ0 w0 df (plus D j) f (a.put o.dst v') w' where
 zV:=I.zV.mono hle
 zK:=ac
 size:=by
  rw[I.size];cases hd:o.dst with
  | none=>rfl
  | some t=>simp[Act.put]
 env:=λt u hu=>by
  rw[r.after d] at hu;have cU:V ops es D ops.size t=some u->∃v',a.tmps[t]?=some v'/\aV f u v':=λh=>by
   obtain⟨U,g,l⟩:=I.env t u h;exact⟨U,g,l.mono hle⟩
  have hn:(es j).n=a.tmps.size:=by rw[d.ns (Sm r.lt),I.size]
  split at hu
  ·rename_i ht;rw[he] at hu;simp only[ht,Env.put,Act.put] at hu |-;cases R:Nat.blt t (es j).n with
   | true=>
    simp only[R,xf] at hu;have:((es j).t.set t (some v)).get t=some u:=hu;rw[T.rM] at this;cases this;have p:t<a.tmps.size:=by rw[<-hn];simpa using R
    exact⟨v',by simp[p],hv⟩
   | false=>
    simp only[R,zy] at hu;have p:¬t<a.tmps.size:=by
     rw[<-hn];intro h;rw[show Nat.blt t (es j).n=true from by simpa using h] at R;cases R
    obtain⟨U,g,l⟩:=cU (by rw[r.read d (.inr ht)];exact hu);exact absurd (Sc.1 g).1 p
  ·rename_i ht;obtain⟨U,g,l⟩:=cU hu;refine⟨U,?_,l⟩;cases hd:o.dst with
   | none=>exact g
   | some t2=>
    have ae:t≠t2:=λe=>ht (by rw[hd,e]);simp only[Act.put];rw[SM (Ne.symm ae)];exact g
 fresh:=λk hk J i g l=>by
  have af:k≠j:=λe=>J (.inr e);rw[ad k hk (λh=>J (.inl h)) af i g l];exact I.fresh k hk (λh=>J (.inl h)) i g l
 ev:=I.ev.comp k7
 defers:=by
  rw[<-I.defers];cases o.dst<;>rfl
end
end Go.Abs