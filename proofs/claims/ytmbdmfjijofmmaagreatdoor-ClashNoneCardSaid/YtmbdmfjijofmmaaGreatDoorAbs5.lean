/-
  The abstract machine is sound, last part: open orders, code, calls, closed runs, facts.
-/
import Derived.Test.YtmbdmfjijofmmaaGreatDoorAbs4
import Derived.Below
import Derived.ChangeSame
/-
 Soundness,twentieth part: each kind of operation in a region whose order is open.
-/
namespace Go.Abs
open Go
section
variable {C:Ctx}{P:Program}
variable {cal:rJ}{ops:Array Oper}{es:Nat->Env}{hs:Nat->au}{tr:List qt}
open Classical in
noncomputable def o5(o:Oper)(ρ:Operand->Option Value):Operand->Option Value:=λx=>if x∈o.op.operands then ρ x else none
theorem mw(o:Oper)(ρ:Operand->Option Value)(h:au):aQ C (o5 o ρ) h o.op=aQ C ρ h o.op/\bL (o5 o ρ) o.op=bL ρ o.op:=
 IX λx f=>by simp[o5,f]
theorem CP{l:List Oper}{o:Oper}{t:Tmp}(h:Operand.tmp t∈o.op.operands):t∈tmpsOf l o:=by unfold tmpsOf;refine AI.2 (.inl (Ue.2 ⟨.tmp t,Tg.2 h,rfl⟩))
theorem cH.MM{D:Nat->Prop}{j:Nat}{o:Oper}(r:cH ops D j o)(d:di C P cal ops es hs tr){σ0 σ:bG}{w0 w:World}{df:List Deferred}{a:Act}(I:Inv C ops es hs σ0 w0 df D σ a w) :
  w6 σ (o5 o ((es j).eval C)) a.eval:=by intro x v i;unfold o5 at i;split at i;{rename_i hm;cases x with| tmp t=>{have hV:=r.read d (.inl (CP (l:=ops.toList) hm));obtain⟨v',p,J⟩:=I.env t v (by rw[hV];exact i);simp only[Act.eval];rw[Sl,p];exact J}| const c=>{simp only[Env.eval] at i;cases R:plain c with| true=>{simp[R] at i;subst i;exact gz σ c R}| false=>{simp[R] at i}}| global g=>{simp only[Env.eval] at i;cases U:Nat.blt g C.cM with| true=>{simp only[U,xf,pr] at i;subst i;obtain⟨l,p,J,h3⟩:=I.zV g (by simpa using U);exact⟨l,p,rfl,by simp[Act.eval,J,h3]⟩}| false=>{simp[U] at i}}| func f=>{simp only[Env.eval,pr] at i;subst i;exact⟨[],[],rfl,rfl,rfl⟩}};{cases i}
theorem cH.want{D:Nat->Prop}{j:Nat}{o:Oper}(r:cH ops D j o)(d:di C P cal ops es hs tr){σ0 σ:bG}{w0 w:World}{df:List Deferred}{a:Act}(I:Inv C ops es hs σ0 w0 df D σ a w)
  {b:Bool} (q:qA ops.toList (es j) o=some b):Region.wanted o (yielded ops a.tmps)=b:=by unfold qA at q;unfold Region.wanted;cases f:o.guard with| none=>{simp[f] at q;subst q;rfl}| some U=>{obtain⟨i,want⟩:=U;simp only[f] at q |-;unfold yielded;rw[Sx] at q;cases g:(ops[i]?).bind (·.dst) with| none=>{simp[g] at q;subst q;simp}| some t=>{simp only[g] at q;simp only[Option.bind_some];have hm:t∈tmpsOf ops.toList o:=by{unfold tmpsOf;refine AI.2 (.inr ?_);simp only[f,Sx,g,n0]};have R:=r.read d (.inl hm);split at q;{rename_i b2 l;cases q;obtain⟨v',p,J⟩:=I.env t _ (by rw[R];exact l);rw[p,show v'=.bool b2 from J];simp};{rename_i l;cases q;obtain⟨v',p,cs,J,h3⟩:=I.env t _ (by rw[R];exact l);rw[p,J];simp};{cases q}}}
theorem di.FN(d:di C P cal ops es hs tr){i k:Nat}{p q:Oper}(g:ops[i]?=some p)(f:ops[k]?=some q){x:Nat}(j:x∈bL ((es i).eval C) p.op) :
  cd q.op=true\/i=k\/(before ops.toList i).testBit k=true\/(before ops.toList k).testBit i=true\/¬cY hs k x\/(i<k/\jV C ((es i).eval C) (hs i) p.op (hs (k+1))=true):=by have:=Fs tr 0 d.HQ i _ _ _ _ (d.step i p g).2 k q _ _ _ (by simpa using f) (d.step k q f).2 x j;simp only[yo] at this;rcases this with h | h | h | h | h | h;{exact .inl h};{exact .inr (.inl h)};{exact .inr (.inr (.inl h))};{exact .inr (.inr (.inr (.inl h)))};{exact .inr (.inr (.inr (.inr (.inl λl=>l h.symm))))};{exact .inr (.inr (.inr (.inr (.inr h))))}
theorem E6{ρ:Operand->Option Value}{h f:au}{op:Op}(g:∀t x k ok,op≠.lookup t x k ok):jV C ρ h op f=false:=by unfold jV;split;{rename_i t x k ok;exact absurd rfl (g t x k ok)};{rfl}
theorem cH.base{D:Nat->Prop}{j:Nat}{o:Oper}(r:cH ops D j o)(d:di C P cal ops es hs tr){x:Nat}(i:x∈bL ((es j).eval C) o.op):G hs D j x=(hs j).get x:=by have l:=r.lt;refine tY λk hk f=>?_;have g:ops[k]?=some ops[k]:=by{simp[show k<ops.size from by omega]};rcases d.FN r.at_ g i with h | h | h | h | h | h;{exact absurd (by rw[(d.kinds g).1 h]) f};{omega};{exact r.Qb d h};{have:=uB d.v5 k j ops[k] (by simp[show k<ops.size from by omega]) h;omega};{exact absurd f h};{omega}
theorem cH.NM{D:Nat->Prop}{j:Nat}{o:Oper}(r:cH ops D j o)(d:di C P cal ops es hs tr){x:Nat}(i:x∈bL ((es j).eval C) o.op) :
  ∃f,G hs D ops.size x=f.get x/\(f=hs j\/jV C ((es j).eval C) (hs j) o.op f=true):=by have t:=r.lt;have key:∀N,j<=N->N<=ops.size->∃f,G hs D N x=f.get x/\(f=hs j\/jV C ((es j).eval C) (hs j) o.op f=true):=by{intro N I;induction N with| zero=>{intro _;have:j=0:=by{omega};subst this;exact⟨hs 0,r.base d i,.inl rfl⟩}| succ N J=>{intro hN;by_cases e:j=N+1;{subst e;exact⟨hs (N+1),r.base d i,.inl rfl⟩};{obtain⟨f,R,U⟩:=J (by omega) (by omega);by_cases g:D N/\cY hs N x;{refine⟨hs (N+1),by rw[G,nw g],.inr ?_⟩;have l:N≠j:=λe2=>r.not (e2▸g.1);have p:ops[N]?=some ops[N]:=by{simp[show N<ops.size from by omega]};rcases d.FN r.at_ p i with h | h | h | h | h | h;{exact absurd (by rw[(d.kinds p).1 h]) g.2};{exact absurd h.symm l};{have:=uB d.v5 j N o (by simpa using r.at_) h;omega};{exact(r.desc d g.1 p h).elim};{exact absurd g.2 h};{exact h.2}};{exact⟨f,by rw[G,mb g];exact R,U⟩}}}};exact key ops.size (by omega) (mc _)
theorem cH.look{D:Nat->Prop}{j:Nat}{o:Oper}(r:cH ops D j o)(d:di C P cal ops es hs tr)(f:∀t x k ok,o.op≠.lookup t x k ok){x:Nat}(g:x∈bL ((es j).eval C) o.op) :
  G hs D ops.size x=(hs j).get x:=by obtain⟨l,i,h2⟩:=r.NM d g;rcases h2 with rfl | h2;{exact i};{rw[E6 f] at h2;cases h2}
theorem cH.Pq{D:Nat->Prop}{j:Nat}{o:Oper}(r:cH ops D j o)(d:di C P cal ops es hs tr){v:Value}(J:aQ C ((es j).eval C) (hs j) o.op=some (.val v (hs j))) :
  ∃p,aQ C ((es j).eval C) p o.op=some (.val v p)/\∀b∈bL ((es j).eval C) o.op,G hs D ops.size b=p.get b:=by by_cases hl:∃t x k ok,o.op=.lookup t x k ok;{obtain⟨t,x,k,ok,R⟩:=hl;by_cases U:∃b,bL ((es j).eval C) o.op=[b];{obtain⟨b,I⟩:=U;obtain⟨p,h1,h2⟩:=r.NM d (x:=b) (by rw[I];simp);rcases h2 with rfl | h2;{exact⟨hs j,J,λc i=>by rw[I] at i;rw[n0.1 i];exact h1⟩};{refine⟨p,?_,λc i=>by rw[I] at i;rw[n0.1 i];exact h1⟩;rw[R] at J h2 |-;unfold jV at h2;dsimp only at h2;rw[J] at h2;cases l:aQ C ((es j).eval C) p (.lookup t x k ok) with| none=>{rw[l] at h2;cases h2}| some q=>{rw[l] at h2;cases q with| call f as=>{cases h2}| val v2 g=>{have e:=jz h2;subst e;have hg:g=p:=by{unfold aQ at l;dsimp only at l;split at l;{rename_i a b ha ae;cases aa:fC C p t a b ok with| none=>{rw[aa] at l;cases l}| some z=>{rw[aa] at l;simp only[Si,pr,qy.val.injEq] at l;exact l.2.symm}};{cases l}};rw[hg]}}}};{refine⟨hs j,J,λc i=>?_⟩;exfalso;rw[R] at U i;unfold bL at U i;dsimp only at U i;split at i;{rename_i b I;exact U ⟨b,by rw[I]⟩};{cases i}}};{exact⟨hs j,J,λb I=>r.look d (λt x k ok e=>hl ⟨t,x,k,ok,e⟩) I⟩}
theorem cH.Kt{D:Nat->Prop}{j:Nat}(f:hs (j+1)=hs j):G hs (plus D j) ops.size=G hs D ops.size:=by funext x;refine rT λk hk i=>?_;have g:k≠j:=by{intro e;subst e;exact i (by rw[f])};exact⟨λh=>h.resolve_right g,.inl⟩
theorem cH.later{D:Nat->Prop}{j:Nat}{o:Oper}(r:cH ops D j o)(d:di C P cal ops es hs tr)(l:cd o.op=false){k:Nat}(t:j<k)(hk:k<ops.size)(hD:D k){x:Nat}(I:cY hs k x)
  (ac:x<(hs (j+1)).next):ia ops[k].op=true/\x∈bL ((es k).eval C) ops[k].op/\fU o.op=false:=by have J:ops[k]?=some ops[k]:=by{simp[hk]};have f:=d.kinds J;have R:kS ops.toList o ops[k]=true:=(d.pair r.at_ J t).resolve_left (λh=>r.desc d hD J h);obtain⟨h1,h2⟩:=rq R;cases p:cd ops[k].op with| true=>{exact absurd (by rw[f.1 p]) I}| false=>{cases hn:sQ ops[k].op with| true=>{have:=f.2.1 hn x I;have:=(d.qU (i:=j+1) (j:=k) (by omega) (by omega)).next;omega}| false=>{cases g:ia ops[k].op with| true=>{obtain⟨hl,_⟩:=f.2.2 g x I;refine⟨rfl,by rw[hl];simp,?_⟩;cases U:fU o.op with| false=>{rfl}| true=>{exact absurd ⟨U,g⟩ h2}}| false=>{exact absurd ⟨by simp[fU,p,hn,g],l⟩ h1}}}
theorem cH.IA{D:Nat->Prop}{j:Nat}{o:Oper}(r:cH ops D j o)(d:di C P cal ops es hs tr)(f:cd o.op=false){k:Nat}(i:j<k)(hk:k<ops.size)(p:D k){x:Nat}(I:cY hs k x)
  (l:x<(hs (j+1)).next):¬cY hs j x:=by obtain⟨_,R,_⟩:=r.later d f i hk p I l;have J:ops[k]?=some ops[k]:=by{simp[hk]};obtain⟨g,_,_⟩:=r.later d f i hk p I l;rcases d.FN J r.at_ R with h | h | h | h | h | h;{rw[h] at f;cases f};{omega};{exact(r.desc d p J h).elim};{have:=uB d.v5 j k o (by simpa using r.at_) h;omega};{exact h};{rw[E6 (λt x k ok e=>by rw[e] at g;cases g)] at h;cases h.2}
theorem cH.NY{D:Nat->Prop}{j:Nat}{o:Oper}(r:cH ops D j o)(d:di C P cal ops es hs tr)(p:cd o.op=false){b:Nat}{B:aC}(R:∀x,x≠b->¬cY hs j x)(U:(hs (j+1)).get b=some B)
  (I:b<(hs (j+1)).next) (g:¬cY hs j b->G hs D ops.size b=some B):G hs (plus D j) ops.size=db (G hs D ops.size) b (some B):=by have aa:=r.lt;funext x;by_cases J:x=b;{subst J;rw[cj];by_cases t:cY hs j x;{rw[pB (i:=j+1) (by omega),G,nw ⟨.inr rfl,t⟩,U];rintro k h1 h2 ⟨hD,f⟩;rcases hD with hD | hD;{exact r.IA d p (by omega) h2 hD f I t};{omega}};{rw[<-g t];refine rT λk hk f=>?_;have l:k≠j:=by{intro e;subst e;exact t f};exact⟨λh=>h.resolve_right l,.inl⟩}};{rw[dp _ _ J];refine rT λk hk f=>?_;have l:k≠j:=by{intro e;subst e;exact R x J f};exact⟨λh=>h.resolve_right l,.inl⟩}
theorem cH.ids{D:Nat->Prop}{j:Nat}{o:Oper}(r:cH ops D j o)(d:di C P cal ops es hs tr){k:Nat}(hk:k<ops.size)(f:k≠j){i:Nat}(l:(hs k).next<=i)(p:i<(hs (k+1)).next) :
  i<(hs j).next\/(hs (j+1)).next<=i:=by have g:=r.lt;by_cases h:k<j;{left;have:=(d.qU (i:=k+1) (j:=j) (by omega) (by omega)).next;omega};{right;have:=(d.qU (i:=j+1) (j:=k) (by omega) (by omega)).next;omega}
end
end Go.Abs
/-
 Soundness,part twenty-one: a region whose order is open,whole.
-/
namespace Go.Abs
open Go
section
variable {C:Ctx}{P:Program}
variable {cal:rJ}{ops:Array Oper}{es:Nat->Env}{hs:Nat->au}{tr:List qt}
theorem cH.called{D:Nat->Prop}{j:Nat}{o:Oper}(r:cH ops D j o)(d:di C P cal ops es hs tr)(ar:fU o.op=true){σ0 σ U:bG}{w0 w w':World}{df:List Deferred}{a:Act}
  (I:Inv C ops es hs σ0 w0 df D σ a w) (a1:dT U (hs (j+1)).get w') (k7:Ev σ (hs j).get (hs j).next w U (hs (j+1)).get (hs (j+1)).next w') (hle:bG.le σ U) :
  dT U (G hs (plus D j) ops.size) w'/\Ev σ (G hs D ops.size) (hs 0).next w U (G hs (plus D j) ops.size) (hs ops.size).next w':=by
 have ab:=r.lt;have a2:cd o.op=false:=by
  simp only[fU,ti,Tw] at ar;exact ar.1.2
 have hH:=d.k7 ab;have f:∀k,j<k->k<ops.size->D k->∀x,x<(hs (j+1)).next->¬cY hs k x:=λk h1 h2 h3 x t hc=>by
  obtain⟨_,_,h4⟩:=r.later d a2 h1 h2 h3 hc t;rw[ar] at h4;cases h4
 have g:∀k,k<j->∀x,cY hs k x->D k:=λk hk x hc=>by
  have bc:k<ops.size:=by omega
  have hp:ops[k]?=some ops[k]:=by simp[bc]
  rcases d.pair hp r.at_ hk with h | h
  ·exact r.Qb d h
  ·cases a4:cd ops[k].op with
   | true=>exact absurd (by rw[(d.kinds hp).1 a4]) hc
   | false=>exact absurd ⟨ar,a4⟩ (rq h).1
 have sub:∀x B,(hs j).get x=some B->G hs D ops.size x=some B:=λx B t=>by
  have a5:=d.Mi (Sm ab) x B t;rw[pB (i:=j) (by omega),tY λk hk hc=>g k hk x hc]
  ·exact t
  ·rintro k h1 h2 ⟨hD,hc⟩;by_cases af:k=j
   ·subst af;exact r.not hD
   ·exact f k (by omega) h2 hD x (by have:=hH.next;omega) hc
 have low:∀x,x<(hs (j+1)).next->G hs (plus D j) ops.size x=(hs (j+1)).get x:=λx t=>by
  rw[pB (i:=j+1) (by omega),tY]
  ·intro k hk hc;by_cases af:k=j
   ·exact .inr af
   ·exact .inl (g k (by omega) x hc)
  ·rintro k h1 h2 ⟨hD,hc⟩;rcases hD with hD | hD
   ·exact f k (by omega) h2 hD x t hc
   ·omega
 have dead:∀k x,k<=ops.size->(hs k).next<=x->(hs k).get x=none:=λk x hk t=>by
  cases hq:(hs k).get x with
  | none=>rfl
  | some B=>have:=d.Mi hk x B hq;omega
 have high:∀x,(hs (j+1)).next<=x->G hs (plus D j) ops.size x=G hs D ops.size x:=λx t=>by
  refine rT λk hk hc=>?_;have af:k≠j:=by
   intro e;subst e;exact hc (by rw[dead _ x (by omega) t,dead _ x (by omega) (LN hH.next t)])
  exact⟨λh=>h.resolve_right af,.inl⟩
 have aa:∀x,(hs (j+1)).next<=x->U x=σ x:=λx t=>k7.sig x (.inr t)
 have early:∀x B,(hs (j+1)).next<=x->G hs D ops.size x=some B->B.ro=false:=by
  intro x B t p;have key:∀m,m<=ops.size->∀B,G hs D m x=some B->(∃k,k<=m/\(hs k).get x=some B):=by
   intro m
   induction m with
   | zero=>intro _ B p;exact⟨0,mc _,p⟩
   | succ m ih=>
    intro hm B p;unfold G at p;split at p
    ·exact⟨m+1,mc _,p⟩
    ·obtain⟨k,h1,h2⟩:=ih (by omega) B p;exact⟨k,by omega,h2⟩
  obtain⟨k,hk,bd⟩:=key ops.size (mc _) B p;cases av:B.ro with
  | false=>rfl
  | true=>
   have h0:=(d.qU (BY k) hk).ro x B bd av;have:=d.wf x B h0;have:=(d.qU (i:=0) (j:=j+1) (by omega) (by omega)).next
   omega
 refine⟨⟨λx B p=>?_,λx y B E lx ly p hE a8 av R J=>?_⟩,?_⟩
 ·by_cases t:x<(hs (j+1)).next
  ·rw[low x t] at p;exact a1.cf x B p
  ·rw[high x (by omega)] at p;obtain⟨l,h1,h2⟩:=I.zK.cf x B p;refine⟨l,hle _ _ h1,(h2.mono hle).world (k7.qT l.cf h2.lt λi E m hi ag hm be=>?_)⟩;have bf:i≠x:=by
    have:=d.Mi (Sm ab) i E hi;have:=hH.next
    omega
   exact I.zK.inj i x E B m l (sub i E hi) p bf (.inl ag) hm h1 be
 ·
  have mixed:∀x y B E lx ly,x<(hs (j+1)).next->(hs (j+1)).next<=y->G hs (plus D j) ops.size x=some B->G hs (plus D j) ops.size y=some E->U x=some lx->U y=some ly->lx.cf≠ly.cf:=by
   intro x y B E lx ly t hy p hE R J;rw[low x t] at p;rw[high y hy] at hE;rw[aa y hy] at J;have ag:=early y E hy hE;cases al:B.ro with
   | true=>
    have a9:=hH.ro x B p al;have a5:=d.Mi (Sm ab) x B a9;rw[k7.sig x (.inl a5)] at R;exact I.zK.inj x y B E lx ly (sub x B a9) hE (by omega) (.inr ag) R J
   | false=>
    obtain⟨l2,h1,h2⟩:=I.zK.cf y E hE;rw[J] at h1;cases h1;have:=h2.lt;rcases k7.own x B lx p al R with h | ⟨i,F,m,h3,h4,h5,h6⟩
    ·omega
    ·rw[<-h6];have bv:=d.Mi (Sm ab) i F h3;have:=hH.next
     exact I.zK.inj i y F E m ly (sub i F h3) hE (by omega) (.inl h4) h5 J
  by_cases t:x<(hs (j+1)).next
  ·by_cases hy:y<(hs (j+1)).next
   ·rw[low x t] at p;rw[low y hy] at hE;exact a1.inj x y B E lx ly p hE a8 av R J
   ·exact mixed x y B E lx ly t (by omega) p hE R J
  ·by_cases hy:y<(hs (j+1)).next
   ·exact(mixed y x E B ly lx hy (by omega) hE p J R).symm
   ·rw[high x (by omega)] at p;rw[high y (by omega)] at hE;rw[aa x (by omega)] at R;rw[aa y (by omega)] at J;exact I.zK.inj x y B E lx ly p hE a8 av R J
 ·have bx:=(d.qU (BY j) (Sm ab)).next
  have b0:=(d.qU (i:=j+1) (j:=ops.size) (by omega) (mc _)).next
  refine⟨k7.size,k7.os,k7.out,k7.tape,λb hb hn=>k7.qT b hb λi E l hi ag hl bn=>hn i E l (sub i E hi) ag hl bn,λi B l hi al hl=>?_,λi hi=>k7.sig i (by omega)⟩;by_cases t:i<(hs (j+1)).next
  ·rw[low i t] at hi;rcases k7.own i B l hi al hl with h | ⟨k,E,m,h3,h4,h5,h6⟩
   ·exact .inl h
   ·exact .inr ⟨k,E,m,sub k E h3,h4,h5,h6⟩
  ·rw[high i (by omega)] at hi;rw[aa i (by omega)] at hl;exact .inr ⟨i,B,l,hi,al,hl,rfl⟩
theorem cH.sub{D:Nat->Prop}{j:Nat}{o:Oper}(r:cH ops D j o)(d:di C P cal ops es hs tr)(f:fU o.op=true)(x:Nat)(B:aC)(R:(hs j).get x=some B):G hs D ops.size x=some B:=by have g:=r.lt;have l:cd o.op=false:=by{simp only[fU,ti,Tw] at f;exact f.1.2};have hH:=d.k7 g;have ad:=d.Mi (Sm g) x B R;rw[pB (i:=j) (by omega),tY];{exact R};{intro k hk t;have I:k<ops.size:=by{omega};have U:ops[k]?=some ops[k]:=by{simp[I]};rcases d.pair U r.at_ hk with h | h;{exact r.Qb d h};{cases p:cd ops[k].op with| true=>{exact absurd (by rw[(d.kinds U).1 p]) t}| false=>{exact absurd ⟨f,p⟩ (rq h).1}}};{rintro k h1 h2 ⟨hD,t⟩;by_cases J:k=j;{subst J;exact r.not hD};{obtain⟨_,_,h4⟩:=r.later d l (by omega) h2 hD t (by have:=hH.next;omega);rw[f] at h4;cases h4}}
theorem cH.step{D:Nat->Prop}{j:Nat}{o:Oper}(r:cH ops D j o)(d:di C P cal ops es hs tr){σ0 σ:bG}{w0 w:World}{df:List Deferred}{a:Act}(I:Inv C ops es hs σ0 w0 df D σ a w)
  {Q:Exit->Act->World->Prop} {K:Act->World->Prop} (hK:∀ab a' w',Inv C ops es hs σ0 w0 df (plus D j) ab a' w'->K a' w'):wpOp P ops Q j K a w:=by have p:=r.lt;have q:=(d.step j o r.at_).1;have ba:=(d.qU (BY j) (Sm p)).next;have bn:=(d.qU (i:=j+1) (j:=ops.size) (by omega) (mc _)).next;unfold wpOp;rw[r.at_];simp only;unfold dj at q;split at q;{cases q};{rename_i R;simp only[pr,R7] at q;rw[r.want d I R,mb (by simp)];have hG:=cH.Kt (ops:=ops) (D:=D) q.2.symm;exact hK σ _ w (r.finish d I q.1.symm (gx σ) (bG.le_refl σ) (by rw[hG];exact I.zK) (by rw[hG];exact Ev.refl _ _ _ _ |>.HT (mc _) (by have:=(d.qU (i:=0) (j:=ops.size) (by omega) (mc _)).next;exact this)) (λ_ _ _ _ _ _ _=>rfl))};{rename_i R;rw[r.want d I R,nw rfl];left;have af:=r.MM d I;unfold Oper.wp;split at q;{cases q};{rename_i v h1 ho;simp only[pr,R7] at q;obtain⟨q1,rfl⟩:=q;have g:aQ C (o5 o ((es j).eval C)) (hs j) o.op=some (.val v (hs (j+1))):=by{rw[(mw o _ _).1];exact ho};cases J:cd o.op with| true=>{obtain⟨v2,r1,_⟩:=k4 d.ok J g;simp only[qy.val.injEq] at r1;obtain⟨rfl,r1⟩:=r1;obtain⟨h',bb,ao⟩:=r.Pq d (v:=v) (by rw[<-r1];rw[r1] at ho |-;exact ho);obtain⟨v3,s1,r2⟩:=k4 d.ok J (show aQ C (o5 o ((es j).eval C)) h' o.op=some (.val v h') by rw[(mw o _ _).1];exact bb);simp only[qy.val.injEq] at s1;obtain⟨rfl,_⟩:=s1;obtain⟨v',p1,p2⟩:=r2 a.eval σ _ w I.zK af (λb hb=>ao b (by rw[(mw (C:=C) o ((es j).eval C) (hs j)).2] at hb;exact hb));rw[p1];have hG:=cH.Kt (ops:=ops) (D:=D) r1;exact hK σ _ w (r.finish d I q1.symm p2 (bG.le_refl σ) (by rw[hG];exact I.zK) (by rw[hG];exact Ev.refl _ _ _ _ |>.HT (mc _) (by have:=(d.qU (i:=0) (j:=ops.size) (by omega) (mc _)).next;exact this)) (λ_ _ _ _ _ _ _=>rfl))}| false=>{cases hn:sQ o.op with| true=>{obtain⟨v2,b,bo,r1,r2⟩:=uQ d.ok hn g;simp only[qy.val.injEq] at r1;obtain⟨rfl,r1⟩:=r1;have bc:(hs (j+1)).next=(hs j).next+1:=by{rw[r1];rfl};have a5:=I.fresh j p r.not (hs j).next (mc _) (by omega);obtain⟨l,v',w',p1,p2,p3,p4,p5⟩:=r2 a.eval σ _ w I.zK a5 af;rw[p1];have hG:G hs (plus D j) ops.size=db (G hs D ops.size) (hs j).next (some b):=by{refine r.NY d J (λx hx hc=>?_) (by rw[r1,au.dH,nw rfl]) (by omega) (λhc=>?_);{exact hx ((d.kinds r.at_).2.1 hn x hc)};{exfalso;apply hc;unfold cY;rw[r1,au.dH,nw rfl];cases hq:(hs j).get (hs j).next with| none=>{simp}| some B=>{have:=d.Mi (Sm p) _ B hq;omega}}};refine hK _ _ w' (r.finish d I q1.symm p2 (bG.tX a5) (by rw[hG];exact p3) (by rw[hG];exact p4.HT ba (by omega)) (λk hk _ al i h1 h2=>?_));have:=r.ids d hk al h1 h2;exact dp _ _ (by omega)}| false=>{cases U:ia o.op with| true=>{obtain⟨b,cs,r0,r1,⟨bt,r2⟩,r3⟩:=jl d.ok U g;simp only[qy.val.injEq] at r1;obtain⟨rfl,r1⟩:=r1;have ao:G hs D ops.size b=(hs j).get b:=r.look d (λt x k ok e=>by rw[e] at U;cases U) (by rw[<-(mw (C:=C) o ((es j).eval C) (hs j)).2,r0];simp);obtain⟨w',p1,p2,p3⟩:=r3 a.eval σ _ w (hs 0).next I.zK af ao;rw[p1];have bv:=d.Mi (Sm p) _ _ r2;have bc:(hs (j+1)).next=(hs j).next:=by{rw[r1];rfl};have hG:G hs (plus D j) ops.size=db (G hs D ops.size) b (some (.cells false cs)):=by{refine r.NY d J (λx hx hc=>?_) (by rw[r1,au.dL,nw rfl]) (by omega) (λhc=>?_);{apply hc;rw[r1,au.dL,mb hx]};{rw[ao];unfold cY at hc;rw[r1,au.dL,nw rfl] at hc;exact(Classical.not_not.1 hc).symm}};exact hK σ _ w' (r.finish d I q1.symm (gx σ) (bG.le_refl σ) (by rw[hG];exact p2) (by rw[hG];exact p3.HT (mc _) (by have:=(d.qU (i:=0) (j:=ops.size) (by omega) (mc _)).next;exact this)) (λ_ _ _ _ _ _ _=>rfl))}| false=>{have ac:fU o.op=true:=by{simp[fU,J,hn,U]};have aa:dT σ (hs j).get w:=I.zK.sub λx B hx=>r.sub d ac x B hx;have an:∀i,(hs j).next<=i->i<(hs (j+1)).next->σ i=none:=I.fresh j p r.not;(obtain⟨ab,v',w',hd,p1,p2,p3⟩:=Ak d.ok ac g aa (d.Mi (Sm p)) af an;have hle:=p3.le an;obtain⟨c1,c2⟩:=r.called d ac I p2 p3 hle;have ax:=r.finish d I q1.symm p1 hle c1 c2 (λk hk _ al i h1 h2=>p3.sig i (r.ids d hk al h1 h2));rcases hd with hd | ⟨hd,rfl⟩);{rw[hd];exact hK ab _ w' ax};{rw[hd];exact hK ab _ w' ax}}}}};{rename_i f args ho;split at q;{cases q};{rename_i v h1 be;simp only[pr,R7] at q;obtain⟨q1,rfl⟩:=q;have g:aQ C (o5 o ((es j).eval C)) (hs j) o.op=some (.call f args):=by{rw[(mw o _ _).1];exact ho};have ac:fU o.op=true:=by{cases J:cd o.op with| true=>{obtain⟨_,r1,_⟩:=k4 d.ok J g;cases r1}| false=>{cases hn:sQ o.op with| true=>{obtain⟨_,_,_,r1,_⟩:=uQ d.ok hn g;cases r1}| false=>{cases U:ia o.op with| true=>{obtain⟨_,_,_,r1,_⟩:=jl d.ok U g;cases r1}| false=>{simp[fU,J,hn,U]}}}};have aa:dT σ (hs j).get w:=I.zK.sub λx B hx=>r.sub d ac x B hx;have an:∀i,(hs j).next<=i->i<(hs (j+1)).next->σ i=none:=I.fresh j p r.not;obtain⟨args',r1,r2⟩:=zF d.ok g af aa;rw[r1];simp only[Oper.upon];refine(d.NL.run f args (hs j) v (hs (j+1)) be (d.Mi (Sm p)) σ w args' I.zV aa r2 an).mono ?_;rintro en w' ⟨v',ab,rfl,p1,p2,p3⟩;have hle:=p3.le an;obtain⟨c1,c2⟩:=r.called d ac I p2 p3 hle;exact hK ab _ w' (r.finish d I q1.symm p1 hle c1 c2 (λk hk _ al i h1 h2=>p3.sig i (r.ids d hk al h1 h2)))}}}
def left(listed:Array Bool):Nat->Nat
 | 0=>0
 | k+1=>left listed k+(if listed.getD k false then 0 else 1)
theorem Dv{listed:Array Bool}{i:Nat}(hi:listed.getD i true=false):∀k,left (listed.setIfInBounds i true) k+(if i<k then 1 else 0)=left listed k
 | 0=>by simp[left]
 | k+1=>by{have j:=Dv hi k;have f:i<listed.size:=by{rcases AT i listed.size with h | h;{exact h};{rw[Sl,Array.getElem?_eq_none h] at hi;cases hi}};unfold left;by_cases hk:k=i;{subst hk;have l:(listed.setIfInBounds k true).getD k false=true:=by{simp[Sl,f]};have o:listed.getD k false=false:=by{rw[Sl] at hi |-;simp[f] at hi |-;exact hi};rw[l,o];simp only[SN,Tt,S8,Sp,SD] at j |-;omega};{have l:(listed.setIfInBounds i true).getD k false=listed.getD k false:=getD_set_ne _ (Ne.symm hk);rw[l];generalize (if listed.getD k false=true then 0 else 1)=z;by_cases g:i<k;{rw[nw g] at j;rw[nw (show i<k+1 by omega)];omega};{rw[mb g] at j;rw[mb (show ¬i<k+1 by omega)];omega}}}
theorem Be{listed:Array Bool}:∀{k:Nat},left listed k=0->∀i,i<k->listed.getD i false=true
 | 0,_,i,h=>by omega
 | k+1,h,i,hi=>by{unfold left at h;by_cases f:i=k;{subst f;cases g:listed.getD i false with| true=>{rfl}| false=>{rw[g] at h;simp at h}};{exact Be (Nat.eq_zero_of_add_eq_zero_right h) i (by omega)}}
theorem I0(d:di C P cal ops es hs tr){σ0:bG}{w0:World}{df:List Deferred}{Q:Exit->Act->World->Prop}
  (hQ:∀l a' w',kV l (es ops.size) a'->a'.defers=df->dT l (hs ops.size).get w'->Ev σ0 (hs 0).get (hs 0).next w0 l (hs ops.size).get (hs ops.size).next w'->Q .normal a' w') :
  ∀(fuel:Nat) (listed:Array Bool) (σ:bG) (a:Act) (w:World),listed.size=ops.size->left listed ops.size<=fuel->rG ops.toList (λj=>listed.getD j false=true)->
   Inv C ops es hs σ0 w0 df (λj=>listed.getD j false=true) σ a w->wpAny P .any ops Q fuel listed a w:=by have fin:∀(listed:Array Bool) (σ:bG) (a:Act) (w:World),(∀i,i<ops.size->listed.getD i false=true)->Inv C ops es hs σ0 w0 df (λj=>listed.getD j false=true) σ a w->Q .normal a w:=by{intro listed σ a w f I;have hG:G hs (λj=>listed.getD j false=true) ops.size=(hs ops.size).get:=by{funext x;exact tY λk hk _=>f k hk};have hV:∀t,V ops es (λj=>listed.getD j false=true) ops.size t=(es ops.size).get t:=λt=>Co d (mc _) λk hk _=>f k hk;refine hQ σ a w ⟨by rw[d.ns (mc _)];exact I.size,λt v hv=>I.env t v (by rw[hV];exact hv)⟩ I.defers ?_ ?_;{rw[<-hG];exact I.zK};{rw[<-hG];exact I.ev}};have stuck:∀(listed:Array Bool),listed.size=ops.size->Region.ready .any ops listed=[]->∀i,i<ops.size->listed.getD i false=true:=by{intro listed g hr i;induction i using Nat.strongRecOn with| _ i ih=>{intro hi;cases hq:listed.getD i false with| true=>{rfl}| false=>{have ho:ops[i]?=some ops[i]:=by{simp[hi]};have J:i∈Region.ready .any ops listed:=by{rw[mem_ready];refine⟨?_,ops[i],ho,λx U hb=>?_⟩;{rw[Sl] at hq |-;simp[g,hi] at hq |-;exact hq};{have:=(sV d.v5 i ops[i] (by simp[hi])).1 x (by simpa using U) hb;exact ih x.on (by omega) (by omega)}};rw[hr] at J;cases J}}};intro fuel;induction fuel with| zero=>{intro listed σ a w g hl hc I;have f:=Be (Nat.le_zero.1 hl);refine⟨?_,fin listed σ a w f I⟩;cases hr:Region.ready .any ops listed with| nil=>{rfl}| cons i r=>{exfalso;have hm:i∈Region.ready .any ops listed:=by{rw[hr];simp};rw[mem_ready] at hm;obtain⟨R,o,h2,_⟩:=hm;have hi:i<ops.size:=(Sc.1 h2).1;have:=f i hi;rw[Sl] at R this;simp[g,hi] at R this;rw[R] at this;cases this}}| succ fuel ih=>{intro listed σ a w g hl hc I;refine⟨λhr=>fin listed σ a w (stuck listed g hr) I,λj hj=>?_⟩;rw[mem_ready] at hj;obtain⟨R,o,h2,h3⟩:=hj;have hi:j<ops.size:=(Sc.1 h2).1;have af:¬listed.getD j false=true:=by{rw[Sl] at R |-;simp[g,hi] at R |-;exact R};have r:cH ops (λj=>listed.getD j false=true) j o:=⟨h2,af,λx U hb=>h3 x (by simpa using U) hb,hc⟩;refine r.step d I λl a' w' I'=>?_;have hD:(λk=>(listed.setIfInBounds j true).getD k false=true)=plus (λj=>listed.getD j false=true) j:=by{funext k;by_cases hk:k=j;{subst hk;simp[plus,Sl,g,hi]};{simp only[plus,hk,or_false];rw[getD_set_ne _ (Ne.symm hk)]}};have ap:=Dv R ops.size;rw[nw hi] at ap;refine ih (listed.setIfInBounds j true) l a' w' (by simpa using g) (by omega) ?_ (by rw[hD];exact I');rw[hD];intro k p hk hp x U hb;rcases hk with hk | hk;{exact .inl (hc k p hk hp x U hb)};{subst hk;have:p=o:=by{have ag:ops[k]?=some p:=by{simpa using hp};rw[h2] at ag;exact(mm ag).symm};subst this;exact .inl (h3 x (by simpa using U) hb)}}
theorem JS(ok:C.Ok P)(g:qu C P cal){id:Nat}{draw:Bool}{e R:Env}{h r:au}(q:jv C cal ops.toList draw e h=some (R,r))
  {σ:bG} {a:Act} {w:World} (hw:∀i b,h.get i=some b->i<h.next) (hg:uG C σ) (s:dT σ h.get w) (he:kV σ e a) (hf:∀i,h.next<=i->i<r.next->σ i=none)
  {Q:Exit->Act->World->Prop} (hQ:∀p U w',kV p R U->U.defers=a.defers->dT p r.get w'->Ev σ h.get h.next w p r.get r.next w'->Q .normal U w') :
  (Code.region id ops draw).wp P Q a w:=by unfold jv at q;cases draw with| false=>{simp only[zy] at q;refine wp_region (K1 ok g ops.toList _ e R h r σ a w ?_ q hw hg s he hf hQ);apply Sb;intro i;simp only[zm];by_cases hi:i<ops.size;{rw[SQ hi];simp[hi]};{rw[D2 (by simp;omega),D2 (by simp;omega)];rfl}}| true=>{simp only[xf] at q;split at q;{cases q};{rename_i e1 h1 tr ht;obtain⟨hd,q⟩:=mN q;simp only[ti] at hd;cases q;obtain⟨es,hs,rfl,rfl,rfl,rfl,ac⟩:=tq ops.toList _ _ _ _ _ ht;simp only[T7] at *;have d:di C P cal ops es hs tr:=⟨ok,g,λj o ho=>ac j o (by simpa using ho),hw,hd.1,hd.2⟩;refine wp_region_any ok.mixed ?_;have f:∀j,(Array.replicate ops.size false).getD j false=false:=by{intro j;rw[Sl];by_cases I:j<ops.size;{simp[I]};{simp[I]}};have ad:(λj=>(Array.replicate ops.size false).getD j false=true)=λ_=>False:=by{funext j;rw[f];simp};have J:G hs (λ_=>False) ops.size=(hs 0).get:=by{funext x;rw[pB (i:=0) (BY _) (λk _ _ hh=>hh.1)];rfl};have af:∀t,V ops es (λ_=>False) ops.size t=(es 0).get t:=λt=>by{rw[wD (i:=0) (BY _) (λk _ _ hh=>hh.1)];rfl};refine I0 d (σ0:=σ) (w0:=w) (df:=a.defers) hQ ops.size _ σ a _ (by simp) ?_ ?_ ?_;{have:∀k,left (Array.replicate ops.size false) k=k:=by{intro k;induction k with| zero=>{rfl}| succ k ih=>{unfold left;rw[ih,f];simp}};rw[this];exact mc _};{intro j o I;rw[f] at I;cases I};{rw[ad];refine⟨hg,?_,he.size,λt v hv=>he.rel t v (by rw[<-af t];exact hv),λk hk _ i h1 h2=>?_,?_,rfl⟩;{rw[J];exact⟨λi b hb=>let ⟨l,x,y⟩:=s.cf i b hb;⟨l,x,y.world rfl⟩,s.inj⟩};{have a0:=(d.qU (BY k) (Sm hk)).next;have a1:=(d.qU (i:=k+1) (j:=ops.size) (by omega) (mc _)).next;exact hf i (by omega) (by omega)};{rw[J];refine⟨mc _,rfl,rfl,rfl,λ_ _ _=>rfl,λi B l hB hr hl=>.inr ⟨i,B,l,hB,hr,hl,rfl⟩,λ_ _=>rfl⟩}}}}
end
end Go.Abs
/-
 Soundness,part twenty-two: code and calls. What the abstract machine computes,the model does.
-/
namespace Go.Abs
open Go
section
variable {C:Ctx}{P:Program}
def Ex.to:Ex->Exit
 | .normal=>.normal
 | .exit id=>.exit id
 | .ret=>.ret
def iR(σ:bG)(h:au)(w:World)(df:List Deferred)(x:Ex)(l:Env)(g:au):Exit->Act->World->Prop:=λex i j=>
 ex=x.to/\i.defers=df/\∃f,kV f l i/\dT f g.get j/\Ev σ h.get h.next w f g.get g.next j
structure Mm(C:Ctx)(σ:bG)(h h':au)(w:World)(e:Env)(a:Act):Prop where
 wf:∀i b,h.get i=some b->i<h.next
 zV:uG C σ
 zK:dT σ h.get w
 env:kV σ e a
 fresh:∀i,h.next<=i->i<h'.next->σ i=none
def ot(P:Program)(c:Code)(Q:Exit->Act->World->Prop)(a:Act)(w:World):Prop:=
 ∀(b:Frame) (k:List Item) (cs:List Frame),∃e f g,Q e f g/\Arrives P (lone (b.at a (.code c::.inLoop c::k)) cs w) b k cs e f g
theorem yN{c:Code}{Q:Exit->Act->World->Prop}{a:Act}{w:World}(h:ot P c Q a w):(Code.loop c).wp P Q a w:=
 λb k cs=>let ⟨e,f,g,q,r⟩:=h b k cs;⟨e,f,g,q,.of_steps (.one step_loop) r⟩
theorem Eu{c:Code}{Q:Exit->Act->World->Prop}{a:Act}{w:World}(h:c.wp P (Exit.then (ot P c Q) Q) a w):ot P c Q a w:=by intro b k cs;obtain⟨e,g,i,p,f⟩:=h b (.inLoop c::k) cs;cases e with| normal=>{obtain⟨r,t,I,o,j⟩:=p b k cs;exact⟨r,t,I,o,.of_steps (Steps.trans f (.one step_inLoop)) j⟩}| exit id=>{exact⟨_,g,i,p,.pass (x:=.inLoop c) rfl (λ_ _=>.inl (by simp)) f⟩}| goto l=>{exact⟨_,g,i,p,.pass (x:=.inLoop c) rfl (λ_ _=>.inl (by simp)) f⟩}| ret=>{exact⟨_,g,i,p,.pass (x:=.inLoop c) rfl (λ_ _=>.inl (by simp)) f⟩}| panic J=>{exact⟨_,g,i,p,.pass (x:=.inLoop c) rfl (λ_ _=>.inl (by simp)) f⟩}| outgrown=>{exact⟨_,g,i,p,.pass (x:=.inLoop c) rfl (λ_ _=>.inl (by simp)) f⟩}
theorem Dw{c:Code}{Q f:Exit->Act->World->Prop}{a:Act}{w:World}(h:ot P c Q a w)(g:∀e a w,Q e a w->f e a w):ot P c f a w:=
 λb k cs=>let ⟨e,i,j,q,r⟩:=h b k cs;⟨e,i,j,g _ _ _ q,r⟩
structure HL(C:Ctx)(P:Program)(exe:Jo):Prop where
 k7:∀c e h x e' h',exe c e h=some (x,e',h')->gY h h'
 run:∀c e h x e' h',exe c e h=some (x,e',h')->∀σ w a,Mm C σ h h' w e a->c.wp P (iR σ h w a.defers x e' h') a w
 loop:∀c e h x e' h',exe (.loop c) e h=some (x,e',h')->∀σ w a,Mm C σ h h' w e a->ot P c (iR σ h w a.defers x e' h') a w
theorem uA:∀(vs:List Value) (i:Nat) (t:T Value) (j:Nat),(nH.go vs i t).get j=if i<=j/\j<i+vs.length then vs[j-i]? else t.get j
 | [],i,t,j=>by{simp only[nH.go,UF];rw[mb (by omega)]}
 | v::vs,i,t,j=>by{rw[nH.go,uA vs (i+1) _ j,T.lz];simp only[If];by_cases f:i+1<=j/\j<i+1+vs.length;{rw[nw f,nw (by omega)];obtain⟨m,hm⟩:∃m,j-i=m+1:=⟨j-i-1,by omega⟩;rw[hm,S4];congr 1;omega};{rw[mb f];by_cases g:j=i;{subst g;rw[nw rfl,nw (by omega)];simp};{rw[mb g,mb (by omega)]}}}
theorem Kl{σ:bG}{args args':List Value}(n:Nat)(h:aZ σ args args') :
  kV σ (nH n args) { tmps:=⟨args'⟩++Array.replicate (n-(⟨args'⟩:Array Value).size) undef,defers:=[] }:=by have o:=h.length;refine⟨?_,λi v f=>?_⟩;{simp[nH];omega};{have f:(nH.go args 0 .e).get i=some v:=f;rw[uA] at f;split at f;{rename_i hi;simp only[Nat.sub_zero] at f;obtain⟨v',j,l⟩:=h.get i v f;refine⟨v',?_,l⟩;have g:i<args'.length:=by{omega};rw[Array.getElem?_append_left (by simpa using g)];simpa using j};{cases f}}
def y9(a:Act):ResultVar->Sem Value
 | .tmp t=>pure (a.tmps.getD t undef)
 | .cell b t=>do loadVar t (<-asAddr (a.tmps.getD b undef))
theorem JT(ok:C.Ok P){σ:bG}{e:Env}{a:Act}{h:au}{w:World}(he:kV σ e a)(s:dT σ h.get w){r:ResultVar}{v:Value}(q:lC C e h r=some v) :
  ∃v',(y9 a r).run P w=.ok v' w/\aV σ v v':=by cases r with| tmp t=>{obtain⟨v',g,f⟩:=he.rel t v q;exact⟨v',by simp[y9,Sl,g],f⟩}| cell b t=>{simp only[lC] at q;split at q;{rename_i p i;obtain⟨I,g,f⟩:=he.rel b p i;obtain⟨v',j,o⟩:=CH ok s f q (λ_ _=>rfl);refine⟨v',?_,o⟩;unfold jU at q;split at q;{obtain⟨l,_,_,rfl⟩:=f;simp only[y9,Sem.run_bind,Sl,g,Option.getD_some,asAddr,Sem.run_pure,Result.andThen_ok];simpa [Instr.loadAt,Instr.sureAddr] using j};{cases q}};{cases q}}
theorem yx(ok:C.Ok P){σ:bG}{e:Env}{a:Act}{h:au}{w:World}(he:kV σ e a)(s:dT σ h.get w):∀(rs:List ResultVar) (vs:List Value),fQ C e h rs=some vs->
  ∃f,(rs.mapM (y9 a)).run P w=.ok f w/\aZ σ vs f
 | [],vs,q=>by cases q;exact⟨[],by simp,rfl⟩
 | r::rs,vs,q=>by{unfold fQ at q;split at q;{rename_i v g i j;cases q;obtain⟨v',r1,r2⟩:=JT ok he s i;obtain⟨f,r3,l⟩:=yx ok he s rs g j;refine⟨v'::f,?_,⟨v',f,rfl,r2,l⟩⟩;rw[List.mapM_cons];simp only[Sem.run_bind,r1,Result.andThen_ok,r3,Sem.run_pure]};{cases q}}
theorem El(ok:C.Ok P){σ:bG}{e:Env}{a:Act}{h:au}{w:World}(he:kV σ e a)(s:dT σ h.get w){fn:Func}{vs:List Value}(q:fQ C e h fn.results.toList=some vs) :
  ∃v',(results fn a.tmps).run P w=.ok v' w/\aV σ (fg vs) v':=by obtain⟨g,j,i⟩:=yx ok he s _ vs q;have hm:(results fn a.tmps).run P w=.ok (if h:(⟨g⟩:Array Value).size=1 then (⟨g⟩:Array Value)[0] else .tuple ⟨g⟩) w:=by{unfold results;rw[Array.mapM_eq_mapM_toList,Sem.run_bind,Sem.run_map];have:∀(f:ResultVar->Sem Value),(∀r,f r=y9 a r)->(List.mapM f fn.results.toList).run P w=.ok g w:=by{intro f l;rw[show f=_ from funext l];exact j};rw[this _ (λr=>by cases r<;>rfl)];rfl};have o:=i.length;refine⟨_,hm,?_⟩;match vs,g,i,o with| [],[],_,_=>{exact⟨[],rfl,rfl⟩}| [v],[v'],i,_=>{obtain⟨J,b',p,t,R⟩:=i;cases p;exact t}| v::u::vs,v'::I::g,i,_=>{have:¬((⟨v'::I::g⟩:Array Value).size=1):=by{simp};rw[dif_neg this];exact⟨_,rfl,i⟩}
def lf(C:Ctx)(P:Program):Prop:=∀f eN,C.fact f=some eN->∀(σ:bG) (g:Nat->Option aC) (n:Nat) (w:World),(∀p∈eN,g p.1=some p.2)->uG C σ->dT σ g w->
 Calls P f #[] w λj i=>j=.returned (.bool true)/\dT σ g i/\Ev σ g n w σ g n i
theorem HA(ok:C.Ok P)(t:lf C P){j:Jo}(hx:HL C P j):qu C P (eC C j):=by constructor;{intro f args h v I q;unfold eC at q;split at q;{rename_i eN _;cases g:(args.isEmpty&&eN.all (λp=>kL (h.get p.1) (some p.2))) with| false=>{rw[g] at q;cases q}| true=>{rw[g] at q;cases q;exact gY.refl _}};split at q;{cases q};{split at q;{cases q};{split at q;{cases q};{rename_i x e J _ i;split at q;{cases q;exact hx.k7 _ _ _ _ _ _ i};{cases q}};{cases q}}}};{intro f args h v I q hw σ w args' hg s hr hf;unfold eC at q;split at q;{rename_i eN R;cases g:(args.isEmpty&&eN.all (λp=>kL (h.get p.1) (some p.2))) with| false=>{rw[g] at q;cases q}| true=>{rw[g] at q;cases q;simp only[ti,List.isEmpty_iff] at g;obtain⟨rfl,g⟩:=g;cases hr;refine(t f eN R σ h.get h.next w (λp hp=>sv (SK.1 g p hp)) hg s).mono ?_;rintro en w' ⟨rfl,J,h2⟩;exact⟨_,σ,rfl,rfl,J,h2⟩}};split at q;{cases q};{rename_i fn U;split at q;{cases q};{rename_i c g;split at q;{cases q};{rename_i x e1 J aa i;split at q;{rename_i vs ab;cases q;refine calls_of_wp (ok.func f fn U) g ?_;have l:=Kl fn.ntmps hr;have o:Mm C σ h I w (nH fn.ntmps args) _:=⟨hw,hg,s,l,hf⟩;refine wp_mono (hx.run c _ h x e1 I i σ w _ o) ?_;rintro ex a' w' ⟨rfl,hd,r,r1,r2,r3⟩;obtain⟨v',p1,p2⟩:=El ok r1 r2 ab;cases x with| normal=>{exact⟨hd,v',p1,v',r,rfl,p2,r2,r3⟩}| ret=>{exact⟨hd,v',p1,v',r,rfl,p2,r2,r3⟩}| exit id=>{exact absurd rfl (aa id)}};{cases q}};{cases q}}}}
theorem iR.then{σ f:bG}{h g l:au}{w p:World}{df:List Deferred}(r3:Ev σ h.get h.next w f g.get g.next p)(i:gY h g)(j:gY g l){x:Ex}{r:Env}{ex:Exit}{t:Act}{I:World}
  (J:iR f g p df x r l ex t I):iR σ h w df x r l ex t I:=by obtain⟨R,U,o,p3,p4,p5⟩:=J;exact⟨R,U,o,p3,p4,r3.trans p5 i.next j.next⟩
theorem Mm.next{σ f:bG}{h j r:au}{w t:World}{e J:Env}{a R:Act}(o:Mm C σ h r w e a)(g:gY h j)(l:gY j r)(r1:kV f J R)(r2:dT f j.get t)
  (r3:Ev σ h.get h.next w f j.get j.next t):Mm C f j r t J R where
 wf:=g.wf o.wf
 zV:=o.zV.mono (r3.le λi p I=>o.fresh i p (Sk I l.next))
 zK:=r2
 env:=r1
 fresh:=λi p I=>by
  rw[r3.sig i (.inr p)];exact o.fresh i (LN g.next p) I
theorem Mm.first{σ:bG}{h j l:au}{w:World}{e:Env}{a:Act}(f:Mm C σ h l w e a)(g:gY j l):Mm C σ h j w e a:=
 ⟨f.wf,f.zV,f.zK,f.env,λi o p=>f.fresh i o (Sk p g.next)⟩
theorem IL(ok:C.Ok P){cal:rJ}(f:qu C P cal){all:List Oper}:∀(rest:List Oper) (e i:Env) (h g:au) (tr:List qt),fz C cal all rest e h=some (i,g,tr)->gY h g:=by intro rest;induction rest with| nil=>{intro e i h g tr q;cases q;exact gY.refl _}| cons o rest p=>{intro e i h g tr q;unfold fz at q;split at q;{cases q};{rename_i t I j;split at q;{cases q};{rename_i J R l r;cases q;exact(sZ ok f j).trans (p _ _ _ _ _ r)}}}
theorem Gf(ok:C.Ok P){cal:rJ}(f:qu C P cal){ops:List Oper}{draw:Bool}{e i:Env}{h g:au}(q:jv C cal ops draw e h=some (i,g)):gY h g:=by unfold jv at q;cases draw with| false=>{exact Cs ok f _ _ _ _ _ q}| true=>{simp only[xf] at q;split at q;{cases q};{rename_i j;obtain⟨_,q⟩:=mN q;cases q;exact IL ok f _ _ _ _ _ _ j}}
theorem Nx(ok:C.Ok P)(ap:lf C P){U:Jo}(g:HL C P U):HL C P (aU C U):=by have ad:=HA ok ap g;have k7:∀c e h x e' r,aU C U c e h=some (x,e',r)->gY h r:=by{intro c e h x e' r q;unfold aU at q;split at q;{cases q;exact gY.refl _};{split at q;{rename_i hr;cases q;exact Gf ok ad hr};{cases q}};{split at q;{rename_i R;exact(g.k7 _ _ _ _ _ _ R).trans (g.k7 _ _ _ _ _ _ q)};{exact g.k7 _ _ _ _ _ _ q}};{split at q;{exact g.k7 _ _ _ _ _ _ q};{exact g.k7 _ _ _ _ _ _ q};{cases q}};{split at q;{rename_i R;cases q;exact g.k7 _ _ _ _ _ _ R};{exact g.k7 _ _ _ _ _ _ q}};{split at q;{rename_i R;exact(g.k7 _ _ _ _ _ _ R).trans (g.k7 _ _ _ _ _ _ q)};{exact g.k7 _ _ _ _ _ _ q}};{cases q;exact gY.refl _};{cases q;exact gY.refl _};{cases q}};have t:∀c e h x e' r,aU C U (.loop c) e h=some (x,e',r)->∀σ w a,Mm C σ h r w e a->ot P c (iR σ h w a.defers x e' r) a w:=by{intro c e h x e' r q σ w a j;simp only[aU] at q;refine Eu ?_;split at q;{rename_i e1 R q1;have o:=g.k7 _ _ _ _ _ _ q1;have l:=g.k7 _ _ _ _ _ _ q;refine wp_mono (g.run _ _ _ _ _ _ q1 σ w a (j.first l)) ?_;rintro ex a1 w1 ⟨rfl,p,f,r1,r2,r3⟩;show ot P c _ a1 w1;have af:=j.next o l r1 r2 r3;have:=g.loop c e1 R x e' r q f w1 a1 af;exact Dw this λex a' w' I=>iR.then r3 o l (by rw[p] at I;exact I)};{rename_i J;refine wp_mono (g.run _ _ _ _ _ _ q σ w a j) ?_;rintro ex a1 w1 ag;obtain⟨rfl,p,f,r1,r2,r3⟩:=ag;cases x with| normal=>{exact absurd q (λI=>J _ _ I)}| exit id=>{exact⟨rfl,p,f,r1,r2,r3⟩}| ret=>{exact⟨rfl,p,f,r1,r2,r3⟩}}};refine⟨k7,λc e h x e' r q σ w a j=>?_,t⟩;cases c with| skip=>{cases q;exact wp_skip ⟨rfl,rfl,σ,j.env,j.zK,Ev.refl _ _ _ _⟩}| region id ops draw=>{simp only[aU] at q;split at q;{rename_i e1 R hr;cases q;refine JS ok ad hr j.wf j.zV j.zK j.env j.fresh λav a' w' r1 r2 r3 r4=>⟨rfl,r2,av,r1,r3,r4⟩};{cases q}}| seq x1 y1=>{simp only[aU] at q;refine wp_seq ?_;split at q;{rename_i e1 R q1;have o:=g.k7 _ _ _ _ _ _ q1;have l:=g.k7 _ _ _ _ _ _ q;refine wp_mono (g.run _ _ _ _ _ _ q1 σ w a (j.first l)) ?_;rintro ex a1 w1 ⟨rfl,p,f,r1,r2,r3⟩;show y1.wp P _ a1 w1;have af:=j.next o l r1 r2 r3;refine wp_mono (g.run _ _ _ _ _ _ q f w1 a1 af) λex a' w' I=>iR.then r3 o l (by rw[p] at I;exact I)};{rename_i J;refine wp_mono (g.run _ _ _ _ _ _ q σ w a j) ?_;rintro ex a1 w1 ⟨rfl,p,f,r1,r2,r3⟩;cases x with| normal=>{exact absurd q (λI=>J _ _ I)}| exit id=>{exact⟨rfl,p,f,r1,r2,r3⟩}| ret=>{exact⟨rfl,p,f,r1,r2,r3⟩}}}| cond cc x1 y1=>{simp only[aU] at q;have al:=j.env.MM j.zV;split at q;{rename_i hc;have:a.eval cc=.bool true:=al cc _ hc;exact wp_cond_true this (g.run _ _ _ _ _ _ q σ w a j)};{rename_i hc;have:a.eval cc=.bool false:=al cc _ hc;exact wp_cond_false this (g.run _ _ _ _ _ _ q σ w a j)};{cases q}}| block id b=>{simp only[aU] at q;refine wp_block ?_;split at q;{rename_i i e1 R q1;cases q;refine wp_mono (g.run _ _ _ _ _ _ q1 σ w a j) ?_;rintro ex a1 w1 ⟨rfl,p,f,r1,r2,r3⟩;simp only[Ex.to,Exit.inBlock];cases hi:(i==id) with| true=>{have:i=id:=by{simpa using hi};rw[nw this];exact⟨rfl,p,f,r1,r2,r3⟩}| false=>{have:¬i=id:=by{simpa using hi};rw[mb this];exact⟨rfl,p,f,r1,r2,r3⟩}};{rename_i J;refine wp_mono (g.run _ _ _ _ _ _ q σ w a j) ?_;rintro ex a1 w1 ⟨rfl,p,f,r1,r2,r3⟩;cases x with| normal=>{exact⟨rfl,p,f,r1,r2,r3⟩}| exit i=>{exact absurd q (λI=>J _ _ _ I)}| ret=>{exact⟨rfl,p,f,r1,r2,r3⟩}}}| loop b=>{exact yN (t b e h x e' r q σ w a j)}| exit id=>{cases q;exact wp_exit ⟨rfl,rfl,σ,j.env,j.zK,Ev.refl _ _ _ _⟩}| ret=>{cases q;exact wp_ret ⟨rfl,rfl,σ,j.env,j.zK,Ev.refl _ _ _ _⟩}| _=>{cases q}
theorem HI(ok:C.Ok P)(f:lf C P):∀n,HL C P (exec C n)
 | 0=>⟨λ_ _ _ _ _ _ q=>(by cases q),λ_ _ _ _ _ _ q=>(by cases q),λ_ _ _ _ _ _ q=>(by cases q)⟩
 | n+1=>Nx ok f (HI ok f n)
theorem DY(ok:C.Ok P)(f:lf C P)(n:Nat):qu C P (call C n):=HA ok f (HI ok f n)
end
end Go.Abs
/-
 Soundness,last part: a program's context,its own small checks,and the runs from arguments alone.
-/
namespace Go.Abs
open Go Go.RowKit
def qo(P:Program)(mask cM:Nat):Ctx:={ info:=P.info?,func:=λi=>P.funcs[i]?,cM:=cM,flat:=λt=>mask.testBit t }
def Np (P:Program):Bool:=P.funcs.toList.all λfn=>!(fn.name == "runtime.NumGoroutine")
def Me:Option TypeDesc->Bool
 | some (.struct g)=>g.toList.all λf=>!(f.name == "_")
 | _=>true
def Ko(P:Program)(mask:Nat):Bool:=Nat.blt mask (2 ^ P.types.size) &&
 (List.range P.types.size).all λt=>!(mask.testBit t)||(!(P.stoodInHeld t)&&!(P.eqGuardType P.depth t)&&Me ((qo P mask 0).g9 t))
theorem KQ{P:Program}{mask cM:Nat}(r:Np P=true)(l:Ko P mask=true)(C:P.follows .mixedOrders=true):(qo P mask cM).Ok P:=by constructor;{intro t i q;exact q};{intro f fn q;exact q};{intro f fn q I args w;have q:P.funcs[f]?=some fn:=q;have J:(fn.name == "runtime.NumGoroutine")=false:=by{have hm:fn∈P.funcs.toList:=by{rw[Tg];exact Array.mem_of_getElem? q};have:=SK.1 r fn hm;simpa using this};obtain⟨c,R⟩:=Option.isSome_iff_exists.1 I;have e:(fn.name = "runtime.NumGoroutine")=False:=by{simpa using J};simp[callFunc,q,e,R]};{intro t q;simp only[Ko,ti] at l;obtain⟨l,U⟩:=l;have q:mask.testBit t=true:=q;have o:t<P.types.size:=by{rcases AT t P.types.size with h | h;{exact h};{have h5:mask<2 ^ P.types.size:=by{simpa [Nat.blt_eq] using l};have:mask<2 ^ t:=Sk h5 (R4 (by decide) h);rw[Tl this] at q;cases q}};have j:=SK.1 U t (Sr.2 o);rw[q] at j;simp only[Ti,Bool.false_or,ti,Tw] at j;refine⟨j.1.1,j.1.2,λfs g f hf=>?_⟩;have p:=j.2;have g:(qo P mask 0).g9 t=some (.struct fs):=g;rw[g] at p;have:=SK.1 p f hf;simpa using this};{exact C}
def Gh(C:Ctx)(n f:Nat)(args:List Value)(h:au):Bool:=match call C n f args h with
 | some (.bool true,_)=>true
 | _=>false
theorem Ev.below{σ f:bG}{g r:Nat->Option aC}{n t:Nat}{w o:World}(h:Ev σ g n w f r t o)(j:∀i b,g i=some b->b.ro=true):Below w.heap.size w o where
 os:=h.os
 tape:=h.tape
 output:=h.out
 size:=h.size
 block:=λk hk=>h.qT k hk (λi B l C p=>by rw[j i B C] at p;cases p)
section
open Go.ChangeShapes Go.WideShapes
variable {H:Type}{enc:TypeId×Value->H}{P:Program}
theorem zZ{f:Func}{s:ChangeSpec}{apart fresh handsOn again:Bool}{W J:World}{args:Array Value}{v:Value}{R gs:List (DataW H)}{before pa pv:List MemPlace}
  (U:DataW.Whole enc P f.params.toList s.vars apart W args.toList R gs before)
  (C:∀(b:Nat) (I:Nat->Bool) (hd:Bool),DataW.TrodAll enc P J b I hd f.resultTypes.toList (v.resultList f.resultTypes.size) (s.fn H (R++gs)).results [])
  (i:∀I:Nat->Bool,(∀p∈before,I p.block=true)->DataW.TrodAll enc P J 0 I true f.params.toList args.toList (s.fn H (R++gs)).args pa)
  (l:∀I:Nat->Bool,(∀p∈before,I p.block=true)->DataW.TrodVars enc P J I s.vars (s.fn H (R++gs)).vars pv)
  (o:before=pa++pv) (hk:Below W.heap.size W J)
  (aa:∀(j:Nat) (t:TypeId) (r:Value),f.resultTypes[j]?=some t->(v.resultList f.resultTypes.size)[j]?=some r->Value.okWide P J .any 0 t r) :
  s.post enc P f apart fresh handsOn again W args v J:=by have hold:∀p∈before,(λb=>decide (b<W.heap.size)) p.block=true:=λp g=>by{simpa using U.lt p g};have ab:=λp g=>U.lt p g;refine⟨R,gs,before,[],pa,pv,U,C _ _ _,i _ hold,l _ hold,World.keptBut_mono (λp g=>⟨g,?_⟩) (hk.frame (·∈before)),λ_=>?_⟩;{rw[o,AI] at g;exact Or.inr g};{obtain⟨_,_,_,_,_,hz,hn⟩:=U;refine⟨aa,_,_,([]++pa)++pv,⟨[]++pa,pv,trodAll_append (i _ (λ_ _=>rfl)) (C _ _ _),l _ (λ_ _=>rfl),rfl,?_,?_⟩,?_⟩;{intro b off g;have g:MemPlace.cell b off∈before:=by{rw[o];simpa using g};rw[hk.frozen (ab _ g)];exact hz b off g};{intro ha;have:=hn ha;rw[o] at this;simpa using this};{intro p g _;rw[o];simpa using g}}
end
def BV:List (Nat×List (Nat×aC))->Nat->Option (List (Nat×aC))
 | [],_=>none
 | (f,eN)::l,g=>bif Nat.beq f g then some eN else BV l g
def OU(P:Program)(mask cM:Nat)(facts:List (Nat×List (Nat×aC))):Ctx:={ qo P mask cM with fact:=BV facts }
theorem Ni{P:Program}{mask cM:Nat}{facts:List (Nat×List (Nat×aC))}(h:(qo P mask cM).Ok P):(OU P mask cM facts).Ok P:=⟨h.info,h.func,h.call,h.flat,h.mixed⟩
def iA:List (Nat×aC)->T aC
 | []=>.e
 | p::l=>(iA l).set p.1 (some p.2)
theorem j8:∀(l:List (Nat×aC)) (i:Nat) (b:aC),(iA l).get i=some b->(i,b)∈l
 | [],i,b,h=>by simp[iA,T.get] at h
 | p::l,i,b,h=>by{simp only[iA] at h;rw[T.lz] at h;split at h;{rename_i e;cases h;subst e;exact R2 ..};{exact ma _ (j8 l i b h)}}
def vi:Value->Bool
 | .int _ _=>true
 | .bool _=>true
 | _=>false
def qf:aC->Bool
 | .cells ro cs=>ro&&cs.all vi
 | .map _=>false
theorem JH{σ τ:bG}:∀{v v':Value},vi v=true->aV σ v v'->aV τ v v'
 | .int _ _,_,_,r=>r
 | .bool _,_,_,r=>r
 | .float ..,_,h,_=>by cases h
 | .complex ..,_,h,_=>by cases h
 | .string ..,_,h,_=>by cases h
 | .pointer ..,_,h,_=>by cases h
 | .slice ..,_,h,_=>by cases h
 | .map ..,_,h,_=>by cases h
 | .chan ..,_,h,_=>by cases h
 | .func ..,_,h,_=>by cases h
 | .nilFunc,_,h,_=>by cases h
 | .iface ..,_,h,_=>by cases h
 | .nilIface,_,h,_=>by cases h
 | .agg ..,_,h,_=>by cases h
 | .tuple ..,_,h,_=>by cases h
theorem xl{σ τ:bG}:∀{vs l:List Value},vs.all vi=true->aZ σ vs l->aZ τ vs l
 | [],_,_,r=>r
 | v::vs,_,h,⟨a,b,e,r,s⟩=>by{simp only[List.all_cons,ti] at h;exact⟨a,b,e,JH h.1 r,xl h.2 s⟩}
theorem I3{σ τ:bG}{w:World}{l:Loc}:∀{b:aC},qf b=true->nU σ w l b->nU τ w l b
 | .cells ro cs,h,⟨a,t,f,g,i,j,o,r⟩=>by{simp only[qf,ti] at h;exact⟨a,t,f,g,i,j,o,xl h.2 r⟩}
 | .map _,h,_=>by cases h
theorem mL:∀{b:aC},qf b=true->b.ro=true
 | .cells ro cs,h=>by simp only[qf,ti] at h;exact h.1
 | .map _,h=>by cases h
theorem nU.lt_size{σ:bG}{w:World}{l:Loc}:∀{b:aC},nU σ w l b->l.cf<w.heap.size
 | .cells _ _,⟨_,_,_,q,_⟩=>(Sc.1 q).1
 | .map _,⟨_,q,_⟩=>(Sc.1 q).1
def pA(C:Ctx)(n f:Nat)(eN:List (Nat×aC)):Bool:=eN.all (λp=>Nat.blt p.1 C.cM&&qf p.2)&&Gh C n f [] ⟨C.cM,iA eN⟩
theorem NC{P:Program}{C:Ctx}(ok:C.Ok P)(ap:C.fact=λ_=>none){n f:Nat}{eN:List (Nat×aC)}(ab:pA C n f eN=true)(σ:bG)(g:Nat->Option aC)(m:Nat)(w:World)(ac:∀p∈eN,g p.1=some p.2)(ad:uG C σ)(I:dT σ g w) :
  Calls P f #[] w λen w'=>en=.returned (.bool true)/\dT σ g w'/\Ev σ g m w σ g m w':=by simp only[pA,ti] at ab;obtain⟨af,q⟩:=ab;unfold Gh at q;split at q;{rename_i h' hc;have ag:∀i b,(⟨C.cM,iA eN⟩:au).get i=some b->(i,b)∈eN:=λi b r=>j8 eN i b r;have o:∀i b,(⟨C.cM,iA eN⟩:au).get i=some b->i<C.cM/\qf b=true/\g i=some b:=λi b r=>by{have J:=ag i b r;have t:=SK.1 af _ J;simp only[ti,Nat.blt_eq] at t;exact⟨t.1,t.2,ac _ J⟩};let σ0:bG:=λi=>if i<C.cM then σ i else none;have al:∀i,i<C.cM->σ0 i=σ i:=λi hi=>nw hi;have aa:uG C σ0:=λi hi=>by{obtain⟨l,J,t⟩:=ad i hi;exact⟨l,by rw[al i hi];exact J,t⟩};have ae:dT σ0 (⟨C.cM,iA eN⟩:au).get w:=by{constructor;{intro i b r;obtain⟨J,t,h3⟩:=o i b r;obtain⟨l,h4,h5⟩:=I.cf i b h3;exact⟨l,by rw[al i J];exact h4,I3 t h5⟩};{intro i j b c li lj r av a3 R hi hj;obtain⟨J,t,h3⟩:=o i b r;obtain⟨h4,h5,h6⟩:=o j c av;rw[mL t,mL h5] at R;simp at R}};refine((DY ok (λf eN hf=>(by rw[ap] at hf;cases hf)) n).run f [] _ _ _ hc (λi b r=>(o i b r).1) σ0 w [] aa ae rfl (λi hi _=>mb (by simp only at hi;omega))).mono ?_;rintro e w' ⟨v',a4,rfl,hv,hs,k7⟩;have hv:v'=.bool true:=hv;subst hv;have U:∀b,b<w.heap.size->w'.heap[b]?=w.heap[b]?:=λb r=>k7.qT b r λi B l hi R hs=>by{rw[mL (o i B hi).2.1] at R;cases R};refine⟨rfl,⟨λi b r=>?_,I.inj⟩,⟨k7.size,k7.os,k7.out,k7.tape,λb r _=>U b r,λi B l J t h3=>.inr ⟨i,B,l,J,t,h3,rfl⟩,λ_ _=>rfl⟩⟩;obtain⟨l,J,t⟩:=I.cf i b r;exact⟨l,J,t.world (U _ t.lt_size)⟩};{cases q}
theorem MB{P:Program}{mask cM:Nat}{facts:List (Nat×List (Nat×aC))}(ok:(qo P mask cM).Ok P){n:Nat}(h:∀p∈facts,pA (qo P mask cM) n p.1 p.2=true):lf (OU P mask cM facts) P:=by intro f eN I σ g m w i j o;have r:∀l:List (Nat×List (Nat×aC)),BV l f=some eN->(f,eN)∈l:=by{intro l;induction l with| nil=>{intro h;cases h}| cons p l J=>{intro h;simp only[BV] at h;cases t:Nat.beq p.1 f with| true=>{rw[t] at h;have:=R6 t;cases h;rw[<-this];exact R2 ..}| false=>{rw[t] at h;exact ma _ (J h)}}};exact NC (C:=qo P mask cM) ok rfl (h _ (r _ I)) σ g m w i j o
end Go.Abs