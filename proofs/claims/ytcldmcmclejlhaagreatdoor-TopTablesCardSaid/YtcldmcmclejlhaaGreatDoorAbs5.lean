/-
  The abstract machine is sound, last part: open orders, code, calls, closed runs, facts.
-/
import Derived.Test.YtcldmcmclejlhaaGreatDoorAbs4
import Derived.Below
import Derived.ChangeSame
/-
 Soundness,twentieth part: each kind of operation in a region whose order is open.
-/
namespace Go.Abs
open Go
section
variable {C:Ctx}{P:Program}
variable {cal:oM}{hp:MQ}{ops:Array Oper}{es:Nat->Env}{hs:Nat->au}{tr:List su}
open Classical in
noncomputable def qk(o:Oper)(ρ:Operand->Option Value):Operand->Option Value:=λx=>if x∈o.op.operands then ρ x else none
theorem mY(o:Oper)(ρ:Operand->Option Value)(h:au):aW C (qk o ρ) h o.op=aW C ρ h o.op/\bJ (qk o ρ) o.op=bJ ρ o.op:=
 JN λx g=>by simp[qk,g]
theorem D0{l:List Oper}{o:Oper}{t:Tmp}(h:Operand.tmp t∈o.op.operands):t∈tmpsOf l o:=by
 unfold tmpsOf;refine D1.2 (.inl (Vp.2 ⟨.tmp t,Uy.2 h,rfl⟩))
theorem cT.JA{D:Nat->Prop}{j:Nat}{o:Oper}(r:cT ops D j o)(d:dj C P cal hp ops es hs tr){σ0 σ:bD}{w0 w:World}{df:List Deferred}{a:Act}(I:Inv C ops es hs σ0 w0 df D σ a w) :
  yz σ (qk o ((es j).eval C)) a.eval:=by
 intro x v i;unfold qk at i;split at i;{rename_i hm;cases x with| tmp t=>{have R:=r.read d (.inl (D0 (l:=ops.toList) hm));obtain⟨v',h1,p⟩:=I.env t v (by rw[R];exact i);simp only[Act.eval];rw[TA,h1];exact p}| const c=>{simp only[Env.eval] at i;cases hp:plain c with| true=>{simp[hp] at i;subst i;exact gD σ c hp}| false=>{simp[hp] at i}}| global g=>{simp only[Env.eval] at i;cases J:Nat.blt g C.cA with| true=>{simp only[J,xf,sw] at i;subst i;obtain⟨l,h1,p,U⟩:=I.rh g (by simpa using J);exact⟨l,h1,rfl,by simp[Act.eval,p,U]⟩}| false=>{simp[J] at i}}| func f=>{simp only[Env.eval,sw] at i;subst i;exact⟨[],[],rfl,rfl,rfl⟩}};{cases i}
theorem cT.want{D:Nat->Prop}{j:Nat}{o:Oper}(r:cT ops D j o)(d:dj C P cal hp ops es hs tr){σ0 σ:bD}{w0 w:World}{df:List Deferred}{a:Act}(I:Inv C ops es hs σ0 w0 df D σ a w)
  {b:Bool} (q:lI ops.toList (es j) o=some b):Region.wanted o (yielded ops a.tmps)=b:=by
 unfold lI at q;unfold Region.wanted;cases g:o.guard with| none=>{simp[g] at q;subst q;rfl}| some U=>{obtain⟨i,want⟩:=U;simp only[g] at q ⊢;unfold yielded;rw[TK] at q;cases l:(ops[i]?).bind (·.dst) with| none=>{simp[l] at q;subst q;simp}| some t=>{simp only[l] at q;simp only[Option.bind_some];have hm:t∈tmpsOf ops.toList o:=by{unfold tmpsOf;refine D1.2 (.inr ?_);simp only[g,TK,l,ti]};have R:=r.read d (.inl hm);split at q;{rename_i b2 p;cases q;obtain⟨v',h1,J⟩:=I.env t _ (by rw[R];exact p);rw[h1,show v'=.bool b2 from J];simp};{rename_i p;cases q;obtain⟨v',h1,cs,J,h3⟩:=I.env t _ (by rw[R];exact p);rw[h1,J];simp};{cases q}}}
theorem dj.GP(d:dj C P cal hp ops es hs tr){i k:Nat}{p q:Oper}(hp:ops[i]?=some p)(g:ops[k]?=some q){x:Nat}(j:x∈bJ ((es i).eval C) p.op) :
  cy q.op=true\/i=k\/(before ops.toList i).testBit k=true\/(before ops.toList k).testBit i=true\/¬dc hs k x\/(i<k/\jt C ((es i).eval C) (hs i) p.op (hs (k+1))=true):=by
 have:=Gs tr 0 d.Qw i _ _ _ _ (d.step i p hp).2 k q _ _ _ (by simpa using g) (d.step k q g).2 x j;simp only[AI] at this;rcases this with h | h | h | h | h | h;{exact .inl h};{exact .inr (.inl h)};{exact .inr (.inr (.inl h))};{exact .inr (.inr (.inr (.inl h)))};{exact .inr (.inr (.inr (.inr (.inl λl=>l h.symm))))};{exact .inr (.inr (.inr (.inr (.inr h))))}
theorem Gf{ρ:Operand->Option Value}{h g:au}{op:Op}(i:∀t x k ok,op≠.lookup t x k ok):jt C ρ h op g=false:=by
 unfold jt;split;{rename_i t x k ok;exact absurd rfl (i t x k ok)};{rfl}
theorem cT.base{D:Nat->Prop}{j:Nat}{o:Oper}(r:cT ops D j o)(d:dj C P cal hp ops es hs tr){x:Nat}(i:x∈bJ ((es j).eval C) o.op):G hs D j x=(hs j).get x:=by
 have l:=r.lt;refine u6 λk hk g=>?_;have hp:ops[k]?=some ops[k]:=by{simp[show k<ops.size from by omega]};rcases d.GP r.at_ hp i with h | h | h | h | h | h;{exact absurd (by rw[(d.kinds hp).1 h]) g};{omega};{exact r.QW d h};{have:=vF d.xu k j ops[k] (by simp[show k<ops.size from by omega]) h;omega};{exact absurd g h};{omega}
theorem cT.Oe{D:Nat->Prop}{j:Nat}{o:Oper}(r:cT ops D j o)(d:dj C P cal hp ops es hs tr){x:Nat}(l:x∈bJ ((es j).eval C) o.op) :
  ∃g,G hs D ops.size x=g.get x/\(g=hs j\/jt C ((es j).eval C) (hs j) o.op g=true):=by
 have t:=r.lt;have key:∀N,j<=N->N<=ops.size->∃g,G hs D N x=g.get x/\(g=hs j\/jt C ((es j).eval C) (hs j) o.op g=true):=by{intro N I;induction N with| zero =>{intro _; have : j = 0 := by{omega};subst this;exact⟨hs 0,r.base d l,.inl rfl⟩}| succ N J=>{intro U;by_cases e:j=N+1;{subst e;exact⟨hs (N+1),r.base d l,.inl rfl⟩};{obtain⟨g,g1,g2⟩:=J (by omega) (by omega);by_cases i:D N/\dc hs N x;{refine⟨hs (N+1),by rw[G,n0 i],.inr ?_⟩;have p:N≠j:=λR=>r.not (R▸i.1);have hp:ops[N]?=some ops[N]:=by{simp[show N<ops.size from by omega]};rcases d.GP r.at_ hp l with h | h | h | h | h | h;{exact absurd (by rw[(d.kinds hp).1 h]) i.2};{exact absurd h.symm p};{have:=vF d.xu j N o (by simpa using r.at_) h;omega};{exact(r.desc d i.1 hp h).elim};{exact absurd i.2 h};{exact h.2}};{exact⟨g,by rw[G,nw i];exact g1,g2⟩}}}};exact key ops.size (by omega) (mc _)
theorem cT.look{D:Nat->Prop}{j:Nat}{o:Oper}(r:cT ops D j o)(d:dj C P cal hp ops es hs tr)(g:∀t x k ok,o.op≠.lookup t x k ok){x:Nat}(i:x∈bJ ((es j).eval C) o.op) :
  G hs D ops.size x=(hs j).get x:=by
 obtain⟨l,h1,h2⟩:=r.Oe d i;rcases h2 with rfl | h2;{exact h1};{rw[Gf g] at h2;cases h2}
theorem cT.PZ{D:Nat->Prop}{j:Nat}{o:Oper}(r:cT ops D j o)(d:dj C P cal hp ops es hs tr){v:Value}(J:aW C ((es j).eval C) (hs j) o.op=some (.val v (hs j))) :
  ∃p,aW C ((es j).eval C) p o.op=some (.val v p)/\∀b∈bJ ((es j).eval C) o.op,G hs D ops.size b=p.get b:=by
 by_cases hl:∃t x k ok,o.op=.lookup t x k ok;{obtain⟨t,x,k,ok,R⟩:=hl;by_cases U:∃b,bJ ((es j).eval C) o.op=[b];{obtain⟨b,I⟩:=U;obtain⟨p,h1,h2⟩:=r.Oe d (x:=b) (by rw[I];simp);rcases h2 with rfl | h2;{exact⟨hs j,J,λc i=>by rw[I] at i;rw[ti.1 i];exact h1⟩};{refine⟨p,?_,λc i=>by rw[I] at i;rw[ti.1 i];exact h1⟩;rw[R] at J h2 ⊢;unfold jt at h2;dsimp only at h2;rw[J] at h2;cases l:aW C ((es j).eval C) p (.lookup t x k ok) with| none=>{rw[l] at h2;cases h2}| some q=>{rw[l] at h2;cases q with| call f as=>{cases h2}| val v2 g=>{have e:=iU h2;subst e;have hg:g=p:=by{unfold aW at l;dsimp only at l;split at l;{rename_i a b ha ad;cases aa:gZ C p t a b ok with| none=>{rw[aa] at l;cases l}| some z=>{rw[aa] at l;simp only[Tq,sw,Af.val.injEq] at l;exact l.2.symm}};{cases l}};rw[hg]}}}};{refine⟨hs j,J,λc i=>?_⟩;exfalso;rw[R] at U i;unfold bJ at U i;dsimp only at U i;split at i;{rename_i b I;exact U ⟨b,by rw[I]⟩};{cases i}}};{exact⟨hs j,J,λb I=>r.look d (λt x k ok e=>hl ⟨t,x,k,ok,e⟩) I⟩}
theorem cT.Lf{D:Nat->Prop}{j:Nat}(g:hs (j+1)=hs j):G hs (plus D j) ops.size=G hs D ops.size:=by
 funext x;refine s9 λk hk l=>?_;have i:k≠j:=by{intro e;subst e;exact l (by rw[g])};exact⟨λh=>h.resolve_right i,.inl⟩
theorem cT.later{D:Nat->Prop}{j:Nat}{o:Oper}(r:cT ops D j o)(d:dj C P cal hp ops es hs tr)(p:cy o.op=false){k:Nat}(I:j<k)(hk:k<ops.size)(hD:D k){x:Nat}(J:dc hs k x)
  (ac:x<(hs (j+1)).next):hZ ops[k].op=true/\x∈bJ ((es k).eval C) ops[k].op/\fY o.op=false:=by
 have hp:ops[k]?=some ops[k]:=by{simp[hk]};have g:=d.kinds hp;have R:lH ops.toList o ops[k]=true:=(d.pair r.at_ hp I).resolve_left (λh=>r.desc d hD hp h);obtain⟨h1,h2⟩:=sF R;cases t:cy ops[k].op with| true=>{exact absurd (by rw[g.1 t]) J}| false=>{cases hn:tW ops[k].op with| true=>{have:=g.2.1 hn x J;have:=(d.rW (i:=j+1) (j:=k) (by omega) (by omega)).next;omega}| false=>{cases l:hZ ops[k].op with| true=>{obtain⟨hl,_⟩:=g.2.2 l x J;refine⟨rfl,by rw[hl];simp,?_⟩;cases U:fY o.op with| false=>{rfl}| true=>{exact absurd ⟨U,l⟩ h2}}| false=>{exact absurd ⟨by simp[fY,t,hn,l],p⟩ h1}}}
theorem cT.Js{D:Nat->Prop}{j:Nat}{o:Oper}(r:cT ops D j o)(d:dj C P cal hp ops es hs tr)(g:cy o.op=false){k:Nat}(l:j<k)(hk:k<ops.size)(I:D k){x:Nat}(J:dc hs k x)
  (p:x<(hs (j+1)).next):¬dc hs j x:=by
 obtain⟨_,R,_⟩:=r.later d g l hk I J p;have hp:ops[k]?=some ops[k]:=by{simp[hk]};obtain⟨i,_,_⟩:=r.later d g l hk I J p;rcases d.GP hp r.at_ R with h | h | h | h | h | h;{rw[h] at g;cases g};{omega};{exact(r.desc d I hp h).elim};{have:=vF d.xu j k o (by simpa using r.at_) h;omega};{exact h};{rw[Gf (λt x k ok e=>by rw[e] at i;cases i)] at h;cases h.2}
theorem cT.Ou{D:Nat->Prop}{j:Nat}{o:Oper}(r:cT ops D j o)(d:dj C P cal hp ops es hs tr)(t:cy o.op=false){b:Nat}{B:aJ}(U:∀x,x≠b->¬dc hs j x)(hB:(hs (j+1)).get b=some B)
  (J:b<(hs (j+1)).next) (l:¬dc hs j b->G hs D ops.size b=some B):G hs (plus D j) ops.size=dx (G hs D ops.size) b (some B):=by
 have ab:=r.lt;funext x;by_cases R:x=b;{subst R;rw[cu];by_cases I:dc hs j x;{rw[qF (i:=j+1) (by omega),G,n0 ⟨.inr rfl,I⟩,hB];rintro k h1 h2 ⟨hD,g⟩;rcases hD with hD | hD;{exact r.Js d t (by omega) h2 hD g J I};{omega}};{rw[<-l I];refine s9 λk hk g=>?_;have p:k≠j:=by{intro e;subst e;exact I g};exact⟨λh=>h.resolve_right p,.inl⟩}};{rw[dB _ _ R];refine s9 λk hk g=>?_;have p:k≠j:=by{intro e;subst e;exact U x R g};exact⟨λh=>h.resolve_right p,.inl⟩}
theorem cT.ids{D:Nat->Prop}{j:Nat}{o:Oper}(r:cT ops D j o)(d:dj C P cal hp ops es hs tr){k:Nat}(hk:k<ops.size)(g:k≠j){i:Nat}(h1:(hs k).next<=i)(p:i<(hs (k+1)).next) :
  i<(hs j).next\/(hs (j+1)).next<=i:=by
 have l:=r.lt;by_cases h:k<j;{left;have:=(d.rW (i:=k+1) (j:=j) (by omega) (by omega)).next;omega};{right;have:=(d.rW (i:=j+1) (j:=k) (by omega) (by omega)).next;omega}
end
end Go.Abs
/-
 Soundness,part twenty-one: a region whose order is open,whole.
-/
namespace Go.Abs
open Go
section
variable {C:Ctx}{P:Program}
variable {cal:oM}{hp:MQ}{ops:Array Oper}{es:Nat->Env}{hs:Nat->au}{tr:List su}
theorem cT.called{D:Nat->Prop}{j:Nat}{o:Oper}(r:cT ops D j o)(d:dj C P cal hp ops es hs tr)(av:fY o.op=true){σ0 σ aa:bD}{w0 w w':World}{df:List Deferred}{a:Act}
  (I:Inv C ops es hs σ0 w0 df D σ a w) (a2:cM aa (hs (j+1)).get w') (gY:Ev σ (hs j).get (hs j).next w aa (hs (j+1)).get (hs (j+1)).next w') (hle:bD.le σ aa) :
  cM aa (G hs (plus D j) ops.size) w'/\Ev σ (G hs D ops.size) (hs 0).next w aa (G hs (plus D j) ops.size) (hs ops.size).next w'/\∀x B,(hs (j+1)).get x=some B->G hs (plus D j) ops.size x=some B:=by
 have ac:=r.lt;have a3:cy o.op=false:=by
  simp only[fY,tx,TZ] at av;exact av.1.2
 have hH:=d.gY ac;have p:∀k,j<k->k<ops.size->D k->∀x,x<(hs (j+1)).next->¬dc hs k x:=λk h1 h2 h3 x J hc=>by
  obtain⟨_,_,h4⟩:=r.later d a3 h1 h2 h3 hc J;rw[av] at h4;cases h4
 have t:∀k,k<j->∀x,dc hs k x->D k:=λk hk x hc=>by
  have ba:k<ops.size:=by omega
  have hp:ops[k]?=some ops[k]:=by simp[ba]
  rcases d.pair hp r.at_ hk with h | h
  ·exact r.QW d h
  ·cases a4:cy ops[k].op with
   | true=>exact absurd (by rw[(d.kinds hp).1 a4]) hc
   | false=>exact absurd ⟨av,a4⟩ (sF h).1
 have sub:∀x B,(hs j).get x=some B->G hs D ops.size x=some B:=λx B J=>by
  have a5:=d.K5 (TC ac) x B J;rw[qF (i:=j) (by omega),u6 λk hk hc=>t k hk x hc]
  ·exact J
  ·rintro k h1 h2 ⟨hD,hc⟩;by_cases ag:k=j
   ·subst ag;exact r.not hD
   ·exact p k (by omega) h2 hD x (by have:=hH.next;omega) hc
 have low:∀x,x<(hs (j+1)).next->G hs (plus D j) ops.size x=(hs (j+1)).get x:=λx J=>by
  rw[qF (i:=j+1) (by omega),u6]
  ·intro k hk hc;by_cases ag:k=j
   ·exact .inr ag
   ·exact .inl (t k (by omega) x hc)
  ·rintro k h1 h2 ⟨hD,hc⟩;rcases hD with hD | hD
   ·exact p k (by omega) h2 hD x J hc
   ·omega
 have dead:∀k x,k<=ops.size->(hs k).next<=x->(hs k).get x=none:=λk x hk J=>by
  cases hq:(hs k).get x with
  | none=>rfl
  | some B=>have:=d.K5 hk x B hq;omega
 have high:∀x,(hs (j+1)).next<=x->G hs (plus D j) ops.size x=G hs D ops.size x:=λx J=>by
  refine s9 λk hk hc=>?_;have ag:k≠j:=by
   intro e;subst e;exact hc (by rw[dead _ x (by omega) J,dead _ x (by omega) (AS hH.next J)])
  exact⟨λh=>h.resolve_right ag,.inl⟩
 have ab:∀x,(hs (j+1)).next<=x->aa x=σ x:=λx J=>gY.sig x (.inr J)
 have early:∀x B,(hs (j+1)).next<=x->G hs D ops.size x=some B->B.ro=false:=by
  intro x B J g;have key:∀m,m<=ops.size->∀B,G hs D m x=some B->(∃k,k<=m/\(hs k).get x=some B):=by
   intro m
   induction m with
   | zero=>intro _ B g;exact⟨0,mc _,g⟩
   | succ m ih=>
    intro hm B g;unfold G at g;split at g
    ·exact⟨m+1,mc _,g⟩
    ·obtain⟨k,h1,h2⟩:=ih (by omega) B g;exact⟨k,by omega,h2⟩
  obtain⟨k,hk,bb⟩:=key ops.size (mc _) B g;cases ax:B.ro with
  | false=>rfl
  | true=>
   have h0:=(d.rW (If k) hk).ro x B bb ax;have:=d.wf x B h0;have:=(d.rW (i:=0) (j:=j+1) (by omega) (by omega)).next
   omega
 refine⟨⟨λx B g=>?_,λx y B E lx ly g hE a6 ax U R=>?_⟩,?_,λx B g=>by rw[low x (d.K5 (by omega) x B g)];exact g⟩
 ·by_cases J:x<(hs (j+1)).next
  ·rw[low x J] at g;exact a2.bQ x B g
  ·rw[high x (by omega)] at g;obtain⟨l,h1,h2⟩:=I.oP.bQ x B g;refine⟨l,hle _ _ h1,(h2.mono hle).world (gY.oL l.bQ h2.lt λi E m hi al hm bc=>?_)⟩;have bd:i≠x:=by
    have:=d.K5 (TC ac) i E hi;have:=hH.next
    omega
   exact I.oP.inj i x E B m l (sub i E hi) g bd (.inl al) hm h1 bc
 ·
  have mixed:∀x y B E lx ly,x<(hs (j+1)).next->(hs (j+1)).next<=y->G hs (plus D j) ops.size x=some B->G hs (plus D j) ops.size y=some E->aa x=some lx->aa y=some ly->lx.bQ≠ly.bQ:=by
   intro x y B E lx ly J hy g hE U R;rw[low x J] at g;rw[high y hy] at hE;rw[ab y hy] at R;have al:=early y E hy hE;cases an:B.ro with
   | true=>
    have a7:=hH.ro x B g an;have a5:=d.K5 (TC ac) x B a7;rw[gY.sig x (.inl a5)] at U;exact I.oP.inj x y B E lx ly (sub x B a7) hE (by omega) (.inr al) U R
   | false=>
    obtain⟨l2,h1,h2⟩:=I.oP.bQ y E hE;rw[R] at h1;cases h1;have:=h2.lt;rcases gY.own x B lx g an U with h | ⟨i,F,m,h3,h4,h5,h6⟩
    ·omega
    ·rw[<-h6];have bt:=d.K5 (TC ac) i F h3;have:=hH.next
     exact I.oP.inj i y F E m ly (sub i F h3) hE (by omega) (.inl h4) h5 R
  by_cases J:x<(hs (j+1)).next
  ·by_cases hy:y<(hs (j+1)).next
   ·rw[low x J] at g;rw[low y hy] at hE;exact a2.inj x y B E lx ly g hE a6 ax U R
   ·exact mixed x y B E lx ly J (by omega) g hE U R
  ·by_cases hy:y<(hs (j+1)).next
   ·exact(mixed y x E B ly lx hy (by omega) hE g R U).symm
   ·rw[high x (by omega)] at g;rw[high y (by omega)] at hE;rw[ab x (by omega)] at U;rw[ab y (by omega)] at R;exact I.oP.inj x y B E lx ly g hE a6 ax U R
 ·have bv:=(d.rW (If j) (TC ac)).next
  have bx:=(d.rW (i:=j+1) (j:=ops.size) (by omega) (mc _)).next
  refine⟨gY.size,gY.os,gY.out,gY.tape,λb hb hn=>gY.oL b hb λi E l hi al hl bn=>hn i E l (sub i E hi) al hl bn,λi B l hi an hl=>?_,λi hi=>gY.sig i (by omega)⟩;by_cases J:i<(hs (j+1)).next
  ·rw[low i J] at hi;rcases gY.own i B l hi an hl with h | ⟨k,E,m,h3,h4,h5,h6⟩
   ·exact .inl h
   ·exact .inr ⟨k,E,m,sub k E h3,h4,h5,h6⟩
  ·rw[high i (by omega)] at hi;rw[ab i (by omega)] at hl;exact .inr ⟨i,B,l,hi,an,hl,rfl⟩
theorem cT.sub{D:Nat->Prop}{j:Nat}{o:Oper}(r:cT ops D j o)(d:dj C P cal hp ops es hs tr)(g:fY o.op=true)(x:Nat)(B:aJ)(U:(hs j).get x=some B):G hs D ops.size x=some B:=by
 have l:=r.lt;have p:cy o.op=false:=by{simp only[fY,tx,TZ] at g;exact g.1.2};have hH:=d.gY l;have ac:=d.K5 (TC l) x B U;rw[qF (i:=j) (by omega),u6];{exact U};{intro k hk I;have J:k<ops.size:=by{omega};have hp:ops[k]?=some ops[k]:=by{simp[J]};rcases d.pair hp r.at_ hk with h | h;{exact r.QW d h};{cases t:cy ops[k].op with| true=>{exact absurd (by rw[(d.kinds hp).1 t]) I}| false=>{exact absurd ⟨g,t⟩ (sF h).1}}};{rintro k h1 h2 ⟨hD,I⟩;by_cases R:k=j;{subst R;exact r.not hD};{obtain⟨_,_,h4⟩:=r.later d p (by omega) h2 hD I (by have:=hH.next;omega);rw[g] at h4;cases h4}}
def Pu(C:Ctx)(ops:Array Oper)(es:Nat->Env)(hs:Nat->au)(hp:MQ)(σ0:bD)(w0:World)(df:List Deferred)(Q:Exit->Act->World->Prop):Prop:=
 ∀f args h h1,hp f args h h1->∀g i j,(es 0).n=i.tmps.size->(∀t v,(∀o∈ops.toList,o.dst≠some t)->(es 0).get t=some v->∃v',i.tmps[t]?=some v'/\aX g v v')->i.defers=df->
  cM g h1.get j->Ev σ0 (hs 0).get (hs 0).next w0 g h1.get (hs ops.size).next j->Q (.panic (wK C)) i j
theorem Ev.part{σ j:bD}{g o g2:Nat->Option aJ}{n p:Nat}{w r:World}(h:Ev σ g n w j o p r)(hs:∀i B,g2 i=some B->o i=some B):Ev σ g n w j g2 p r:=
 ⟨h.size,h.os,h.out,h.tape,h.oL,λi B l t I J=>h.own i B l (hs i B t) I J,h.sig⟩
def zX(C:Ctx)(ops:Array Oper)(es:Nat->Env)(hs:Nat->au)(hp:MQ)(j:Nat):Prop:=
 ∀o f args,ops[j]?=some o->lI ops.toList (es j) o=some true->aW C ((es j).eval C) (hs j) o.op=some (.call f args)->¬hp f args (hs j) (hs (j+1))
theorem cT.step{D:Nat->Prop}{j:Nat}{o:Oper}(r:cT ops D j o)(d:dj C P cal hp ops es hs tr){σ0 σ:bD}{w0 w:World}{df:List Deferred}{a:Act}(I:Inv C ops es hs σ0 w0 df D σ a w)
  {Q:Exit->Act->World->Prop} {K:Act->World->Prop} (a4:∀g a' w',zX C ops es hs hp j->Inv C ops es hs σ0 w0 df (plus D j) g a' w'->K a' w')
  (bb:Pu C ops es hs hp σ0 w0 df Q):wpOp P ops Q j K a w:=by
 have U:=r.lt;have q:=(d.step j o r.at_).1;have bi:=(d.rW (If j) (TC U)).next
 have b2:=(d.rW (i:=j+1) (j:=ops.size) (by omega) (mc _)).next
 unfold wpOp;rw[r.at_];simp only;unfold cq at q;split at q
 ·cases q
 ·rename_i J
  have hK:=λg a' w'=>a4 g a' w' (λo2 f args p a6=>by
   rw[r.at_] at p;obtain rfl:=aE p;rw[J] at a6;cases a6)
  simp only[sw,Tk] at q;rw[r.want d I J,nw (by simp)];have hG:=cT.Lf (ops:=ops) (D:=D) q.2.symm;exact hK σ _ w (r.finish d I q.1.symm (eT σ) (bD.le_refl σ) (by rw[hG];exact I.oP) (by rw[hG];exact Ev.refl _ _ _ _ |>.IM (mc _) (by have:=(d.rW (i:=0) (j:=ops.size) (by omega) (mc _)).next;exact this)) (λ_ _ _ _ _ _ _=>rfl))
 ·rename_i J;rw[r.want d I J,n0 rfl];left;have ao:=r.JA d I;unfold Oper.wp;split at q
  ·cases q
  ·rename_i v h1 ho
   have hK:=λg a' w'=>a4 g a' w' (λo2 f args p a6 ar=>by
    rw[r.at_] at p;obtain rfl:=aE p;rw[ho] at ar;cases ar)
   simp only[sw,Tk] at q;obtain⟨q1,rfl⟩:=q;have R:aW C (qk o ((es j).eval C)) (hs j) o.op=some (.val v (hs (j+1))):=by rw[(mY o _ _).1];exact ho
   cases aa:cy o.op with
   | true=>
    obtain⟨v2,r1,_⟩:=lQ d.ok aa R;simp only[Af.val.injEq] at r1;obtain⟨rfl,r1⟩:=r1;obtain⟨h',p,ax⟩:=r.PZ d (v:=v) (by rw[<-r1];rw[r1] at ho ⊢;exact ho);obtain⟨v3,s1,r2⟩:=lQ d.ok aa (show aW C (qk o ((es j).eval C)) h' o.op=some (.val v h') by rw[(mY o _ _).1];exact p);simp only[Af.val.injEq] at s1;obtain⟨rfl,_⟩:=s1;obtain⟨v',p1,p2⟩:=r2 a.eval σ _ w I.oP ao (λb hb=>ax b (by rw[(mY (C:=C) o ((es j).eval C) (hs j)).2] at hb;exact hb));rw[p1];have hG:=cT.Lf (ops:=ops) (D:=D) r1
    exact hK σ _ w (r.finish d I q1.symm p2 (bD.le_refl σ) (by rw[hG];exact I.oP) (by rw[hG];exact Ev.refl _ _ _ _ |>.IM (mc _) (by have:=(d.rW (i:=0) (j:=ops.size) (by omega) (mc _)).next;exact this)) (λ_ _ _ _ _ _ _=>rfl))
   | false=>
    cases hn:tW o.op with
    | true=>
     obtain⟨v2,b,b3,r1,r2⟩:=vT d.ok hn R;simp only[Af.val.injEq] at r1;obtain⟨rfl,r1⟩:=r1;have bn:(hs (j+1)).next=(hs j).next+1:=by rw[r1];rfl
     have bc:=I.fresh j U r.not (hs j).next (mc _) (by omega)
     obtain⟨l,v',w',p1,p2,p3,p4,p5⟩:=r2 a.eval σ _ w I.oP bc ao;rw[p1];have hG:G hs (plus D j) ops.size=dx (G hs D ops.size) (hs j).next (some b):=by
      refine r.Ou d aa (λx hx hc=>?_) (by rw[r1,au.eB,n0 rfl]) (by omega) (λhc=>?_)
      ·exact hx ((d.kinds r.at_).2.1 hn x hc)
      ·exfalso;apply hc;unfold dc;rw[r1,au.eB,n0 rfl];cases hq:(hs j).get (hs j).next with
       | none=>simp
       | some B=>have:=d.K5 (TC U) _ B hq;omega
     refine hK _ _ w' (r.finish d I q1.symm p2 (bD.u5 bc) (by rw[hG];exact p3) (by rw[hG];exact p4.IM bi (by omega)) (λk hk _ av i h1 h2=>?_));have:=r.ids d hk av h1 h2;exact dB _ _ (by omega)
    | false=>
     cases ac:hZ o.op with
     | true=>
      obtain⟨b,cs,r0,r1,⟨b6,r2⟩,r3⟩:=jJ d.ok ac R;simp only[Af.val.injEq] at r1;obtain⟨rfl,r1⟩:=r1;have ax:G hs D ops.size b=(hs j).get b:=r.look d (λt x k ok e=>by rw[e] at ac;cases ac) (by rw[<-(mY (C:=C) o ((es j).eval C) (hs j)).2,r0];simp);obtain⟨w',p1,p2,p3⟩:=r3 a.eval σ _ w (hs 0).next I.oP ao ax
      rw[p1];have b7:=d.K5 (TC U) _ _ r2;have bn:(hs (j+1)).next=(hs j).next:=by rw[r1];rfl
      have hG:G hs (plus D j) ops.size=dx (G hs D ops.size) b (some (.cells false cs)):=by
       refine r.Ou d aa (λx hx hc=>?_) (by rw[r1,au.dX,n0 rfl]) (by omega) (λhc=>?_)
       ·apply hc;rw[r1,au.dX,nw hx]
       ·rw[ax];unfold dc at hc;rw[r1,au.dX,n0 rfl] at hc;exact(Classical.not_not.1 hc).symm
      exact hK σ _ w' (r.finish d I q1.symm (eT σ) (bD.le_refl σ) (by rw[hG];exact p2) (by rw[hG];exact p3.IM (mc _) (by have:=(d.rW (i:=0) (j:=ops.size) (by omega) (mc _)).next;exact this)) (λ_ _ _ _ _ _ _=>rfl))
     | false=>
      have ad:fY o.op=true:=by simp[fY,aa,hn,ac]
      have af:cM σ (hs j).get w:=I.oP.sub λx B hx=>r.sub d ad x B hx;have ag:∀i,(hs j).next<=i->i<(hs (j+1)).next->σ i=none:=I.fresh j U r.not
      obtain⟨g,v',w',hd,p1,p2,p3⟩:=Bw d.ok ad R af (d.K5 (TC U)) ao ag;have hle:=p3.le ag;obtain⟨c1,c2,c3⟩:=r.called d ad I p2 p3 hle;have a3:=r.finish d I q1.symm p1 hle c1 c2 (λk hk _ av i h1 h2=>p3.sig i (r.ids d hk av h1 h2));rcases hd with hd | ⟨hd,rfl⟩
      ·rw[hd];exact hK g _ w' a3
      ·rw[hd];exact hK g _ w' a3
  ·rename_i f args ho;split at q
   ·cases q
   ·rename_i v h1 br;simp only[sw,Tk] at q;obtain⟨q1,rfl⟩:=q;have R:aW C (qk o ((es j).eval C)) (hs j) o.op=some (.call f args):=by rw[(mY o _ _).1];exact ho
    have ad:fY o.op=true:=by
     cases aa:cy o.op with
     | true=>obtain⟨_,r1,_⟩:=lQ d.ok aa R;cases r1
     | false=>
      cases hn:tW o.op with
      | true=>obtain⟨_,_,_,r1,_⟩:=vT d.ok hn R;cases r1
      | false=>
       cases ac:hZ o.op with
       | true=>obtain⟨_,_,_,r1,_⟩:=jJ d.ok ac R;cases r1
       | false=>simp[fY,aa,hn,ac]
    have af:cM σ (hs j).get w:=I.oP.sub λx B hx=>r.sub d ad x B hx;have ag:∀i,(hs j).next<=i->i<(hs (j+1)).next->σ i=none:=I.fresh j U r.not
    obtain⟨args',r1,r2⟩:=sR d.ok R ao af;rw[r1];simp only[Oper.upon];refine(d.Od.Qc f args (hs j) v (hs (j+1)) br (d.K5 (TC U)) σ w args' I.rh af r2 ag).mono ?_;intro en w' hh;rcases hh with ⟨bs,v',g,rfl,p1,p2,p3⟩ | ⟨rfl,bt,g,p2,p3⟩
    case inr=>
     have hle:=p3.le ag;obtain⟨c1,c2,c3⟩:=r.called d ad I p2 p3 hle;refine bb _ _ _ _ bt g a w' I.size (λt v hn hv=>?_) I.defers p2 ((I.ev.comp c2).part c3);have hV:V ops es D ops.size t=some v:=by
      rw[tq (i:=0) (If _)]
      ·exact hv
      ·rintro k _ hk ⟨_,hd⟩;rw[show ops[k]?=some ops[k] by simp[hk]] at hd;exact hn ops[k] (by simp) hd
     obtain⟨v',q3,q4⟩:=I.env t v hV;exact⟨v',q3,q4.mono hle⟩
    have hle:=p3.le ag;obtain⟨c1,c2,c3⟩:=r.called d ad I p2 p3 hle
    exact a4 g _ w' (λo2 f2 bv p _ ar=>by
     rw[r.at_] at p;obtain rfl:=aE p;rw[ho] at ar;cases ar;exact bs) (r.finish d I q1.symm p1 hle c1 c2 (λk hk _ av i h1 h2=>p3.sig i (r.ids d hk av h1 h2)))
def left(listed:Array Bool):Nat->Nat
 | 0=>0
 | k+1=>left listed k+(if listed.getD k false then 0 else 1)
theorem EB{listed:Array Bool}{i:Nat}(hi:listed.getD i true=false):∀k,left (listed.setIfInBounds i true) k+(if i<k then 1 else 0)=left listed k
 | 0=>by simp[left]
 | k+1=>by{have l:=EB hi k;have g:i<listed.size:=by{rcases IN i listed.size with h | h;{exact h};{rw[TA,VX h] at hi;cases hi}};unfold left;by_cases hk:k=i;{subst hk;have h1:(listed.setIfInBounds k true).getD k false=true:=by{simp[g]};have o:listed.getD k false=false:=by{rw[TA] at hi ⊢;simp[g] at hi ⊢;exact hi};rw[h1,o];simp only[TY,UC,Un,TD,TT] at l ⊢;omega};{have h1:(listed.setIfInBounds i true).getD k false=listed.getD k false:=getD_set_ne _ (Ne.symm hk);rw[h1];generalize (if listed.getD k false=true then 0 else 1)=z;by_cases j:i<k;{rw[n0 j] at l;rw[n0 (show i<k+1 by omega)];omega};{rw[nw j] at l;rw[nw (show ¬i<k+1 by omega)];omega}}}
theorem CH{listed:Array Bool}:∀{k:Nat},left listed k=0->∀i,i<k->listed.getD i false=true
 | 0,_,i,h=>by omega
 | k+1,h,i,hi=>by{unfold left at h;by_cases g:i=k;{subst g;cases j:listed.getD i false with| true=>{rfl}| false=>{rw[j] at h;simp at h}};{exact CH (Nat.eq_zero_of_add_eq_zero_right h) i (by omega)}}
theorem JS(d:dj C P cal hp ops es hs tr){σ0:bD}{w0:World}{df:List Deferred}{Q:Exit->Act->World->Prop}(ac:Pu C ops es hs hp σ0 w0 df Q)
  (hQ:∀R a' w',(∀j,j<ops.size->zX C ops es hs hp j)->fg R (es ops.size) a'->a'.defers=df->cM R (hs ops.size).get w'->Ev σ0 (hs 0).get (hs 0).next w0 R (hs ops.size).get (hs ops.size).next w'->Q .normal a' w') :
  ∀(fuel:Nat) (listed:Array Bool) (σ:bD) (a:Act) (w:World),(∀j,listed.getD j false=true->zX C ops es hs hp j)->listed.size=ops.size->left listed ops.size<=fuel->sQ ops.toList (λj=>listed.getD j false=true)->
   Inv C ops es hs σ0 w0 df (λj=>listed.getD j false=true) σ a w->wpAny P .any ops Q fuel listed a w:=by
 have fin:∀(listed:Array Bool) (σ:bD) (a:Act) (w:World),(∀j,listed.getD j false=true->zX C ops es hs hp j)->(∀i,i<ops.size->listed.getD i false=true)->Inv C ops es hs σ0 w0 df (λj=>listed.getD j false=true) σ a w->Q .normal a w:=by{intro listed σ a w J g I;have hG:G hs (λj=>listed.getD j false=true) ops.size=(hs ops.size).get:=by{funext x;exact u6 λk hk _=>g k hk};have hV:∀t,V ops es (λj=>listed.getD j false=true) ops.size t=(es ops.size).get t:=λt=>DC d (mc _) λk hk _=>g k hk;refine hQ σ a w (λj hj=>J j (g j hj)) ⟨by rw[d.ns (mc _)];exact I.size,λt v hv=>I.env t v (by rw[hV];exact hv)⟩ I.defers ?_ ?_;{rw[<-hG];exact I.oP};{rw[<-hG];exact I.ev}};have stuck:∀(listed:Array Bool),listed.size=ops.size->Region.ready .any ops listed=[]->∀i,i<ops.size->listed.getD i false=true:=by{intro listed l hr i;induction i using Nat.strongRecOn with| _ i ih=>{intro hi;cases hq:listed.getD i false with| true=>{rfl}| false=>{have ho:ops[i]?=some ops[i]:=by{simp[hi]};have U:i∈Region.ready .any ops listed:=by{rw[mem_ready];refine⟨?_,ops[i],ho,λx hx hb=>?_⟩;{rw[TA] at hq ⊢;simp[l,hi] at hq ⊢;exact hq};{have:=(ud d.xu i ops[i] (by simp[hi])).1 x (by simpa using hx) hb;exact ih x.on (by omega) (by omega)}};rw[hr] at U;cases U}}};intro fuel;induction fuel with| zero=>{intro listed σ a w J l hl hc I;have g:=CH (Nat.le_zero.1 hl);refine⟨?_,fin listed σ a w J g I⟩;cases hr:Region.ready .any ops listed with| nil=>{rfl}| cons i r=>{exfalso;have hm:i∈Region.ready .any ops listed:=by{rw[hr];simp};rw[mem_ready] at hm;obtain⟨h1,o,h2,_⟩:=hm;have hi:i<ops.size:=(Tr.1 h2).1;have:=g i hi;rw[TA] at h1 this;simp[l,hi] at h1 this;rw[h1] at this;cases this}}| succ fuel ih=>{intro listed σ a w J l hl hc I;refine⟨λhr=>fin listed σ a w J (stuck listed l hr) I,λj hj=>?_⟩;rw[mem_ready] at hj;obtain⟨h1,o,h2,h3⟩:=hj;have hi:j<ops.size:=(Tr.1 h2).1;have al:¬listed.getD j false=true:=by{rw[TA] at h1 ⊢;simp[l,hi] at h1 ⊢;exact h1};have r:cT ops (λj=>listed.getD j false=true) j o:=⟨h2,al,λx hx hb=>h3 x (by simpa using hx) hb,hc⟩;refine r.step d I (λR a' w' a0 I'=>?_) ac;have hD:(λk=>(listed.setIfInBounds j true).getD k false=true)=plus (λj=>listed.getD j false=true) j:=by{funext k;by_cases hk:k=j;{subst hk;simp[plus,l,hi]};{simp only[plus,hk,or_false];rw[getD_set_ne _ (Ne.symm hk)]}};have a1:=EB h1 ops.size;rw[n0 hi] at a1;refine ih (listed.setIfInBounds j true) R a' w' (λk hk=>by{by_cases an:k=j;{subst an;exact a0};{rw[getD_set_ne _ (Ne.symm an)] at hk;exact J k hk}}) (by simpa using l) (by omega) ?_ (by rw[hD];exact I');rw[hD];intro k p hk hp x hx hb;rcases hk with hk | hk;{exact .inl (hc k p hk hp x hx hb)};{subst hk;have:p=o:=by{have ao:ops[k]?=some p:=by{simpa using hp};rw[h2] at ao;exact(aE ao).symm};subst this;exact .inl (h3 x (by simpa using hx) hb)}}
theorem Fz(d:dj C P cal hp ops es hs tr){id:Nat}{σ:bD}{a:Act}{w:World}(hg:kv C σ)(s:cM σ (hs 0).get w)(he:fg σ (es 0) a)(hf:∀i,(hs 0).next<=i->i<(hs ops.size).next->σ i=none)
  {Q:Exit->Act->World->Prop} (I:Pu C ops es hs hp σ w a.defers Q)
  (hQ:∀r R U,(∀j,j<ops.size->zX C ops es hs hp j)->fg r (es ops.size) R->R.defers=a.defers->cM r (hs ops.size).get U->Ev σ (hs 0).get (hs 0).next w r (hs ops.size).get (hs ops.size).next U->Q .normal R U) :
  (Code.region id ops true).wp P Q a w:=by
 refine wp_region_any d.ok.mixed ?_;have g:∀j,(Array.replicate ops.size false).getD j false=false:=by{intro j;rw[TA];by_cases p:j<ops.size;{simp[p]};{simp[p]}};have aa:(λj=>(Array.replicate ops.size false).getD j false=true)=λ_=>False:=by{funext j;rw[g];simp};have J:G hs (λ_=>False) ops.size=(hs 0).get:=by{funext x;rw[qF (i:=0) (If _) (λk _ _ hh=>hh.1)];rfl};have ac:∀t,V ops es (λ_=>False) ops.size t=(es 0).get t:=λt=>by{rw[tq (i:=0) (If _) (λk _ _ hh=>hh.1)];rfl};refine JS d (σ0:=σ) (w0:=w) (df:=a.defers) I hQ ops.size _ σ a _ (λj p=>by rw[g] at p;cases p) (by simp) ?_ ?_ ?_;{have:∀k,left (Array.replicate ops.size false) k=k:=by{intro k;induction k with| zero=>{rfl}| succ k ih=>{unfold left;rw[ih,g];simp}};rw[this];exact mc _};{intro j o p;rw[g] at p;cases p};{rw[aa];refine⟨hg,?_,he.size,λt v hv=>he.rel t v (by rw[<-ac t];exact hv),λk hk _ i h1 h2=>?_,?_,rfl⟩;{rw[J];exact⟨λi b hb=>let ⟨l,x,y⟩:=s.bQ i b hb;⟨l,x,y.world rfl⟩,s.inj⟩};{have ao:=(d.rW (If k) (TC hk)).next;have ar:=(d.rW (i:=k+1) (j:=ops.size) (by omega) (mc _)).next;exact hf i (by omega) (by omega)};{rw[J];refine⟨mc _,rfl,rfl,⟨rfl,VW _⟩,λ_ _ _=>rfl,λi B l hB hr hl=>.inr ⟨i,B,l,hB,hr,hl,rfl⟩,λ_ _=>rfl⟩}}
theorem KF(ok:C.Ok P)(l:iF C P cal){id:Nat}{draw:Bool}{e I:Env}{h p:au}(q:kN C cal ops.toList draw e h=some (I,p))
  {σ:bD} {a:Act} {w:World} (hw:∀i b,h.get i=some b->i<h.next) (U:kv C σ) (s:cM σ h.get w) (he:fg σ e a) (hf:∀i,h.next<=i->i<p.next->σ i=none)
  {Q:Exit->Act->World->Prop} (hQ:∀g r t,fg g I r->r.defers=a.defers->cM g p.get t->Ev σ h.get h.next w g p.get p.next t->Q .normal r t) :
  (Code.region id ops draw).wp P Q a w:=by
 unfold kN at q;cases draw with| false=>{simp only[zm] at q;refine wp_region (LL ok l ops.toList _ e I h p σ a w ?_ q hw U s he hf hQ);apply Tn;intro i;simp only[zy];by_cases hi:i<ops.size;{rw[TN hi];simp[hi]};{rw[zE (by simp;omega),zE (by simp;omega)];rfl}}| true=>{simp only[xf] at q;split at q;{cases q};{rename_i e1 h1 tr ht;obtain⟨J,q⟩:=gX q;simp only[tx] at J;cases q;obtain⟨es,hs,rfl,rfl,rfl,rfl,R⟩:=ox ops.toList _ _ _ _ _ ht;simp only[UO] at *;have d:dj C P cal _ ops es hs tr:=⟨ok,l,λj o ho=>R j o (by simpa using ho),hw,J.1,J.2⟩;exact Fz d U s he hf (λ_ _ _ _ q=>q.elim) (λg r t _=>hQ g r t)}}
open Classical in
noncomputable def A8(C:Ctx)(cal:oM)(g:FuncId)(ac:List Value)(i h1:au):oM:=λf args h=>if f=g/\args=ac/\h=i then some (C.Ej,h1) else cal f args h
theorem sv{ops:List Oper}{o:Oper}{e l:Env}{h p h1 i:au}{j:FuncId}{ac:List Value}(r:cal j ac i=none)(q:cq C cal ops o e h=some (l,p)):cq C (A8 C cal j ac i h1) ops o e h=some (l,p):=by
 unfold cq at q ⊢;split at q;{cases q};{exact q};{split at q;{cases q};{exact q};{rename_i f args t;split at q;{cases q};{rename_i v I g;have:¬(f=j/\args=ac/\h=i):=by{rintro⟨rfl,rfl,rfl⟩;rw[r] at g;cases g};simp only[A8,nw this,g];exact q}}}
theorem xw{ops:List Oper}{h1 p:au}{r:FuncId}{ac:List Value}(t:cal r ac p=none):∀(rest:List Oper) (e g:Env) (h i:au) (tr:List su),cG C cal ops rest e h=some (g,i,tr)->cG C (A8 C cal r ac p h1) ops rest e h=some (g,i,tr)
 | [],_,_,_,_,_,q=>q
 | o::rest,e,g,h,i,tr,q=>by{unfold cG at q ⊢;split at q;{cases q};{rename_i J R j;rw[sv t j];split at q;{cases q};{rename_i U h3 l I;simp only[xw t rest _ _ _ _ _ I];exact q}}}
theorem tF{cp:Ba}{ops:List Oper}{h1 hN:au}:∀(rest:List Oper) (e:Env) (h:au) (tr:List su),(∀o∈rest,ux o.op=none)->nO C cal cp ops rest e h=some (h1,hN,tr)->
  ∃t ac I e',cp t ac I=some h1/\cal t ac I=none/\cG C (A8 C cal t ac I h1) ops rest e h=some (e',hN,tr)/\
   ∀(es:Nat->Env) (hs:Nat->au),es 0=e->hs 0=h->(∀j o,rest[j]?=some o->cq C (A8 C cal t ac I h1) ops o (es j) (hs j)=some (es (j+1),hs (j+1)))->
    ∃j o,rest[j]?=some o/\lI ops (es j) o=some true/\aW C ((es j).eval C) (hs j) o.op=some (.call t ac)/\hs j=I/\hs (j+1)=h1
 | [],_,_,_,_,q=>by cases q
 | o::rest,e,h,tr,R,q=>by{unfold nO at q;split at q;{rename_i e1 h2 g;split at q;{rename_i ax ay l hr;cases q;obtain⟨t,ac,I,e',q1,q2,q3,q4⟩:=tF rest e1 h2 l (λo J=>R o (mb _ J)) hr;refine⟨t,ac,I,e',q1,q2,?_,λes hs he U p=>?_⟩;{unfold cG;rw[sv q2 g];simp only[q3]};{have:=p 0 o rfl;rw[he,U,sv q2 g] at this;simp only[sw,Tk] at this;obtain⟨j,o2,r1,r2,r3,r4,r5⟩:=q4 (λj=>es (j+1)) (λj=>hs (j+1)) this.1.symm this.2.symm (λj o2 ag=>p (j+1) o2 ag);exact⟨j+1,o2,r1,r2,r3,r4,r5⟩}};{cases q}};{rename_i g;split at q;{cases q};{rename_i h2 i;split at q;{rename_i e2 h3 l hr;cases q;unfold vS at i;unfold cq at g;split at i;{rename_i hw;rw[hw] at g;rw[R o (D2 ..)] at i;simp only at i g;split at i;{rename_i f args J;rw[J] at g;simp only at g;have hn:cal f args h=none:=by{cases al:cal f args h with| none=>{rfl}| some r=>{rw[al] at g;cases g}};have aa:A8 C cal f args h h1 f args h=some (C.Ej,h1):=n0 ⟨rfl,rfl,rfl⟩;refine⟨f,args,h,e2,i,hn,?_,λes hs he U p=>⟨0,o,rfl,by rw[he];exact hw,by rw[he,U];exact J,U,?_⟩⟩;{unfold cG cq;rw[hw];simp only[J,aa,xw hn rest _ _ _ _ _ hr]};{have:=p 0 o rfl;rw[he,U] at this;unfold cq at this;rw[hw] at this;simp only[J,aa,sw,Tk] at this;exact this.2.symm}};{cases i}};{cases i}};{cases q}}}}
structure pK(C:Ctx)(P:Program)(cp:Ba):Prop where
 gY:∀f args h h',cp f args h=some h'->fu h h'
 run:∀f args h h',cp f args h=some h'->(∀i b,h.get i=some b->i<h.next)->∀σ w args',kv C σ->cM σ h.get w->aV σ args args'->
  (∀i,h.next<=i->i<h'.next->σ i=none)->
  Calls P f ⟨args'⟩ w λen w'=>en=.panicked (wK C)/\∃σ',cM σ' h'.get w'/\Ev σ h.get h.next w σ' h'.get h'.next w'
theorem NY(g:iF C P cal){cp:Ba}(j:pK C P cp){o:FuncId}{ac:List Value}{p h1:au}(q:cp o ac p=some h1):si C P (A8 C cal o ac p h1) (λf args h l=>f=o/\args=ac/\h=p/\l=h1):=by
 constructor;{intro f args h v l e;unfold A8 at e;split at e;{rename_i i;obtain⟨rfl,rfl,rfl⟩:=i;cases e;exact j.gY _ _ _ _ q};{exact g.gY _ _ _ _ _ e}};{intro f args h v l e hw σ w args' J s r R;unfold A8 at e;split at e;{rename_i i;obtain⟨rfl,rfl,rfl⟩:=i;cases e;exact(j.run _ _ _ _ q hw σ w args' J s r R).mono λU w' i=>.inr ⟨i.1,⟨rfl,rfl,rfl,rfl⟩,i.2⟩};{rename_i t;exact(g.run f args h v l e hw σ w args' J s r R).mono λ_ _ i=>.inl ⟨λI=>t ⟨I.1,I.2.1,I.2.2.1⟩,i⟩}}
theorem Cc(ok:C.Ok P)(g:si C P cal hp){all:List Oper}:∀(rest:List Oper) (e j:Env) (h i:au) (tr:List su),cG C cal all rest e h=some (j,i,tr)->fu h i:=by
 intro rest;induction rest with| nil=>{intro e j h i tr q;cases q;exact fu.refl _}| cons o rest r=>{intro e j h i tr q;unfold cG at q;split at q;{cases q};{rename_i I h1 p;split at q;{cases q};{rename_i J R l t;cases q;exact(jc ok g p).trans (r _ _ _ _ _ t)}}}
theorem A3{t:Nat}{v:Value}:∀(ops:List Oper) (g:T Value),(ops.foldl (λt o=>match o.dst with | some d=>t.set d none | none=>t) g).get t=some v->g.get t=some v/\∀o∈ops,o.dst≠some t
 | [],g,h=>⟨h,λ_ hm=>by cases hm⟩
 | o::ops,g,h=>by{rw[V9] at h;obtain⟨h1,l⟩:=A3 ops _ h;cases i:o.dst with| none=>{rw[i] at h1;exact⟨h1,λx hx=>by{rcases PJ.1 hx with rfl | hx;{rw[i];simp};{exact l x hx}}⟩}| some d=>{rw[i] at h1;simp only at h1;rw[T.je] at h1;split at h1;{cases h1};{rename_i j;exact⟨h1,λx hx=>by{rcases PJ.1 hx with rfl | hx;{rw[i];intro e;exact j (aE e).symm};{exact l x hx}}⟩}}}
theorem rS(ok:C.Ok P)(i:iF C P cal){cp:Ba}(j:pK C P cp){all:List Oper}:∀(rest:List Oper) (e:Env) (h h1 p:au) (tr:List su),(∀o∈rest,ux o.op=none)->nO C cal cp all rest e h=some (h1,p,tr)->fu h h1/\fu h1 p
 | [],_,_,_,_,_,_,q=>by cases q
 | o::rest,e,h,h1,p,tr,l,q=>by{unfold nO at q;split at q;{rename_i e1 I r;split at q;{rename_i t;cases q;obtain⟨J,R⟩:=rS ok i j rest _ _ _ _ _ (λo U=>l o (mb _ U)) t;exact⟨(jc ok i r).trans J,R⟩};{cases q}};{split at q;{cases q};{rename_i I g;split at q;{rename_i t;cases q;refine⟨?_,Cc ok i _ _ _ _ _ _ t⟩;unfold vS at g;split at g;{rw[l o (D2 ..)] at g;simp only at g;split at g;{exact j.gY _ _ _ _ g};{cases g}};{cases g}};{cases q}}}}
theorem FT(ok:C.Ok P)(g:iF C P cal){cp:Ba}(l:pK C P cp){ops:List Oper}{e R:Env}{h I:au}(q:oC C cal cp ops e h=some (R,I)):fu h I:=by
 unfold oC at q;split at q;{cases q};{rename_i h1 hN tr U;obtain⟨J,q⟩:=gX q;cases q;simp only[tx,TZ] at J;have p:∀o∈ops,ux o.op=none:=λo ho=>by{have:=VU.1 J.2 o ho;simpa using this};obtain⟨j,r⟩:=rS ok g l _ _ _ _ _ _ p U;rw[Nat.max_eq_right r.next];exact⟨AS j.next r.next,λi hi hh=>j.dead i hi hh,λi b t hr=>j.ro i b t hr,λhw i b t=>Ti (j.wf hw i b t) r.next⟩}
theorem Hr(ok:C.Ok P)(l:iF C P cal){cp:Ba}(I:pK C P cp){id:Nat}{e e':Env}{h J:au}(q:oC C cal cp ops.toList e h=some (e',J))
  {σ:bD} {a:Act} {w:World} (hw:∀i b,h.get i=some b->i<h.next) (hg:kv C σ) (s:cM σ h.get w) (he:fg σ e a) (hf:∀i,h.next<=i->i<J.next->σ i=none)
  {Q:Exit->Act->World->Prop} (hQ:∀g p r,fg g e' p->p.defers=a.defers->cM g J.get r->Ev σ h.get h.next w g J.get J.next r->Q (.panic (wK C)) p r):(Code.region id ops true).wp P Q a w:=by
 unfold oC at q;split at q;{cases q};{rename_i h1 hN tr ht;obtain⟨hd,q⟩:=gX q;cases q;simp only[tx,TZ] at hd;have R:∀o∈ops.toList,ux o.op=none:=λo U=>by{have:=VU.1 hd.2 o U;simpa using this};rw[Nat.max_eq_right (rS ok l I _ _ _ _ _ _ R ht).2.next] at hf hQ;obtain⟨fc,ac,hc,e2,q1,q2,q3,q4⟩:=tF _ _ _ _ R ht;obtain⟨es,hs,rfl,rfl,rfl,rfl,aa⟩:=ox ops.toList _ _ _ _ _ q3;obtain⟨j,o,r1,r2,r3,r4,r5⟩:=q4 es hs rfl rfl λj o U=>(aa j o U).1;simp only[UO] at *;have d:dj C P (A8 C cal fc ac hc h1) _ ops es hs tr:=⟨ok,NY l I q1,λj o U=>aa j o (by simpa using U),hw,hd.1.1,hd.1.2⟩;refine Fz d hg s he hf (λf args h h2 hb g p r hz ab ae af gY=>?_) (λg p r ag _ _ _ _=>?_);{obtain⟨_,_,_,rfl⟩:=hb;refine hQ g p r ⟨hz,λt v hv=>?_⟩ ae af gY;obtain⟨g1,g2⟩:=A3 _ _ hv;exact ab t v g2 g1};{have hj:j<ops.size:=by{have:=(No.1 r1).1;simpa using this};exact absurd ⟨rfl,rfl,r4,r5⟩ (ag j hj o fc ac (by simpa using r1) r2 r3)}}
end
end Go.Abs
/-
 Soundness,part twenty-two: code and calls. What the abstract machine computes,the model does.
-/
namespace Go.Abs
open Go
section
variable {C:Ctx}{P:Program}
def Ex.to(C:Ctx):Ex->Exit
 | .normal=>.normal
 | .exit id=>.exit id
 | .ret=>.ret
 | .jN=>.panic (wK C)
def de(C:Ctx)(σ:bD)(h:au)(w:World)(df:List Deferred)(x:Ex)(o:Env)(i:au):Exit->Act->World->Prop:=λex j l=>
 ex=x.to C/\j.defers=df/\∃g,fg g o j/\cM g i.get l/\Ev σ h.get h.next w g i.get i.next l
structure J6(C:Ctx)(σ:bD)(h h':au)(w:World)(e:Env)(a:Act):Prop where
 wf:∀i b,h.get i=some b->i<h.next
 rh:kv C σ
 oP:cM σ h.get w
 env:fg σ e a
 fresh:∀i,h.next<=i->i<h'.next->σ i=none
def pg(P:Program)(c:Code)(Q:Exit->Act->World->Prop)(a:Act)(w:World):Prop:=
 ∀(b:Frame) (k:List Item) (cs:List Frame),∃e g i,Q e g i/\Arrives P (lone (b.at a (.code c::.inLoop c::k)) cs w) b k cs e g i
theorem Ao{c:Code}{Q:Exit->Act->World->Prop}{a:Act}{w:World}(h:pg P c Q a w):(Code.loop c).wp P Q a w:=
 λb k cs=>let ⟨e,g,i,q,r⟩:=h b k cs;⟨e,g,i,q,.of_steps (.one step_loop) r⟩
theorem FC{c:Code}{Q:Exit->Act->World->Prop}{a:Act}{w:World}(h:c.wp P (Exit.then (pg P c Q) Q) a w):pg P c Q a w:=by
 intro b k cs;obtain⟨e,i,j,r,g⟩:=h b (.inLoop c::k) cs;cases e with| normal=>{obtain⟨t,I,J,p,o⟩:=r b k cs;exact⟨t,I,J,p,.of_steps (Steps.trans g (.one step_inLoop)) o⟩}| exit id=>{exact⟨_,i,j,r,.pass (x:=.inLoop c) rfl (λ_ _=>.inl (by simp)) g⟩}| goto l=>{exact⟨_,i,j,r,.pass (x:=.inLoop c) rfl (λ_ _=>.inl (by simp)) g⟩}| ret=>{exact⟨_,i,j,r,.pass (x:=.inLoop c) rfl (λ_ _=>.inl (by simp)) g⟩}| panic R=>{exact⟨_,i,j,r,.pass (x:=.inLoop c) rfl (λ_ _=>.inl (by simp)) g⟩}| outgrown=>{exact⟨_,i,j,r,.pass (x:=.inLoop c) rfl (λ_ _=>.inl (by simp)) g⟩}
theorem EC{c:Code}{Q g:Exit->Act->World->Prop}{a:Act}{w:World}(h:pg P c Q a w)(i:∀e a w,Q e a w->g e a w):pg P c g a w:=
 λb k cs=>let ⟨e,j,l,q,r⟩:=h b k cs;⟨e,j,l,i _ _ _ q,r⟩
structure ui(C:Ctx)(P:Program)(exe:HJ):Prop where
 gY:∀c e h x e' h',exe c e h=some (x,e',h')->fu h h'
 run:∀c e h x e' h',exe c e h=some (x,e',h')->∀σ w a,J6 C σ h h' w e a->c.wp P (de C σ h w a.defers x e' h') a w
 loop:∀c e h x e' h',exe (.loop c) e h=some (x,e',h')->∀σ w a,J6 C σ h h' w e a->pg P c (de C σ h w a.defers x e' h') a w
theorem vD:∀(vs:List Value) (i:Nat) (t:T Value) (j:Nat),(iO.go vs i t).get j=if i<=j/\j<i+vs.length then vs[j-i]? else t.get j
 | [],i,t,j=>by{simp only[iO.go,List.length_nil];rw[nw (by omega)]}
 | v::vs,i,t,j=>by{rw[iO.go,vD vs (i+1) _ j,T.je];simp only[IT];by_cases h1:i+1<=j/\j<i+1+vs.length;{rw[n0 h1,n0 (by omega)];obtain⟨m,hm⟩:∃m,j-i=m+1:=⟨j-i-1,by omega⟩;rw[hm,Ug];congr 1;omega};{rw[nw h1];by_cases g:j=i;{subst g;rw[n0 rfl,n0 (by omega)];simp};{rw[nw g,nw (by omega)]}}}
theorem te{σ:bD}{args args':List Value}(n:Nat)(h:aV σ args args') :
  fg σ (iO n args) { tmps:=⟨args'⟩++Array.replicate (n-(⟨args'⟩:Array Value).size) undef,defers:=[] }:=by
 have o:=h.length;refine⟨?_,λi v g=>?_⟩;{simp[iO];omega};{have g:(iO.go args 0 .e).get i=some v:=g;rw[vD] at g;split at g;{rename_i hi;simp only[Nat.sub_zero] at g;obtain⟨v',h1,l⟩:=h.get i v g;refine⟨v',?_,l⟩;have j:i<args'.length:=by{omega};rw[Array.getElem?_append_left (by simpa using j)];simpa using h1};{cases g}}
def AK(a:Act):ResultVar->Sem Value
 | .tmp t=>pure (a.tmps.getD t undef)
 | .cell b t=>do loadVar t (<-asAddr (a.tmps.getD b undef))
theorem KG(ok:C.Ok P){σ:bD}{e:Env}{a:Act}{h:au}{w:World}(he:fg σ e a)(s:cM σ h.get w){r:ResultVar}{v:Value}(q:uE C e h r=some v) :
  ∃v',(AK a r).run P w=.ok v' w/\aX σ v v':=by
 cases r with| tmp t=>{obtain⟨v',h1,g⟩:=he.rel t v q;exact⟨v',by simp[AK,h1],g⟩}| cell b t=>{simp only[uE] at q;split at q;{rename_i p hp;obtain⟨o,h1,g⟩:=he.rel b p hp;obtain⟨v',i,j⟩:=DT ok s g q (λ_ _=>rfl);refine⟨v',?_,j⟩;unfold nq at q;split at q;{obtain⟨l,_,_,rfl⟩:=g;simp only[AK,Sem.run_bind,TA,h1,V2,asAddr,Sem.run_pure,Result.andThen_ok];simpa [Instr.loadAt,Instr.sureAddr] using i};{cases q}};{cases q}}
theorem z8(ok:C.Ok P){σ:bD}{e:Env}{a:Act}{h:au}{w:World}(he:fg σ e a)(s:cM σ h.get w):∀(rs:List ResultVar) (vs:List Value),gW C e h rs=some vs->
  ∃g,(rs.mapM (AK a)).run P w=.ok g w/\aV σ vs g
 | [],vs,q=>by cases q;exact⟨[],by simp,rfl⟩
 | r::rs,vs,q=>by{unfold gW at q;split at q;{rename_i v i h1 j;cases q;obtain⟨v',r1,r2⟩:=KG ok he s h1;obtain⟨g,r3,l⟩:=z8 ok he s rs i j;refine⟨v'::g,?_,⟨v',g,rfl,r2,l⟩⟩;rw[List.mapM_cons];simp only[Sem.run_bind,r1,Result.andThen_ok,r3,Sem.run_pure]};{cases q}}
theorem wO(ok:C.Ok P){σ:bD}{e:Env}{a:Act}{h:au}{w:World}(he:fg σ e a)(s:cM σ h.get w){fn:Func}{vs:List Value}(q:gW C e h fn.results.toList=some vs) :
  ∃v',(results fn a.tmps).run P w=.ok v' w/\aX σ (ff vs) v':=by
 obtain⟨g,h1,i⟩:=z8 ok he s _ vs q;have hm:(results fn a.tmps).run P w=.ok (if h:(⟨g⟩:Array Value).size=1 then (⟨g⟩:Array Value)[0] else .tuple ⟨g⟩) w:=by{unfold results;rw[Array.mapM_eq_mapM_toList,Sem.run_bind,Sem.run_map];have:∀(f:ResultVar->Sem Value),(∀r,f r=AK a r)->(List.mapM f fn.results.toList).run P w=.ok g w:=by{intro f j;rw[show f=_ from funext j];exact h1};rw[this _ (λr=>by cases r<;>rfl)];rfl};have l:=i.length;refine⟨_,hm,?_⟩;match vs,g,i,l with| [],[],_,_=>{exact⟨[],rfl,rfl⟩}| [v],[v'],i,_=>{obtain⟨I,b',o,p,J⟩:=i;cases o;exact p}| v::u::vs,v'::t::g,i,_=>{have:¬((⟨v'::t::g⟩:Array Value).size=1):=by{simp};rw[dif_neg this];exact⟨_,rfl,i⟩}
def mg(C:Ctx)(P:Program)(f:FuncId)(o:List Value->au->Option (Value×au)):Prop:=∀args h v j,o args h=some (v,j)->fu h j/\
 ((∀i b,h.get i=some b->i<h.next)->∀σ w args',kv C σ->cM σ h.get w->aV σ args args'->(∀i,h.next<=i->i<j.next->σ i=none)->
  Calls P f ⟨args'⟩ w λp l=>∃v' g,p=.returned v'/\aX g v v'/\cM g j.get l/\Ev σ h.get h.next w g j.get j.next l)
def eE(C:Ctx)(P:Program):Prop:=∀f g,C.fact f=some g->mg C P f g
theorem Lt{cp:Ba}(g:pK C P cp){ops:List Oper}{o:Oper}{e:Env}{h i:au}(q:vS C cp ops o e h=some i):fu h i:=by
 unfold vS at q;split at q;{split at q;{split at q;{rename_i t _;cases j:Nat.beq t C.jN with| true=>{rw[j] at q;cases q;exact fu.refl _}| false=>{rw[j] at q;cases q}};{cases q}};{split at q;{exact g.gY _ _ _ _ q};{cases q}}};{cases q}
theorem Nv(ok:C.Ok P){cp:Ba}(J:pK C P cp){ops:Array Oper}{o:Oper}{i:Nat}(hi:ops[i]?=some o){e:Env}{h l:au}(q:vS C cp ops.toList o e h=some l)
  {σ:bD} {a:Act} {w:World} (hw:∀i b,h.get i=some b->i<h.next) (hg:kv C σ) (s:cM σ h.get w) (he:fg σ e a) (hf:∀i,h.next<=i->i<l.next->σ i=none)
  {Q:Exit->Act->World->Prop} {K:Act->World->Prop}
  (hQ:∀g p,fg g e a->cM g l.get p->Ev σ h.get h.next w g l.get l.next p->Q (.panic (wK C)) a p):wpOp P ops Q i K a w:=by
 unfold wpOp;rw[hi];simp only;unfold vS at q;have r:=he.JA hg;split at q;{rename_i j;rw[DR he j,n0 rfl];left;unfold Oper.wp;split at q;{rename_i x I;split at q;{rename_i t hv;cases R:Nat.beq t C.jN with| false=>{rw[R] at q;cases q}| true=>{rw[R] at q;cases q;have ht:=Mr R;subst ht;have h1:o.op=.panic x:=by{revert I;unfold ux;split;{rename_i y hy;intro I;cases I;exact hy};{intro I;cases I}};have h2:a.eval x=xE C:=by{obtain⟨u,U,cs,h4,h5⟩:=r x _ hv;rw[U,h4,show cs=[] from h5];rfl};have U:(execOp a.eval o).run P w=.halt (.panic (xE C)) w:=by{unfold execOp;rw[h1];simp only[h2,xE,Instr.panic,goPanic];rfl};rw[U];exact hQ σ w he s (Ev.refl _ _ _ _)}};{cases q}};{split at q;{rename_i f args ho;obtain⟨args',r1,r2⟩:=sR ok ho r s;rw[r1];simp only[Oper.upon];refine(J.run f args h l q hw σ w args' hg s r2 hf).mono ?_;rintro en p ⟨rfl,g,r4,r5⟩;exact hQ g p (he.mono (r5.le hf)) r4 r5};{cases q}}};{cases q}
theorem de.then{σ g:bD}{h h1 l:au}{w p:World}{df:List Deferred}(r3:Ev σ h.get h.next w g h1.get h1.next p)(i:fu h h1)(j:fu h1 l){x:Ex}{r:Env}{ex:Exit}{t:Act}{I:World}
  (hp:de C g h1 p df x r l ex t I):de C σ h w df x r l ex t I:=by
 obtain⟨J,R,o,U,p4,p5⟩:=hp;exact⟨J,R,o,U,p4,r3.trans p5 i.next j.next⟩
theorem J6.next{σ g:bD}{h h1 p:au}{w r:World}{e I:Env}{a J:Act}(hp:J6 C σ h p w e a)(j:fu h h1)(l:fu h1 p)(r1:fg g I J)(r2:cM g h1.get r)
  (r3:Ev σ h.get h.next w g h1.get h1.next r):J6 C g h1 p r I J where
 wf:=j.wf hp.wf
 rh:=hp.rh.mono (r3.le λi o t=>hp.fresh i o (Ti t l.next))
 oP:=r2
 env:=r1
 fresh:=λi o t=>by
  rw[r3.sig i (.inr o)];exact hp.fresh i (AS j.next o) t
theorem J6.first{σ:bD}{h h1 j:au}{w:World}{e:Env}{a:Act}(hp:J6 C σ h j w e a)(g:fu h1 j):J6 C σ h h1 w e a:=
 ⟨hp.wf,hp.rh,hp.oP,hp.env,λi l o=>hp.fresh i l (Ti o g.next)⟩
theorem j4:iF C P λ_ _ _=>none:=iF.mk (λ_ _ _ _ _ q=>by cases q) (λ_ _ _ _ _ q=>by cases q)
theorem mV:pK C P λ_ _ _=>none:=⟨λ_ _ _ _ q=>(by cases q),λ_ _ _ _ q=>(by cases q)⟩
theorem jj(ok:C.Ok P){cal:oM}(l:iF C P cal){cp:Ba}(g:pK C P cp){ops:List Oper}:∀(rest:List Oper) (e j:Env) (h i:au) (b:Bool),lD C cal cp ops rest e h=some (b,j,i)->fu h i
 | [],e,j,h,i,b,q=>by cases q;exact fu.refl _
 | o::rest,e,j,h,i,b,q=>by{unfold lD at q;split at q;{rename_i p h1 hs;exact(jc ok l hs).trans (jj ok l g rest _ _ _ _ _ q)};{split at q;{rename_i hs;cases q;exact Lt g hs};{cases q}}}
theorem sD(ok:C.Ok P){g:HJ}(j:ui C P g){r:Value}{f:FuncId}{args:List Value}{h l:au}(q:lN C g r f args h=some l):fu h l:=by
 unfold lN at q;split at q;{cases q};{split at q;{rename_i fn _ _ o os rest _;obtain⟨_,q⟩:=gX q;split at q;{rename_i t h1 hs;have p:=jj ok j4 mV _ _ _ _ _ _ hs;split at q;{rename_i i;cases q;exact p.trans (j.gY _ _ _ _ _ _ i)};{rename_i i;cases q;exact p.trans (j.gY _ _ _ _ _ _ i)};{cases q}};{cases q}};{cases q}}
theorem jz{α β:Type}{o:Option α}{f:α->β}{b:β}(h:o.map f=some b):∃a,o=some a/\f a=b:=by
 cases o with| none=>{cases h}| some a=>{exact⟨a,rfl,aE h⟩}
theorem A1(ok:C.Ok P){j:HJ}(i:ui C P j):∀(c:Code) (e t:Env) (h l:au),ix C j c e h=some (t,l)->fu h l:=by
 intro c e t h l q;induction c generalizing e h with| seq a rest _ J=>{unfold ix at q;split at q;{rename_i ops pre o fo _;split at q;{rename_i U h1 hs;have I:=jj ok j4 mV _ _ _ _ _ _ hs;split at q;{split at q;{cases q};{rename_i g;obtain⟨R,p,r⟩:=jz q;cases r;exact I.trans ((i.gY _ _ _ _ _ _ g).trans (sD ok i p))};{rename_i g;obtain⟨R,p,r⟩:=jz q;cases r;exact I.trans ((i.gY _ _ _ _ _ _ g).trans (sD ok i p))};{cases q}};{cases q}};{cases q}};{split at q;{rename_i g;exact(i.gY _ _ _ _ _ _ g).trans (J _ _ q)};{rename_i g;cases q;exact i.gY _ _ _ _ _ _ g};{cases q}}}| _=>{cases q}
theorem I5(ok:C.Ok P){cal:oM}(g:iF C P cal){cp:Ba}(R:pK C P cp){ops:Array Oper}{Q:Exit->Act->World->Prop}(l2:List Nat):∀(rest:List Oper) (l:List Nat) (e U:Env) (h r:au) (σ:bD) (a:Act) (w:World),
  l.map (λi=>ops[i]?)=rest.map some->lD C cal cp ops.toList rest e h=some (false,U,r)->
  (∀i b,h.get i=some b->i<h.next)->kv C σ->cM σ h.get w->fg σ e a->(∀i,h.next<=i->i<r.next->σ i=none)->
  (∀t a' w',fg t U a'->a'.defers=a.defers->cM t r.get w'->Ev σ h.get h.next w t r.get r.next w'->wpOps P ops Q l2 a' w')->wpOps P ops Q (l++l2) a w
 | [],l,e,U,h,r,σ,a,w,I,q,hw,hg,s,he,hf,hQ=>by{have:l=[]:=by{simpa using I};subst this;cases q;exact hQ σ a w he rfl s (Ev.refl _ _ _ _)}
 | o::rest,l,e,U,h,r,σ,a,w,I,q,hw,hg,s,he,hf,hQ=>by{cases l with| nil=>{cases I}| cons i l=>{simp only[y2,T1] at I;unfold lD at q;rw[TI,wpOps_cons];split at q;{rename_i e1 h1 hs;have j:=jc ok g hs;have p:=jj ok g R _ _ _ _ _ _ q;refine D7 ok g I.1 hs hw hg s he (λi h1 J=>hf i h1 (Ti J p.next)) ?_;intro ag a1 w1 r1 r2 r3 r4;have hle:=r4.le (λi h1 J=>hf i h1 (Ti J p.next));refine I5 ok g R l2 rest l e1 U h1 r ag a1 w1 I.2 q (j.wf hw) (hg.mono hle) r3 r1 (λi J h3=>?_) ?_;{rw[r4.sig i (.inr J)];exact hf i (AS j.next J) h3};{intro an a2 w2 r5 r6 r7 r8;exact hQ an a2 w2 r5 (r6.trans r2) r7 (r4.trans r8 j.next p.next)}};{split at q;{cases q};{cases q}}}}
theorem rJ:∀{ops pre:List Oper} {o:Oper} {fo:Operand},lg ops=some (pre,o,fo)->ops=pre++[o]/\xQ o=some fo
 | [],_,_,_,h=>by cases h
 | [o],pre,j,fo,h=>by{unfold lg at h;obtain⟨f,h1,g⟩:=jz h;cases g;exact⟨rfl,h1⟩}
 | o::p::os,pre,j,fo,h=>by{unfold lg at h;obtain⟨r,h1,g⟩:=jz h;obtain⟨i,I,f3⟩:=r;cases g;obtain⟨l,t⟩:=rJ h1;exact⟨by rw[l];rfl,t⟩}
theorem E3{a:Code}{ops pre:List Oper}{o:Oper}{fo:Operand}(h:pt a=some (ops,pre,o,fo)):∃id,a=.region id ⟨ops⟩ false/\ops=pre++[o]/\xQ o=some fo:=by
 unfold pt at h;split at h;{rename_i id g;obtain⟨r,h1,i⟩:=jz h;cases i;exact⟨id,rfl,rJ h1⟩};{cases h}
inductive wW(C:Ctx):FrameMode->Value->FrameMode->Prop
 | no:wW C .returning .nilIface .returning
 | yes:wW C (.panicking (wK C)) (xE C) (.panicking [{ v:=xE C,recovered:=true }])
theorem wW.settle{u i:FrameMode}{g:Value}(h:wW C u g i):settle i=.returning/\u≠.run/\∀σ,aX σ g g:=by
 cases h with| no=>{exact⟨rfl,(by simp),λσ=>rfl⟩}| yes=>{exact⟨rfl,(by simp),λσ=>⟨.agg ⟨[]⟩,rfl,[],rfl,rfl⟩⟩}
theorem wW.run{u i:FrameMode}{j:Value}(h:wW C u j i)(c:Frame)(cs:List Frame)(g:c.mode=u) :
  (match recoverD (c::cs) with | some (v,cs')=>(v,cs') | none=>(.nilIface,c::cs))=(j,{ c with mode:=i }::cs):=by
 cases h with| no=>{have l:({ c with mode:=.returning }:Frame)=c:=by{rw[<-g]};rw[l];unfold recoverD;simp only[g]}| yes=>{unfold recoverD;simp only[g,wK]}
theorem Iq(ok:C.Ok P){ops:Array Oper}{Q:Exit->Act->List Frame->World->Prop}{cs:List Frame}:∀(rest:List Oper) (l:List Nat) (e e':Env) (h t:au) (σ:bD) (a:Act) (w:World),
  l.map (λi=>ops[i]?)=rest.map some->lD C (λ_ _ _=>none) (λ_ _ _=>none) ops.toList rest e h=some (false,e',t)->
  (∀i b,h.get i=some b->i<h.next)->kv C σ->cM σ h.get w->fg σ e a->(∀i,h.next<=i->i<t.next->σ i=none)->
  (∀I a' J,fg I e' a'->a'.defers=a.defers->cM I t.get J->Ev σ h.get h.next w I t.get t.next J->Q .normal a' cs J)->wpOpsS P ops Q l a cs w
 | [],l,e,e',h,t,σ,a,w,R,q,hw,hg,s,he,hf,hQ=>by{have:l=[]:=by{simpa using R};subst this;cases q;exact hQ σ a w he rfl s (Ev.refl _ _ _ _)}
 | o::rest,l,e,e',h,t,σ,a,w,R,q,hw,hg,s,he,hf,hQ=>by{cases l with| nil=>{cases R}| cons i l=>{simp only[y2,T1] at R;unfold lD at q;unfold wpOpsS;rw[R.1];simp only;split at q;{(rename_i e1 h1 hs;have j:=jc ok j4 hs;have p:=jj ok j4 mV _ _ _ _ _ _ q;have next:∀r a1 w1,fg r e1 a1->a1.defers=a.defers->cM r h1.get w1->Ev σ h.get h.next w r h1.get h1.next w1->wpOpsS P ops Q l a1 cs w1:=by{intro r a1 w1 r1 r2 r3 r4;have hle:=r4.le (λi h1 U=>hf i h1 (Ti U p.next));refine Iq ok rest l e1 e' h1 t r a1 w1 R.2 q (j.wf hw) (hg.mono hle) r3 r1 (λi U h3=>?_) ?_;{rw[r4.sig i (.inr U)];exact hf i (AS j.next U) h3};{intro ao a2 w2 r5 r6 r7 r8;exact hQ ao a2 w2 r5 (r6.trans r2) r7 (r4.trans r8 j.next p.next)}});cases g:lI ops.toList e o with| none=>{unfold cq at hs;rw[g] at hs;cases hs}| some b=>{rw[DR he g];cases b with| false=>{unfold cq at hs;rw[g] at hs;cases hs;rw[nw (by simp)];exact next σ _ w (he.put (eT σ)) (by cases o.dst<;>rfl) s (Ev.refl _ _ _ _)}| true=>{(rw[n0 rfl];have:=IG (Q:=λe a' J=>Q e a' cs J) ok j4 hs g hw hg s he (λi h1 U=>hf i h1 (Ti U p.next)) next);unfold Oper.wp at this;split;{rename_i J ae;rw[ae] at this;exact this.elim};{exact this}}}};{split at q;{cases q};{cases q}}}}
theorem JP(ok:C.Ok P){al:HJ}(hx:ui C P al){u u':FrameMode}{rv:Value}(hr:wW C u rv u'){f:FuncId}{args:List Value}{h r:au}(q:lN C al rv f args h=some r)
  {σ:bD} {w:World} {args':List Value} (hw:∀i b,h.get i=some b->i<h.next) (hg:kv C σ) (s:cM σ h.get w) (ha:aV σ args args') (hf:∀i,h.next<=i->i<r.next->σ i=none) :
  CallsD P f ⟨args'⟩ u w λen u2 t=>u2=u'/\(∃v,en=.returned v)/\∃g,cM g r.get t/\Ev σ h.get h.next w g r.get r.next t:=by
 have q0:=q;unfold lN at q;split at q
 ·cases q
 ·rename_i fn a8;split at q
  ·rename_i id o os rest hb;obtain⟨R,q⟩:=gX q;simp only[tx,List.isEmpty_iff] at R;obtain⟨R,aa⟩:=R;refine callsD_of_wpS (ok.func f fn a8) hb λj cs hc=>wpS_seq (wpS_region ?_);have av:=te fn.ntmps ha;have a9:=hr.settle.2.2 σ;have p:=hr.run j cs hc;have ax:o.guard=none/\∀ρ w,(execOp ρ o).run P w=.ok .recover w:=by
    unfold vQ at R;split at R
    ·rename_i ba bb;exact⟨ba,λρ w=>by simp[execOp,bb,resolve,invoke,builtin]⟩
    ·cases R
   have key:∀x e2,(∃e1 h1,lD C (λ_ _ _=>none) (λ_ _ _=>none) (o::os) os ((iO fn.ntmps args).put o.dst rv) h=some (false,e1,h1)/\al rest e1 h1=some (x,e2,r))->(x=.normal\/x=.ret)->
     wpOpsS P ⟨o::os⟩ (Exit.thenS (rest.wpS P (bodyPostS P fn j cs λen u2 t=>u2=u'/\(∃v,en=.returned v)/\∃g,cM g r.get t/\Ev σ h.get h.next w g r.get r.next t)) (bodyPostS P fn j cs λen u2 t=>u2=u'/\(∃v,en=.returned v)/\∃g,cM g r.get t/\Ev σ h.get h.next w g r.get r.next t))
      (List.range (⟨o::os⟩:Array Oper).size) { tmps:=⟨args'⟩++Array.replicate (fn.ntmps-(⟨args'⟩:Array Value).size) undef,defers:=[] } (j::cs) w:=by
    rintro x e2 ⟨e1,h1,hs,U⟩ bc;have I:=jj ok j4 mV _ _ _ _ _ _ hs;have J:=hx.gY _ _ _ _ _ _ U;have ae:List.range (⟨o::os⟩:Array Oper).size=0::(List.range os.length).map (·+1):=by
     show List.range (os.length+1)=_;rw[List.range_succ_eq_map]
    rw[ae];unfold wpOpsS;have h0:(⟨o::os⟩:Array Oper)[0]?=some o:=rfl;simp only[h0,Region.wanted,ax.1,TY,ax.2];have ay:((List.range os.length).map (·+1)).map (λi=>(⟨o::os⟩:Array Oper)[i]?)=os.map some:=by
     apply Tn;intro i;simp only[Us,zy];by_cases hi:i<os.length
     ·rw[TN hi];simp[hi]
     ·rw[zE (by simp;omega),zE (by omega)];rfl
    have af:∀cs',cs'={ j with mode:=u' }::cs->wpOpsS P ⟨o::os⟩ (Exit.thenS (rest.wpS P (bodyPostS P fn j cs λen u2 t=>u2=u'/\(∃v,en=.returned v)/\∃g,cM g r.get t/\Ev σ h.get h.next w g r.get r.next t)) (bodyPostS P fn j cs λen u2 t=>u2=u'/\(∃v,en=.returned v)/\∃g,cM g r.get t/\Ev σ h.get h.next w g r.get r.next t))
      ((List.range os.length).map (·+1)) (Act.put { tmps:=⟨args'⟩++Array.replicate (fn.ntmps-(⟨args'⟩:Array Value).size) undef,defers:=[] } o.dst rv) cs' w:=by
     rintro _ rfl;refine Iq ok os _ _ e1 h h1 σ _ w ay hs hw hg s (av.put a9) (λi h2 h3=>hf i h2 (Ti h3 J.next)) ?_
     intro bf a1 w1 r1 r2 r3 r4;have hle:=r4.le (λi h1 h2=>hf i h1 (Ti h2 J.next))
     refine wpS_of_wp (wp_mono (hx.run _ _ _ _ _ _ U bf w1 a1 ⟨I.wf hw,hg.mono hle,r3,r1,λi h2 h3=>by
      rw[r4.sig i (.inr h2)];exact hf i (AS I.next h2) h3⟩) ?_)
     rintro ex a2 w2 ⟨rfl,bi,a0,g1,g2,g3⟩;have a3:a2.defers=[]:=by rw[bi,r2];cases o.dst<;>rfl
     have ao:∃v,(results fn a2.tmps).run P w2=.ok v w2:=by
      refine⟨.tuple ⟨[]⟩,?_⟩;have:fn.results=⟨[]⟩:=by
       cases hh:fn.results with | mk l=>rw[hh] at aa;simp only at aa;rw[aa]
      simp[results,this]
     obtain⟨v,hv⟩:=ao;rcases bc with rfl | rfl
     ·exact⟨a3,u',rfl,v,hv,rfl,⟨v,rfl⟩,a0,g2,r4.trans g3 I.next J.next⟩
     ·exact⟨a3,u',rfl,v,hv,rfl,⟨v,rfl⟩,a0,g2,r4.trans g3 I.next J.next⟩
    split
    ·rename_i v cs' ar;rw[ar] at p;simp only[Tk] at p;obtain⟨rfl,rfl⟩:=p;exact af _ rfl
    ·rename_i ar;rw[ar] at p;simp only[Tk] at p;obtain⟨rfl,bn⟩:=p;exact af _ bn
   split at q
   ·rename_i e1 h1 hs;split at q
    ·rename_i e2 h2 U;cases q;exact key _ _ ⟨e1,h1,hs,U⟩ (.inl rfl)
    ·rename_i e2 h2 U;cases q;exact key _ _ ⟨e1,h1,hs,U⟩ (.inr rfl)
    ·cases q
   ·cases q
  ·cases q
theorem J0(ok:C.Ok P){U:HJ}(hx:ui C P U){fn:Func}{R:Ending->World->Prop}:∀(c:Code) (e e':Env) (h h':au),ix C U c e h=some (e',h')->∀{σ:bD} {w:World} {a:Act},J6 C σ h h' w e a->a.defers=[]->
  (∀ad a' w',fg ad e' a'->cM ad h'.get w'->Ev σ h.get h.next w ad h'.get h'.next w'->∃v,(results fn a'.tmps).run P w'=.ok v w'/\R (.returned v) w')->c.wp P (bodyPostD P fn R) a w:=by
 intro c e e' h h' q;induction c generalizing e h with| seq a0 rest _ ih=>{(intro σ w a hp hd hR;have next:∀e1 h1,U a0 e h=some (.normal,e1,h1)->ix C U rest e1 h1=some (e',h')->(Code.seq a0 rest).wp P (bodyPostD P fn R) a w:=by{intro e1 h1 hr hq;have l:=hx.gY _ _ _ _ _ _ hr;have j:=A1 ok hx _ _ _ _ _ hq;refine wp_seq (wp_mono (hx.run _ _ _ _ _ _ hr σ w a (hp.first j)) ?_);rintro ex a1 w1 ⟨rfl,a4,r,r1,r2,r3⟩;exact ih _ _ hq (hp.next l j r1 r2 r3) (by rw[a4];exact hd) λad a' w' g1 g2 g3=>hR ad a' w' g1 g2 (r3.trans g3 l.next j.next)});unfold ix at q;split at q;{rename_i ops pre o fo bv;obtain⟨id,rfl,ae,ao⟩:=E3 bv;{split at q;{rename_i e1 h1 hs;have l:=jj ok j4 mV _ _ _ _ _ _ hs;split at q;{rename_i f ys bx;have main:∀x e2 h2 u rv u',U rest (e1.put o.dst bX) h1=some (x,e2,h2)->lN C U rv f ys h2=some h'->e2=e'->wW C u rv u'->(∀a' w',Leaves P fn a'.tmps R a'.defers u w'->bodyPostD P fn R (x.to C) a' w')->(Code.seq (.region id ⟨ops⟩ false) rest).wp P (bodyPostD P fn R) a w:=by{rintro x e2 h2 u rv u' hr t rfl af a5;have j:=hx.gY _ _ _ _ _ _ hr;have J:=sD ok hx t;have ar:List.range (⟨ops⟩:Array Oper).size=List.range pre.length++[pre.length]:=by{show List.range ops.length=_;rw[ae,sj];exact Uk};refine wp_seq (wp_region ?_);rw[ar];refine I5 ok j4 mV [pre.length] pre _ e e1 h h1 σ a w ?_ hs hp.wf hp.rh hp.oP hp.env (λi g1 g2=>hp.fresh i g1 (Ti g2 (AS j.next J.next))) ?_;{apply Tn;intro i;simp only[zy];by_cases hi:i<pre.length;{rw[TN hi];have:(⟨ops⟩:Array Oper)[i]?=pre[i]?:=by{simp[ae,AT hi]};simp only[Tq,this,To hi]};{rw[zE (by simp;omega),zE (by omega)];rfl}};intro r a1 w1 r1 r2 r3 r4;have hle:=r4.le (λi g1 g2=>hp.fresh i g1 (Ti g2 (AS j.next J.next)));have ho:(⟨ops⟩:Array Oper)[pre.length]?=some o:=by{simp[ae]};obtain⟨p,b2,b3⟩:∃p,a1.eval fo=.func (.func f) ⟨[]⟩ ⟨p⟩/\aV r ys p:=by{obtain⟨ct,p,q1,q2,q3⟩:=(r1.JA (hp.rh.mono hle)) fo _ bx;cases q2;exact⟨p,q1,q3⟩};have bd:o.guard=none/\(execOp a1.eval o).run P w1=.ok (.defer { target:=.fn (.func f) ⟨p⟩,args:=#[] }) w1:=by{unfold xQ at ao;split at ao;{rename_i g b4 b5;cases ao;exact⟨b4,by simp[execOp,b5,resolve,b2,Deferred.ofValue]⟩};{cases ao}};simp only[wpOps,ho,Region.wanted,bd.1,TY];left;unfold Oper.wp;rw[bd.2,Oper.upon_defer];let a2:Act:=({ a1 with defers:={ target:=.fn (.func f) ⟨p⟩,args:=#[] }::a1.defers }).put o.dst undef;have b6:fg r (e1.put o.dst bX) a2:=by{have h0:fg r e1 { a1 with defers:={ target:=.fn (.func f) ⟨p⟩,args:=#[] }::a1.defers }:=⟨r1.size,r1.rel⟩;exact h0.put (eT r)};have b7:a2.defers=[{ target:=.fn (.func f) ⟨p⟩,args:=#[] }]:=by{show (({ a1 with defers:={ target:=.fn (.func f) ⟨p⟩,args:=#[] }::a1.defers }:Act).put o.dst undef).defers=_;rw[r2,hd];cases o.dst<;>simp[Act.put]};show rest.wp P (bodyPostD P fn R) a2 w1;have bf:J6 C r h1 h2 w1 (e1.put o.dst bX) a2:=⟨l.wf hp.wf,hp.rh.mono hle,r3,b6,λi g1 g2=>by{rw[r4.sig i (.inr g1)];exact hp.fresh i (AS l.next g1) (Ti g2 J.next)}⟩;refine wp_mono (hx.run _ _ _ _ _ _ hr r w1 a2 bf) ?_;rintro ex a3 w3 ⟨rfl,b8,cx,g1,g2,g3⟩;refine a5 a3 w3 ?_;rw[b8,b7];have ay:=g3.le bf.fresh;have a8:=r4.trans g3 l.next j.next;have b9:(invoke (.fn (.func f) ⟨p⟩) #[]).run P w3=.ok (.enter f ⟨p⟩) w3:=by{have ca:∃I,C.func f=some I/\I.body.isSome=true:=by{unfold lN at t;split at t;{cases t};{rename_i I bi;refine⟨I,bi,?_⟩;cases cc:I.body with| none=>{rw[cc] at t;cases t}| some _=>{rfl}}};obtain⟨I,q1,q2⟩:=ca;have:=ok.call f I q1 q2 ⟨p⟩ w3;simp only[invoke];rw[show (#[]++(⟨p⟩:Array Value))=⟨p⟩ from by simp];exact this};refine leaves_cons af.settle.2.1 b9 (CallsD.mono (JP ok hx af t (j.wf (l.wf hp.wf)) ((hp.rh.mono hle).mono ay) g2 (b3.mono ay) (λi k1 k2=>?_)) ?_);{rw[a8.sig i (.inr k1)];exact hp.fresh i (AS l.next (AS j.next k1)) k2};{rintro en u2 w4 ⟨rfl,⟨v,rfl⟩,cf,k1,k2⟩;simp only;rw[af.settle.1];have bn:=k2.le (λi k1 k2=>by{rw[a8.sig i (.inr k1)];exact hp.fresh i (AS l.next (AS j.next k1)) k2});exact hR cf a3 w4 (g1.mono bn) k1 (a8.trans k2 (AS l.next j.next) J.next)}};split at q;{cases q};{rename_i e2 h2 hr;obtain⟨h3,q1,q2⟩:=jz q;cases q2;exact main _ _ _ _ _ _ hr q1 rfl .yes λa' w' hh=>hh};{rename_i x e2 h2 ch cj hr;obtain⟨h3,q1,q2⟩:=jz q;cases q2;refine main _ _ _ _ _ _ hr q1 rfl .no λa' w' hh=>?_;cases x with| normal=>{exact hh}| ret=>{exact hh}| exit i=>{exact absurd rfl (ch i)}| jN=>{exact absurd rfl cj}};{cases q}};{cases q}};{cases q}}};{split at q;{rename_i hr;exact next _ _ hr q};{rename_i hr;cases q;refine wp_seq (wp_mono (hx.run _ _ _ _ _ _ hr σ w a hp) ?_);rintro ex a1 w1 ⟨rfl,a4,r,r1,r2,r3⟩;show Leaves P fn a1.tmps R a1.defers .returning w1;rw[a4,hd];exact hR r a1 w1 r1 r2 r3};{cases q}}}| _=>{cases q}
theorem Iu(ok:C.Ok P)(I:eE C P){J:HJ}(hx:ui C P J):iF C P (cC C J):=by
 refine iF.mk ?_ ?_
 ·intro f args h v R q;unfold cC at q;split at q
  ·rename_i kf o;exact(I f kf o args h v R q).1
  split at q
  ·cases q
  ·split at q
   ·cases q
   ·rename_i fn p _ c hb;cases g:C.DE f with
    | true=>
     rw[g] at q;simp only[xf] at q;split at q
     ·rename_i t;split at q
      ·cases q;exact A1 ok hx _ _ _ _ _ t
      ·cases q
     ·cases q
    | false=>
    rw[g] at q;simp only[zm] at q;split at q
    ·cases q
    ·cases q
    ·rename_i x e h1 _ _ i;split at q
     ·cases q;exact hx.gY _ _ _ _ _ _ i
     ·cases q
    ·cases q
 ·intro f args h v R q hw σ w args' hg s hr hf;unfold cC at q;split at q
  ·rename_i kf o;exact(I f kf o args h v R q).2 hw σ w args' hg s hr hf
  split at q
  ·cases q
  ·rename_i fn p;split at q
   ·cases q
   ·rename_i c hb;cases g:C.DE f with
    | true=>
     rw[g] at q;simp only[xf] at q;split at q
     ·rename_i e2 h2 t;split at q
      ·rename_i vs r;cases q;refine calls_of_wp_defers (ok.func f fn p) hb ?_;have j:=te fn.ntmps hr;refine J0 ok hx _ _ _ _ _ t ⟨hw,hg,s,j,hf⟩ rfl λl a' w' r1 r2 r3=>?_;obtain⟨v',p1,p2⟩:=wO ok r1 r2 r;exact⟨v',p1,v',l,rfl,p2,r2,r3⟩
      ·cases q
     ·cases q
    | false=>
    rw[g] at q;simp only[zm] at q;split at q
    ·cases q
    ·cases q
    ·rename_i x e1 h1 an ao i;split at q
     ·rename_i vs r;cases q;refine calls_of_wp (ok.func f fn p) hb ?_;have j:=te fn.ntmps hr;have U:J6 C σ h R w (iO fn.ntmps args) _:=⟨hw,hg,s,j,hf⟩;refine wp_mono (hx.run c _ h x e1 R i σ w _ U) ?_;rintro ex a' w' ⟨rfl,t,l,r1,r2,r3⟩;obtain⟨v',p1,p2⟩:=wO ok r1 r2 r;cases x with
      | normal=>exact⟨t,v',p1,v',l,rfl,p2,r2,r3⟩
      | ret=>exact⟨t,v',p1,v',l,rfl,p2,r2,r3⟩
      | exit id=>exact absurd rfl (an id)
      | jN=>exact absurd rfl ao
     ·cases q
    ·cases q
theorem Pr(ok:C.Ok P){i:HJ}(t:ui C P i):pK C P (gH C i):=by
 constructor;{intro f args h o q;unfold gH at q;split at q;{cases q};split at q;{cases q};{split at q;{cases q};{obtain⟨_,q⟩:=pF q;split at q;{rename_i g;cases q;exact t.gY _ _ _ _ _ _ g};{cases q}}}};{intro f args h o q hw σ w args' I s J R;unfold gH at q;split at q;{cases q};split at q;{cases q};{rename_i fn p;split at q;{cases q};{rename_i c U;obtain⟨_,q⟩:=pF q;split at q;{rename_i e1 h1 g;cases q;refine calls_of_wp (ok.func f fn p) U ?_;have j:=te fn.ntmps J;have l:J6 C σ h o w (iO fn.ntmps args) _:=⟨hw,I,s,j,R⟩;refine wp_mono (t.run c _ h .jN e1 o g σ w _ l) ?_;rintro ex a' w' ⟨rfl,hd,r,r1,r2,r3⟩;exact⟨hd,rfl,r,r2,r3⟩};{cases q}}}}
theorem Ij(ok:C.Ok P){cal:oM}(g:iF C P cal){cp:Ba}(I:pK C P cp){ops:Array Oper}{Q:Exit->Act->World->Prop}:∀(rest:List Oper) (l:List Nat) (e U:Env) (h t:au) (σ:bD) (a:Act) (w:World) (b:Bool),
  l.map (λi=>ops[i]?)=rest.map some->lD C cal cp ops.toList rest e h=some (b,U,t)->
  (∀i b,h.get i=some b->i<h.next)->kv C σ->cM σ h.get w->fg σ e a->(∀i,h.next<=i->i<t.next->σ i=none)->
  (∀j a' w',fg j U a'->a'.defers=a.defers->cM j t.get w'->Ev σ h.get h.next w j t.get t.next w'->Q (Ex.to C (bif b then .jN else .normal)) a' w')->wpOps P ops Q l a w
 | [],l,e,U,h,t,σ,a,w,b,J,q,hw,hg,s,he,hf,hQ=>by{have:l=[]:=by{simpa using J};subst this;cases q;exact hQ σ a w he rfl s (Ev.refl _ _ _ _)}
 | o::rest,l,e,U,h,t,σ,a,w,b,J,q,hw,hg,s,he,hf,hQ=>by{cases l with| nil=>{cases J}| cons i l=>{simp only[y2,T1] at J;unfold lD at q;rw[wpOps_cons];split at q;{rename_i e1 h1 hs;have p:=jc ok g hs;have r:=jj ok g I _ _ _ _ _ _ q;refine D7 ok g J.1 hs hw hg s he (λi h1 R=>hf i h1 (Ti R r.next)) ?_;intro af a1 w1 r1 r2 r3 r4;have hle:=r4.le (λi h1 R=>hf i h1 (Ti R r.next));refine Ij ok g I rest l e1 U h1 t af a1 w1 b J.2 q (p.wf hw) (hg.mono hle) r3 r1 (λi R h3=>?_) ?_;{rw[r4.sig i (.inr R)];exact hf i (AS p.next R) h3};{intro al a2 w2 r5 r6 r7 r8;exact hQ al a2 w2 r5 (r6.trans r2) r7 (r4.trans r8 p.next r.next)}};{split at q;{rename_i h1 hs;cases q;exact Nv ok I J.1 hs hw hg s he hf λj w' r1 r2 r3=>hQ j a w' r1 rfl r2 r3};{cases q}}}}
theorem JT(ops:Array Oper):(List.range ops.size).map (λi=>ops[i]?)=ops.toList.map some:=by
 apply Tn;intro i;simp only[zy];by_cases hi:i<ops.size;{rw[TN hi];simp[hi]};{rw[zE (by simp;omega),zE (by simp;omega)];rfl}
theorem Hc(ok:C.Ok P){cal:oM}(g:iF C P cal){ops:List Oper}{draw:Bool}{e j:Env}{h i:au}(q:kN C cal ops draw e h=some (j,i)):fu h i:=by
 unfold kN at q;cases draw with| false=>{exact DF ok g _ _ _ _ _ q}| true=>{simp only[xf] at q;split at q;{cases q};{rename_i l;obtain⟨_,q⟩:=gX q;cases q;exact Cc ok g _ _ _ _ _ _ l}}
theorem N2(ok:C.Ok P)(a2:eE C P){ad:HJ}(j:ui C P ad):ui C P (bq C ad):=by
 have o:=Iu ok a2 j;have t:=Pr ok j;have gY:∀c e h x e' I,bq C ad c e h=some (x,e',I)->fu h I:=by{intro c e h x e' I q;unfold bq at q;split at q;{cases q;exact fu.refl _};{rename_i draw;cases draw with| true=>{simp only[xf] at q;split at q;{rename_i J;cases q;exact Hc ok o J};{split at q;{rename_i J;cases q;exact FT ok o t J};{cases q}}}| false=>{simp only[zm] at q;split at q;{rename_i J;cases q;exact jj ok o t _ _ _ _ _ _ J};{cases q}}};{split at q;{rename_i h1;exact(j.gY _ _ _ _ _ _ h1).trans (j.gY _ _ _ _ _ _ q)};{exact j.gY _ _ _ _ _ _ q}};{split at q;{exact j.gY _ _ _ _ _ _ q};{exact j.gY _ _ _ _ _ _ q};{cases q}};{split at q;{rename_i h1;cases q;exact j.gY _ _ _ _ _ _ h1};{exact j.gY _ _ _ _ _ _ q}};{split at q;{rename_i h1;exact(j.gY _ _ _ _ _ _ h1).trans (j.gY _ _ _ _ _ _ q)};{exact j.gY _ _ _ _ _ _ q}};{cases q;exact fu.refl _};{cases q;exact fu.refl _};{cases q}};have R:∀c e h x e' I,bq C ad (.loop c) e h=some (x,e',I)->∀σ w a,J6 C σ h I w e a->pg P c (de C σ h w a.defers x e' I) a w:=by{intro c e h x e' I q σ w a hp;simp only[bq] at q;refine FC ?_;split at q;{rename_i e1 h1 q1;have r:=j.gY _ _ _ _ _ _ q1;have l:=j.gY _ _ _ _ _ _ q;refine wp_mono (j.run _ _ _ _ _ _ q1 σ w a (hp.first l)) ?_;rintro ex a1 w1 ⟨rfl,p,g,r1,r2,r3⟩;show pg P c _ a1 w1;have al:=hp.next r l r1 r2 r3;have:=j.loop c e1 h1 x e' I q g w1 a1 al;exact EC this λex a' w' U=>de.then r3 r l (by rw[p] at U;exact U)};{rename_i aa;refine wp_mono (j.run _ _ _ _ _ _ q σ w a hp) ?_;rintro ex a1 w1 an;obtain⟨rfl,p,g,r1,r2,r3⟩:=an;cases x with| normal=>{exact absurd q (λU=>aa _ _ U)}| exit id=>{exact⟨rfl,p,g,r1,r2,r3⟩}| ret=>{exact⟨rfl,p,g,r1,r2,r3⟩}| jN=>{exact⟨rfl,p,g,r1,r2,r3⟩}}};refine⟨gY,λc e h x e' I q σ w a hp=>?_,R⟩;cases c with| skip=>{cases q;exact wp_skip ⟨rfl,rfl,σ,hp.env,hp.oP,Ev.refl _ _ _ _⟩}| region id ops draw=>{cases draw with| true=>{simp only[bq,xf] at q;split at q;{rename_i e1 h1 J;cases q;refine KF ok o J hp.wf hp.rh hp.oP hp.env hp.fresh λab a' w' r1 r2 r3 r4=>⟨rfl,r2,ab,r1,r3,r4⟩};{split at q;{rename_i J;cases q;exact Hr ok o t J hp.wf hp.rh hp.oP hp.env hp.fresh λab a' w' r1 r2 r3 r4=>⟨rfl,r2,ab,r1,r3,r4⟩};{cases q}}}| false=>{simp only[bq,zm] at q;split at q;{rename_i b e1 h1 J;cases q;exact wp_region (Ij ok o t ops.toList _ e e' h I σ a w b (JT ops) J hp.wf hp.rh hp.oP hp.env hp.fresh λab a' w' r1 r2 r3 r4=>⟨rfl,r2,ab,r1,r3,r4⟩)};{cases q}}}| seq x1 y1=>{simp only[bq] at q;refine wp_seq ?_;split at q;{rename_i e1 h1 q1;have r:=j.gY _ _ _ _ _ _ q1;have l:=j.gY _ _ _ _ _ _ q;refine wp_mono (j.run _ _ _ _ _ _ q1 σ w a (hp.first l)) ?_;rintro ex a1 w1 ⟨rfl,p,g,r1,r2,r3⟩;show y1.wp P _ a1 w1;have al:=hp.next r l r1 r2 r3;refine wp_mono (j.run _ _ _ _ _ _ q g w1 a1 al) λex a' w' U=>de.then r3 r l (by rw[p] at U;exact U)};{rename_i aa;refine wp_mono (j.run _ _ _ _ _ _ q σ w a hp) ?_;rintro ex a1 w1 ⟨rfl,p,g,r1,r2,r3⟩;cases x with| normal=>{exact absurd q (λU=>aa _ _ U)}| exit id=>{exact⟨rfl,p,g,r1,r2,r3⟩}| ret=>{exact⟨rfl,p,g,r1,r2,r3⟩}| jN=>{exact⟨rfl,p,g,r1,r2,r3⟩}}}| cond cc x1 y1=>{simp only[bq] at q;have av:=hp.env.JA hp.rh;split at q;{rename_i hc;have:a.eval cc=.bool true:=av cc _ hc;exact wp_cond_true this (j.run _ _ _ _ _ _ q σ w a hp)};{rename_i hc;have:a.eval cc=.bool false:=av cc _ hc;exact wp_cond_false this (j.run _ _ _ _ _ _ q σ w a hp)};{cases q}}| block id b=>{simp only[bq] at q;refine wp_block ?_;split at q;{rename_i i e1 h1 q1;cases q;refine wp_mono (j.run _ _ _ _ _ _ q1 σ w a hp) ?_;rintro ex a1 w1 ⟨rfl,p,g,r1,r2,r3⟩;simp only[Ex.to,Exit.inBlock];cases hi:(i==id) with| true=>{have:i=id:=by{simpa using hi};rw[n0 this];exact⟨rfl,p,g,r1,r2,r3⟩}| false=>{have:¬i=id:=by{simpa using hi};rw[nw this];exact⟨rfl,p,g,r1,r2,r3⟩}};{rename_i aa;refine wp_mono (j.run _ _ _ _ _ _ q σ w a hp) ?_;rintro ex a1 w1 ⟨rfl,p,g,r1,r2,r3⟩;cases x with| normal=>{exact⟨rfl,p,g,r1,r2,r3⟩}| exit i=>{exact absurd q (λU=>aa _ _ _ U)}| ret=>{exact⟨rfl,p,g,r1,r2,r3⟩}| jN=>{exact⟨rfl,p,g,r1,r2,r3⟩}}}| loop b=>{exact Ao (R b e h x e' I q σ w a hp)}| exit id=>{cases q;exact wp_exit ⟨rfl,rfl,σ,hp.env,hp.oP,Ev.refl _ _ _ _⟩}| ret=>{cases q;exact wp_ret ⟨rfl,rfl,σ,hp.env,hp.oP,Ev.refl _ _ _ _⟩}| _=>{cases q}
theorem IB(ok:C.Ok P)(g:eE C P):∀n,ui C P (exec C n)
 | 0=>⟨λ_ _ _ _ _ _ q=>(by cases q),λ_ _ _ _ _ _ q=>(by cases q),λ_ _ _ _ _ _ q=>(by cases q)⟩
 | n+1=>N2 ok g (IB ok g n)
theorem tH(ok:C.Ok P)(g:eE C P)(n:Nat):iF C P (call C n):=Iu ok g (IB ok g n)
end
end Go.Abs
/-
 Soundness,last part: a program's context,its own small checks,and the runs from arguments alone.
-/
namespace Go.Abs
open Go Go.RowKit
def zB(P:Program)(mask cA:Nat):Ctx:={ info:=P.info?,func:=λi=>P.funcs[i]?,cA:=cA,flat:=λt=>mask.testBit t }
def NU (P:Program):Bool:=P.funcs.toList.all λfn=>!(fn.name == "runtime.NumGoroutine")
def MG:Option TypeDesc->Bool
 | some (.struct g)=>g.toList.all λf=>!(f.name == "_")
 | _=>true
def La(P:Program)(mask:Nat):Bool:=Nat.blt mask (2 ^ P.types.size) &&
 (List.range P.types.size).all λt=>!(mask.testBit t)||(!(P.stoodInHeld t)&&!(P.eqGuardType P.depth t)&&MG ((zB P mask 0).iL t))
theorem LA{P:Program}{mask cA:Nat}(h1:NU P=true)(l:La P mask=true)(r:P.follows .mixedOrders=true):(zB P mask cA).Ok P:=by
 constructor;{intro t i q;exact q};{intro f fn q;exact q};{intro f fn q C args w;have q:P.funcs[f]?=some fn:=q;have I:(fn.name == "runtime.NumGoroutine")=false:=by{have hm:fn∈P.funcs.toList:=by{rw[Uy];exact Array.mem_of_getElem? q};have:=TM.1 h1 fn hm;simpa using this};obtain⟨c,J⟩:=Option.isSome_iff_exists.1 C;have e:(fn.name = "runtime.NumGoroutine")=False:=by{simpa using I};simp[callFunc,q,e,J]};{intro t q;simp only[La,tx] at l;obtain⟨l,R⟩:=l;have q:mask.testBit t=true:=q;have o:t<P.types.size:=by{rcases IN t P.types.size with h | h;{exact h};{have U:mask<2 ^ P.types.size:=by{simpa [Nat.blt_eq] using l};have:mask<2 ^ t:=Ti U (Tt (by decide) h);rw[UD this] at q;cases q}};have j:=TM.1 R t (Tz.2 o);rw[q] at j;simp only[Uz,Bool.false_or,tx,TZ] at j;refine⟨j.1.1,j.1.2,λfs g f hf=>?_⟩;have p:=j.2;have g:(zB P mask 0).iL t=some (.struct fs):=g;rw[g] at p;have:=TM.1 p f hf;simpa using this};{exact r}
def Lw(C:Ctx)(n f:Nat)(args:List Value)(h:au):Bool:=match call C n f args h with
 | some (.bool true,_)=>true
 | _=>false
theorem Ev.below{σ j:bD}{g t:Nat->Option aJ}{n C:Nat}{w p:World}(h:Ev σ g n w j t C p)(o:∀i b,g i=some b->b.ro=true):Below w.heap.size w p where
 os:=h.os
 tape:=h.tape.same
 output:=h.out
 size:=h.size
 block:=λk hk=>h.oL k hk (λi B l I r=>by rw[o i B I] at r;cases r)
section
open Go.ChangeShapes Go.WideShapes
variable {H:Type}{enc:TypeId×Value->H}{P:Program}
theorem Bh{f:Func}{s:ChangeSpec}{apart fresh handsOn again:Bool}{W I:World}{args:Array Value}{v:Value}{J gs:List (DataW H)}{before pa pv:List MemPlace}
  (R:DataW.Whole enc P f.params.toList s.vars apart W args.toList J gs before)
  (o:∀(b:Nat) (C:Nat->Bool) (hd:Bool),DataW.TrodAll enc P I b C hd f.resultTypes.toList (v.resultList f.resultTypes.size) (s.fn H (J++gs)).results [])
  (g:∀C:Nat->Bool,(∀p∈before,C p.block=true)->DataW.TrodAll enc P I 0 C true f.params.toList args.toList (s.fn H (J++gs)).args pa)
  (i:∀C:Nat->Bool,(∀p∈before,C p.block=true)->DataW.TrodVars enc P I C s.vars (s.fn H (J++gs)).vars pv)
  (l:before=pa++pv) (hk:Below W.heap.size W I)
  (U:∀(j:Nat) (t:TypeId) (r:Value),f.resultTypes[j]?=some t->(v.resultList f.resultTypes.size)[j]?=some r->Value.okWide P I .any 0 t r) :
  s.post enc P f apart fresh handsOn again W args v I:=by
 have hold:∀p∈before,(λb=>decide (b<W.heap.size)) p.block=true:=λp hp=>by{simpa using R.lt p hp};have aa:=λp hp=>R.lt p hp;refine⟨J,gs,before,[],pa,pv,R,o _ _ _,g _ hold,i _ hold,World.keptBut_mono (λp hp=>⟨hp,?_⟩) (hk.frame (·∈before)),λ_=>?_⟩;{rw[l,D1] at hp;exact Or.inr hp};{obtain⟨_,_,_,_,_,hz,hn⟩:=R;refine⟨U,_,_,([]++pa)++pv,⟨[]++pa,pv,trodAll_append (g _ (λ_ _=>rfl)) (o _ _ _),i _ (λ_ _=>rfl),rfl,?_,?_⟩,?_⟩;{intro b off hp;have hp:MemPlace.cell b off∈before:=by{rw[l];simpa using hp};rw[hk.frozen (aa _ hp)];exact hz b off hp};{intro ha;have:=hn ha;rw[l] at this;simpa using this};{intro p hp _;rw[l];simpa using hp}}
end
def xq(fA:List (Nat×aJ)):List Value->au->Option (Value×au):=λargs h=>bif args.isEmpty&&fA.all (λp=>lW (h.get p.1) (some p.2)) then some (.bool true,h) else none
def zD{α:Type}:List (Nat×α)->Nat->Option α
 | [],_=>none
 | (f,k)::l,g=>bif Nat.beq f g then some k else zD l g
def OI(P:Program)(mask cA:Nat)(g:Nat)(i:Value)(j:Nat->Bool):Ctx:={ zB P mask cA with jN:=g,Ej:=i,DE:=j }
def NF(P:Program)(mask cA:Nat)(facts:List (Nat×List (Nat×aJ)))(i:Nat:=0)(j:Value:=.nilIface)(l:Nat->Bool:=λ_=>false)(g:Nat->Option (List Value->au->Option (Value×au)):=λ_=>none):Ctx:=
 {OI P mask cA i j l with fact:=λf=>match zD facts f with | some fA=>some (xq fA) | none=>g f }
theorem NL{P:Program}{mask cA:Nat}{facts:List (Nat×List (Nat×aJ))}{i:Nat}{j:Value}{l:Nat->Bool}{g:Nat->Option (List Value->au->Option (Value×au))}(h:(zB P mask cA).Ok P):(NF P mask cA facts i j l g).Ok P:=⟨h.info,h.func,h.call,h.flat,h.mixed⟩
def iP:List (Nat×aJ)->T aJ
 | []=>.e
 | p::l=>(iP l).set p.1 (some p.2)
theorem qx:∀(l:List (Nat×aJ)) (i:Nat) (b:aJ),(iP l).get i=some b->(i,b)∈l
 | [],i,b,h=>by simp[iP,T.get] at h
 | p::l,i,b,h=>by{simp only[iP] at h;rw[T.je] at h;split at h;{rename_i e;cases h;subst e;exact D2 ..};{exact mb _ (qx l i b h)}}
def gQ:Value->Bool
 | .int _ _=>true
 | .bool _=>true
 | _=>false
def s5:aJ->Bool
 | .cells ro cs=>ro&&cs.all gQ
 | .map _=>false
theorem Kt{σ τ:bD}:∀{v v':Value},gQ v=true->aX σ v v'->aX τ v v'
 | .int _ _,_,_,r=>r
 | .bool _,_,_,r=>r
 | .float ..,_,h,_=>by cases h
 | .complex ..,_,h,_=>by cases h
 | .string ..,_,h,_=>by cases h
 | .pointer ..,_,h,_=>by cases h
 | .slice ..,_,h,_=>by cases h
 | .map ..,_,h,_=>by cases h
 | .chan ..,_,h,_=>by cases h
 | .func ..,_,h,_=>by cases h
 | .nilFunc,_,h,_=>by cases h
 | .iface ..,_,h,_=>by cases h
 | .nilIface,_,h,_=>by cases h
 | .agg ..,_,h,_=>by cases h
 | .tuple ..,_,h,_=>by cases h
theorem yN{σ τ:bD}:∀{vs l:List Value},vs.all gQ=true->aV σ vs l->aV τ vs l
 | [],_,_,r=>r
 | v::vs,_,h,⟨a,b,e,r,s⟩=>by{simp only[List.all_cons,tx] at h;exact⟨a,b,e,Kt h.1 r,yN h.2 s⟩}
theorem JV{σ τ:bD}{w:World}{l:Loc}:∀{b:aJ},s5 b=true->om σ w l b->om τ w l b
 | .cells ro cs,h,⟨a,t,f,g,i,j,q4,r⟩=>by{simp only[s5,tx] at h;exact⟨a,t,f,g,i,j,q4,yN h.2 r⟩}
 | .map _,h,_=>by cases h
theorem nD:∀{b:aJ},s5 b=true->b.ro=true
 | .cells ro cs,h=>by simp only[s5,tx] at h;exact h.1
 | .map _,h=>by cases h
theorem om.lt_size{σ:bD}{w:World}{l:Loc}:∀{b:aJ},om σ w l b->l.bQ<w.heap.size
 | .cells _ _,⟨_,_,_,q,_⟩=>(Tr.1 q).1
 | .map _,⟨_,q,_⟩=>(Tr.1 q).1
def tE(C:Ctx)(n f:Nat)(fA:List (Nat×aJ)):Bool:=fA.all (λp=>Nat.blt p.1 C.cA&&s5 p.2)&&Lw C n f [] ⟨C.cA,iP fA⟩
theorem Jb{P:Program}{C:Ctx}(ok:C.Ok P)(ao:eE C P){n f:Nat}{fA:List (Nat×aJ)}(aa:tE C n f fA=true)(σ:bD)(g:Nat->Option aJ)(m:Nat)(w:World)(ab:∀p∈fA,g p.1=some p.2)(ac:kv C σ)(I:cM σ g w) :
  Calls P f #[] w λen w'=>en=.returned (.bool true)/\cM σ g w'/\Ev σ g m w σ g m w':=by
 simp only[tE,tx] at aa;obtain⟨ae,q⟩:=aa;unfold Lw at q;split at q;{rename_i h' hc;have af:∀i b,(⟨C.cA,iP fA⟩:au).get i=some b->(i,b)∈fA:=λi b r=>qx fA i b r;have o:∀i b,(⟨C.cA,iP fA⟩:au).get i=some b->i<C.cA/\s5 b=true/\g i=some b:=λi b r=>by{have h1:=af i b r;have t:=TM.1 ae _ h1;simp only[tx,Nat.blt_eq] at t;exact⟨t.1,t.2,ab _ h1⟩};let σ0:bD:=λi=>if i<C.cA then σ i else none;have ag:∀i,i<C.cA->σ0 i=σ i:=λi hi=>n0 hi;have U:kv C σ0:=λi hi=>by{obtain⟨l,h1,t⟩:=ac i hi;exact⟨l,by rw[ag i hi];exact h1,t⟩};have ad:cM σ0 (⟨C.cA,iP fA⟩:au).get w:=by{constructor;{intro i b r;obtain⟨h1,t,h3⟩:=o i b r;obtain⟨l,h4,h5⟩:=I.bQ i b h3;exact⟨l,by rw[ag i h1];exact h4,JV t h5⟩};{intro i j b c li lj r av a2 J hi hj;obtain⟨h1,t,h3⟩:=o i b r;obtain⟨h4,h5,h6⟩:=o j c av;rw[nD t,nD h5] at J;simp at J}};refine((tH ok ao n).run f [] _ _ _ hc (λi b r=>(o i b r).1) σ0 w [] U ad rfl (λi hi _=>nw (by simp only at hi;omega))).mono ?_;rintro e w' ⟨v',a3,rfl,hv,hs,gY⟩;have hv:v'=.bool true:=hv;subst hv;have R:∀b,b<w.heap.size->w'.heap[b]?=w.heap[b]?:=λb r=>gY.oL b r λi B l hi J hs=>by{rw[nD (o i B hi).2.1] at J;cases J};refine⟨rfl,⟨λi b r=>?_,I.inj⟩,⟨gY.size,gY.os,gY.out,gY.tape,λb r _=>R b r,λi B l h1 t h3=>.inr ⟨i,B,l,h1,t,h3,rfl⟩,λ_ _=>rfl⟩⟩;obtain⟨l,h1,t⟩:=I.bQ i b r;exact⟨l,h1,t.world (R _ t.lt_size)⟩};{cases q}
theorem s8{P:Program}{mask cA:Nat}{facts:List (Nat×List (Nat×aJ))}{t:Nat}{I:Value}{J:Nat->Bool}{i:Nat->Option (List Value->au->Option (Value×au))}(ok:(zB P mask cA).Ok P){n:Nat}(h:∀p∈facts,tE (OI P mask cA t I J) n p.1 p.2=true)
  (hs:∀f o,i f=some o->mg (NF P mask cA facts t I J i) P f o):eE (NF P mask cA facts t I J i) P:=by
 intro f o j;have j:(match zD facts f with | some fA=>some (xq fA) | none=>i f)=some o:=j;have r:∀(l:List (Nat×List (Nat×aJ))) fA,zD l f=some fA->(f,fA)∈l:=by{intro l fA;induction l with| nil=>{intro h;cases h}| cons p l U=>{intro h;simp only[zD] at h;cases g:Nat.beq p.1 f with| true=>{rw[g] at h;have:=Mr g;cases h;rw[<-this];exact D2 ..}| false=>{rw[g] at h;exact mb _ (U h)}}};split at j;{rename_i fA ht;cases j;intro args R v h' q;unfold xq at q;cases g:(args.isEmpty&&fA.all (λp=>lW (R.get p.1) (some p.2))) with| false=>{rw[g] at q;cases q}| true=>{rw[g] at q;cases q;refine⟨fu.refl _,λhw σ w args' hg s hr ad=>?_⟩;simp only[tx,List.isEmpty_iff] at g;obtain⟨rfl,g⟩:=g;cases hr;refine(Jb (C:=OI P mask cA t I J) ⟨ok.info,ok.func,ok.call,ok.flat,ok.mixed⟩ (λf o j=>by cases j) (h _ (r _ _ ht)) σ R.get R.next w (λp hp=>pz (TM.1 g p hp)) hg s).mono ?_;rintro en w' ⟨rfl,h1,h2⟩;exact⟨_,σ,rfl,rfl,h1,h2⟩}};{exact hs f o j}
theorem HI{P:Program}{C C0:Ctx}(ok:C0.Ok P)(j:eE C0 P)(o:C0.cA=C.cA){n f:Nat}{fA:List (Nat×aJ)}(h:tE C0 n f fA=true):mg C P f (xq fA):=by
 intro args l v R q;unfold xq at q;cases g:(args.isEmpty&&fA.all (λp=>lW (l.get p.1) (some p.2))) with| false=>{rw[g] at q;cases q}| true=>{rw[g] at q;cases q;refine⟨fu.refl _,λhw σ w args' r s t I=>?_⟩;simp only[tx,List.isEmpty_iff] at g;obtain⟨rfl,g⟩:=g;cases t;refine(Jb ok j h σ l.get l.next w (λp hp=>pz (TM.1 g p hp)) (λi hi=>r i (by rw[<-o];exact hi)) s).mono ?_;rintro U w' ⟨rfl,h1,J⟩;exact⟨_,σ,rfl,rfl,h1,J⟩}
end Go.Abs