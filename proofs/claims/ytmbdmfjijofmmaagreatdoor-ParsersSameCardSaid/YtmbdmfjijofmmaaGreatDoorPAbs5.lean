/-
  The abstract machine is sound, last part: open orders, code, calls, closed runs, facts.
-/
import Derived.Test.YtmbdmfjijofmmaaGreatDoorPAbs4
import Derived.Below
import Derived.ChangeSame
/-
 Soundness,twentieth part: each kind of operation in a region whose order is open.
-/
namespace Go.Abs
open Go
section
variable {C:Ctx}{P:Program}
variable {cal:u0}{ops:Array Oper}{es:Nat->Env}{hs:Nat->aq}{tr:List xH}
open Classical in
noncomputable def oJ(o:Oper)(ρ:Operand->Option Value):Operand->Option Value:=λx=>if x∈o.op.operands then ρ x else none
theorem lC(o:Oper)(ρ:Operand->Option Value)(h:aq):aN C (oJ o ρ) h o.op=aN C ρ h o.op/\bE (oJ o ρ) o.op=bE ρ o.op:=
 GM λx hx=>by simp[oJ,hx]
theorem AU{l:List Oper}{o:Oper}{t:Tmp}(h:Operand.tmp t∈o.op.operands):t∈tmpsOf l o:=by
 unfold tmpsOf;refine R5.2 (.inl (Uk.2 ⟨.tmp t,SS.2 h,rfl⟩))
theorem cr.uR{D:Nat->Prop}{j:Nat}{o:Oper}(r:cr ops D j o)(d:cP C P cal ops es hs tr){σ0 σ:aY}{w0 w:World}{df:List Deferred}{a:Act}(I:Inv C ops es hs σ0 w0 df D σ a w) :
  vz σ (oJ o ((es j).eval C)) a.eval:=by
 intro x v hx;unfold oJ at hx;split at hx
 ·rename_i hm;cases x with
  | tmp t=>
   have hV:=r.read d (.inl (AU (l:=ops.toList) hm));obtain⟨v',h1,h2⟩:=I.env t v (by rw[hV];exact hx);simp only[Act.eval];rw[RX,h1];exact h2
  | const c=>
   simp only[Env.eval] at hx;cases hp:plain c with
   | true=>simp[hp] at hx;subst hx;exact gj σ c hp
   | false=>simp[hp] at hx
  | global g=>
   simp only[Env.eval] at hx;cases hb:Nat.blt g C.cK with
   | true=>
    simp only[hb,RH,IT] at hx;subst hx;obtain⟨l,h1,h2,h3⟩:=I.gX g (by simpa using hb);exact⟨l,h1,rfl,by simp[Act.eval,h2,h3]⟩
   | false=>simp[hb] at hx
  | func f=>
   simp only[Env.eval,IT] at hx;subst hx;exact⟨[],[],rfl,rfl,rfl⟩
 ·cases hx
theorem cr.want{D:Nat->Prop}{j:Nat}{o:Oper}(r:cr ops D j o)(d:cP C P cal ops es hs tr){σ0 σ:aY}{w0 w:World}{df:List Deferred}{a:Act}(I:Inv C ops es hs σ0 w0 df D σ a w)
  {b:Bool} (q:rU ops.toList (es j) o=some b):Region.wanted o (yielded ops a.tmps)=b:=by
 unfold rU at q;unfold Region.wanted;cases hg:o.guard with
 | none=>simp[hg] at q;subst q;rfl
 | some jw=>
  obtain⟨i,want⟩:=jw;simp only[hg] at q ⊢;unfold yielded;rw[R7] at q;cases hd:(ops[i]?).bind (·.dst) with
  | none=>simp[hd] at q;subst q;simp
  | some t=>
   simp only[hd] at q;simp only[Option.bind_some];have hm:t∈tmpsOf ops.toList o:=by
    unfold tmpsOf;refine R5.2 (.inr ?_);simp only[hg,R7,hd,RK]
   have hV:=r.read d (.inl hm);split at q
   ·rename_i b2 hb;cases q;obtain⟨v',h1,h2⟩:=I.env t _ (by rw[hV];exact hb);rw[h1,show v'=.bool b2 from h2];simp
   ·rename_i hb;cases q;obtain⟨v',h1,cs,h2,h3⟩:=I.env t _ (by rw[hV];exact hb);rw[h1,h2];simp
   ·cases q
theorem cP.DB(d:cP C P cal ops es hs tr){i k:Nat}{p q:Oper}(hp:ops[i]?=some p)(hq:ops[k]?=some q){x:Nat}(hx:x∈bE ((es i).eval C) p.op) :
  cb q.op=true\/i=k\/(before ops.toList i).testBit k=true\/(before ops.toList k).testBit i=true\/¬cG hs k x\/(i<k/\lN C ((es i).eval C) (hs i) p.op (hs (k+1))=true):=by
 have:=Dg tr 0 d.OK i _ _ _ _ (d.step i p hp).2 k q _ _ _ (by simpa using hq) (d.step k q hq).2 x hx;simp only[RY] at this;rcases this with h | h | h | h | h | h
 ·exact .inl h
 ·exact .inr (.inl h)
 ·exact .inr (.inr (.inl h))
 ·exact .inr (.inr (.inr (.inl h)))
 ·exact .inr (.inr (.inr (.inr (.inl λhc=>hc h.symm))))
 ·exact .inr (.inr (.inr (.inr (.inr h))))
theorem C1{ρ:Operand->Option Value}{h h2:aq}{op:Op}(hn:∀t x k ok,op≠.lookup t x k ok):lN C ρ h op h2=false:=by
 unfold lN;split
 ·rename_i t x k ok;exact absurd rfl (hn t x k ok)
 ·rfl
theorem cr.base{D:Nat->Prop}{j:Nat}{o:Oper}(r:cr ops D j o)(d:cP C P cal ops es hs tr){x:Nat}(hx:x∈bE ((es j).eval C) o.op):G hs D j x=(hs j).get x:=by
 have hlt:=r.lt;refine sS λk hk hc=>?_;have hp:ops[k]?=some ops[k]:=by simp[show k<ops.size from by omega]
 rcases d.DB r.at_ hp hx with h | h | h | h | h | h
 ·exact absurd (by rw[(d.kinds hp).1 h]) hc
 ·omega
 ·exact r.Pc d h
 ·have:=tD d.uO k j ops[k] (by simp[show k<ops.size from by omega]) h;omega
 ·exact absurd hc h
 ·omega
theorem cr.L9{D:Nat->Prop}{j:Nat}{o:Oper}(r:cr ops D j o)(d:cP C P cal ops es hs tr){x:Nat}(hx:x∈bE ((es j).eval C) o.op) :
  ∃h',G hs D ops.size x=h'.get x/\(h'=hs j\/lN C ((es j).eval C) (hs j) o.op h'=true):=by
 have hlt:=r.lt;have key:∀N,j<=N->N<=ops.size->∃h',G hs D N x=h'.get x/\(h'=hs j\/lN C ((es j).eval C) (hs j) o.op h'=true):=by
  intro N hjN
  induction N with
  | zero =>
   intro _; have : j = 0 := by omega
   subst this;exact⟨hs 0,r.base d hx,.inl rfl⟩
  | succ N ih=>
   intro hN;by_cases e:j=N+1
   ·subst e;exact⟨hs (N+1),r.base d hx,.inl rfl⟩
   ·obtain⟨h',g1,g2⟩:=ih (by omega) (by omega);by_cases hc:D N/\cG hs N x
    ·refine⟨hs (N+1),by rw[G,By hc],.inr ?_⟩;have hNj:N≠j:=λe2=>r.not (e2▸hc.1);have hp:ops[N]?=some ops[N]:=by simp[show N<ops.size from by omega]
     rcases d.DB r.at_ hp hx with h | h | h | h | h | h
     ·exact absurd (by rw[(d.kinds hp).1 h]) hc.2
     ·exact absurd h.symm hNj
     ·have:=tD d.uO j N o (by simpa using r.at_) h;omega
     ·exact(r.desc d hc.1 hp h).elim
     ·exact absurd hc.2 h
     ·exact h.2
    ·exact⟨h',by rw[G,AT hc];exact g1,g2⟩
 exact key ops.size (by omega) (AS _)
theorem cr.look{D:Nat->Prop}{j:Nat}{o:Oper}(r:cr ops D j o)(d:cP C P cal ops es hs tr)(hn:∀t x k ok,o.op≠.lookup t x k ok){x:Nat}(hx:x∈bE ((es j).eval C) o.op) :
  G hs D ops.size x=(hs j).get x:=by
 obtain⟨h',h1,h2⟩:=r.L9 d hx;rcases h2 with rfl | h2
 ·exact h1
 ·rw[C1 hn] at h2;cases h2
theorem cr.N9{D:Nat->Prop}{j:Nat}{o:Oper}(r:cr ops D j o)(d:cP C P cal ops es hs tr){v:Value}(ho:aN C ((es j).eval C) (hs j) o.op=some (.val v (hs j))) :
  ∃h',aN C ((es j).eval C) h' o.op=some (.val v h')/\∀b∈bE ((es j).eval C) o.op,G hs D ops.size b=h'.get b:=by
 by_cases hl:∃t x k ok,o.op=.lookup t x k ok
 ·obtain⟨t,x,k,ok,hop⟩:=hl;by_cases hr:∃b,bE ((es j).eval C) o.op=[b]
  ·obtain⟨b,hb⟩:=hr;obtain⟨h',h1,h2⟩:=r.L9 d (x:=b) (by rw[hb];simp);rcases h2 with rfl | h2
   ·exact⟨hs j,ho,λc hc=>by rw[hb] at hc;rw[RK.1 hc];exact h1⟩
   ·refine⟨h',?_,λc hc=>by rw[hb] at hc;rw[RK.1 hc];exact h1⟩;rw[hop] at ho h2 ⊢;unfold lN at h2;dsimp only at h2;rw[ho] at h2;cases hq:aN C ((es j).eval C) h' (.lookup t x k ok) with
    | none=>rw[hq] at h2;cases h2
    | some q=>
     rw[hq] at h2;cases q with
     | call f as=>cases h2
     | val v2 g=>
      have e:=jo h2;subst e;have hg:g=h':=by
       unfold aN at hq;dsimp only at hq;split at hq
       ·rename_i a b ha hb2;cases hla:ji C h' t a b ok with
        | none=>rw[hla] at hq;cases hq
        | some z=>rw[hla] at hq;simp only[Sp,IT,yX.val.injEq] at hq;exact hq.2.symm
       ·cases hq
      rw[hg]
  ·refine⟨hs j,ho,λc hc=>?_⟩;exfalso;rw[hop] at hr hc;unfold bE at hr hc;dsimp only at hr hc;split at hc
   ·rename_i b hb;exact hr ⟨b,by rw[hb]⟩
   ·cases hc
 ·exact⟨hs j,ho,λb hb=>r.look d (λt x k ok e=>hl ⟨t,x,k,ok,e⟩) hb⟩
theorem cr.Ig{D:Nat->Prop}{j:Nat}(hsame:hs (j+1)=hs j):G hs (plus D j) ops.size=G hs D ops.size:=by
 funext x;refine qR λk hk hc=>?_;have hkj:k≠j:=by intro e;subst e;exact hc (by rw[hsame])
 exact⟨λh=>h.resolve_right hkj,.inl⟩
theorem cr.later{D:Nat->Prop}{j:Nat}{o:Oper}(r:cr ops D j o)(d:cP C P cal ops es hs tr)(hnst:cb o.op=false){k:Nat}(hjk:j<k)(hk:k<ops.size)(hD:D k){x:Nat}(hc:cG hs k x)
  (hxl:x<(hs (j+1)).next):gJ ops[k].op=true/\x∈bE ((es k).eval C) ops[k].op/\fj o.op=false:=by
 have hp:ops[k]?=some ops[k]:=by simp[hk]
 have hkk:=d.kinds hp;have hap:kq ops.toList o ops[k]=true:=(d.pair r.at_ hp hjk).resolve_left (λh=>r.desc d hD hp h);obtain⟨h1,h2⟩:=qp hap;cases hs1:cb ops[k].op with
 | true=>exact absurd (by rw[hkk.1 hs1]) hc
 | false=>
  cases hn:rK ops[k].op with
  | true=>
   have:=hkk.2.1 hn x hc;have:=(d.nt (i:=j+1) (j:=k) (by omega) (by omega)).next
   omega
  | false=>
   cases hst:gJ ops[k].op with
   | true=>
    obtain⟨hl,_⟩:=hkk.2.2 hst x hc;refine⟨rfl,by rw[hl];simp,?_⟩;cases hcl:fj o.op with
    | false=>rfl
    | true=>exact absurd ⟨hcl,hst⟩ h2
   | false=>exact absurd ⟨by simp[fj,hs1,hn,hst],hnst⟩ h1
theorem cr.Gm{D:Nat->Prop}{j:Nat}{o:Oper}(r:cr ops D j o)(d:cP C P cal ops es hs tr)(hnst:cb o.op=false){k:Nat}(hjk:j<k)(hk:k<ops.size)(hD:D k){x:Nat}(hc:cG hs k x)
  (hxl:x<(hs (j+1)).next):¬cG hs j x:=by
 obtain⟨_,hl,_⟩:=r.later d hnst hjk hk hD hc hxl;have hp:ops[k]?=some ops[k]:=by simp[hk]
 obtain⟨hsto,_,_⟩:=r.later d hnst hjk hk hD hc hxl;rcases d.DB hp r.at_ hl with h | h | h | h | h | h
 ·rw[h] at hnst;cases hnst
 ·omega
 ·exact(r.desc d hD hp h).elim
 ·have:=tD d.uO j k o (by simpa using r.at_) h;omega
 ·exact h
 ·rw[C1 (λt x k ok e=>by rw[e] at hsto;cases hsto)] at h;cases h.2
theorem cr.Mj{D:Nat->Prop}{j:Nat}{o:Oper}(r:cr ops D j o)(d:cP C P cal ops es hs tr)(hnst:cb o.op=false){b:Nat}{B:aE}(hb:∀x,x≠b->¬cG hs j x)(hB:(hs (j+1)).get b=some B)
  (hbl:b<(hs (j+1)).next) (hsame:¬cG hs j b->G hs D ops.size b=some B):G hs (plus D j) ops.size=dg (G hs D ops.size) b (some B):=by
 have hlt:=r.lt;funext x;by_cases hx:x=b
 ·subst hx;rw[bL];by_cases hc:cG hs j x
  ·rw[mr (i:=j+1) (by omega),G,By ⟨.inr rfl,hc⟩,hB];rintro k h1 h2 ⟨hD,hck⟩;rcases hD with hD | hD
   ·exact r.Gm d hnst (by omega) h2 hD hck hbl hc
   ·omega
  ·rw[<-hsame hc];refine qR λk hk hck=>?_;have hkj:k≠j:=by intro e;subst e;exact hc hck
   exact⟨λh=>h.resolve_right hkj,.inl⟩
 ·rw[cl _ _ hx];refine qR λk hk hck=>?_;have hkj:k≠j:=by intro e;subst e;exact hb x hx hck
  exact⟨λh=>h.resolve_right hkj,.inl⟩
theorem cr.ids{D:Nat->Prop}{j:Nat}{o:Oper}(r:cr ops D j o)(d:cP C P cal ops es hs tr){k:Nat}(hk:k<ops.size)(hkj:k≠j){i:Nat}(h1:(hs k).next<=i)(h2:i<(hs (k+1)).next) :
  i<(hs j).next\/(hs (j+1)).next<=i:=by
 have hlt:=r.lt;by_cases h:k<j
 ·left;have:=(d.nt (i:=k+1) (j:=j) (by omega) (by omega)).next
  omega
 ·right;have:=(d.nt (i:=j+1) (j:=k) (by omega) (by omega)).next
  omega
end
end Go.Abs
/-
 Soundness,part twenty-one: a region whose order is open,whole.
-/
namespace Go.Abs
open Go
section
variable {C:Ctx}{P:Program}
variable {cal:u0}{ops:Array Oper}{es:Nat->Env}{hs:Nat->aq}{tr:List xH}
theorem cr.called{D:Nat->Prop}{j:Nat}{o:Oper}(r:cr ops D j o)(d:cP C P cal ops es hs tr)(hcl:fj o.op=true){σ0 σ σ':aY}{w0 w w':World}{df:List Deferred}{a:Act}
  (I:Inv C ops es hs σ0 w0 df D σ a w) (hs':cU σ' (hs (j+1)).get w') (eP:Ev σ (hs j).get (hs j).next w σ' (hs (j+1)).get (hs (j+1)).next w') (hle:aY.le σ σ') :
  cU σ' (G hs (plus D j) ops.size) w'/\Ev σ (G hs D ops.size) (hs 0).next w σ' (G hs (plus D j) ops.size) (hs ops.size).next w':=by
 have hlt:=r.lt;have hnst:cb o.op=false:=by
  simp only[fj,IN,Tu] at hcl;exact hcl.1.2
 have hH:=d.eP hlt;have none_later:∀k,j<k->k<ops.size->D k->∀x,x<(hs (j+1)).next->¬cG hs k x:=λk h1 h2 h3 x hx hc=>by
  obtain⟨_,_,h4⟩:=r.later d hnst h1 h2 h3 hc hx;rw[hcl] at h4;cases h4
 have all_before:∀k,k<j->∀x,cG hs k x->D k:=λk hk x hc=>by
  have hkn:k<ops.size:=by omega
  have hp:ops[k]?=some ops[k]:=by simp[hkn]
  rcases d.pair hp r.at_ hk with h | h
  ·exact r.Pc d h
  ·cases hs1:cb ops[k].op with
   | true=>exact absurd (by rw[(d.kinds hp).1 hs1]) hc
   | false=>exact absurd ⟨hcl,hs1⟩ (qp h).1
 have sub:∀x B,(hs j).get x=some B->G hs D ops.size x=some B:=λx B hx=>by
  have hxn:=d.Kl (SF hlt) x B hx;rw[mr (i:=j) (by omega),sS λk hk hc=>all_before k hk x hc]
  ·exact hx
  ·rintro k h1 h2 ⟨hD,hc⟩;by_cases hkj:k=j
   ·subst hkj;exact r.not hD
   ·exact none_later k (by omega) h2 hD x (by have:=hH.next;omega) hc
 have low:∀x,x<(hs (j+1)).next->G hs (plus D j) ops.size x=(hs (j+1)).get x:=λx hx=>by
  rw[mr (i:=j+1) (by omega),sS]
  ·intro k hk hc;by_cases hkj:k=j
   ·exact .inr hkj
   ·exact .inl (all_before k (by omega) x hc)
  ·rintro k h1 h2 ⟨hD,hc⟩;rcases hD with hD | hD
   ·exact none_later k (by omega) h2 hD x hx hc
   ·omega
 have dead:∀k x,k<=ops.size->(hs k).next<=x->(hs k).get x=none:=λk x hk hx=>by
  cases hq:(hs k).get x with
  | none=>rfl
  | some B=>have:=d.Kl hk x B hq;omega
 have high:∀x,(hs (j+1)).next<=x->G hs (plus D j) ops.size x=G hs D ops.size x:=λx hx=>by
  refine qR λk hk hc=>?_;have hkj:k≠j:=by
   intro e;subst e;exact hc (by rw[dead _ x (by omega) hx,dead _ x (by omega) (AI hH.next hx)])
  exact⟨λh=>h.resolve_right hkj,.inl⟩
 have hsig:∀x,(hs (j+1)).next<=x->σ' x=σ x:=λx hx=>eP.sig x (.inr hx)
 have early:∀x B,(hs (j+1)).next<=x->G hs D ops.size x=some B->B.ro=false:=by
  intro x B hx hB;have key:∀m,m<=ops.size->∀B,G hs D m x=some B->(∃k,k<=m/\(hs k).get x=some B):=by
   intro m
   induction m with
   | zero=>intro _ B hB;exact⟨0,AS _,hB⟩
   | succ m ih=>
    intro hm B hB;unfold G at hB;split at hB
    ·exact⟨m+1,AS _,hB⟩
    ·obtain⟨k,h1,h2⟩:=ih (by omega) B hB;exact⟨k,by omega,h2⟩
  obtain⟨k,hk,hkx⟩:=key ops.size (AS _) B hB;cases hro:B.ro with
  | false=>rfl
  | true=>
   have h0:=(d.nt (R6 k) hk).ro x B hkx hro;have:=d.wf x B h0;have:=(d.nt (i:=0) (j:=j+1) (by omega) (by omega)).next
   omega
 refine⟨⟨λx B hB=>?_,λx y B E lx ly hB hE hxy hro hlx hly=>?_⟩,?_⟩
 ·by_cases hx:x<(hs (j+1)).next
  ·rw[low x hx] at hB;exact hs'.bu x B hB
  ·rw[high x (by omega)] at hB;obtain⟨l,h1,h2⟩:=I.lU.bu x B hB;refine⟨l,hle _ _ h1,(h2.mono hle).world (eP.mg l.bu h2.lt λi E m hi hEr hm hml=>?_)⟩;have hix:i≠x:=by
    have:=d.Kl (SF hlt) i E hi;have:=hH.next
    omega
   exact I.lU.inj i x E B m l (sub i E hi) hB hix (.inl hEr) hm h1 hml
 ·
  have mixed:∀x y B E lx ly,x<(hs (j+1)).next->(hs (j+1)).next<=y->G hs (plus D j) ops.size x=some B->G hs (plus D j) ops.size y=some E->σ' x=some lx->σ' y=some ly->lx.bu≠ly.bu:=by
   intro x y B E lx ly hx hy hB hE hlx hly;rw[low x hx] at hB;rw[high y hy] at hE;rw[hsig y hy] at hly;have hEr:=early y E hy hE;cases hBr:B.ro with
   | true=>
    have hb0:=hH.ro x B hB hBr;have hxn:=d.Kl (SF hlt) x B hb0;rw[eP.sig x (.inl hxn)] at hlx;exact I.lU.inj x y B E lx ly (sub x B hb0) hE (by omega) (.inr hEr) hlx hly
   | false=>
    obtain⟨l2,h1,h2⟩:=I.lU.bu y E hE;rw[hly] at h1;cases h1;have:=h2.lt;rcases eP.own x B lx hB hBr hlx with h | ⟨i,F,m,h3,h4,h5,h6⟩
    ·omega
    ·rw[<-h6];have hin:=d.Kl (SF hlt) i F h3;have:=hH.next
     exact I.lU.inj i y F E m ly (sub i F h3) hE (by omega) (.inl h4) h5 hly
  by_cases hx:x<(hs (j+1)).next
  ·by_cases hy:y<(hs (j+1)).next
   ·rw[low x hx] at hB;rw[low y hy] at hE;exact hs'.inj x y B E lx ly hB hE hxy hro hlx hly
   ·exact mixed x y B E lx ly hx (by omega) hB hE hlx hly
  ·by_cases hy:y<(hs (j+1)).next
   ·exact(mixed y x E B ly lx hy (by omega) hE hB hly hlx).symm
   ·rw[high x (by omega)] at hB;rw[high y (by omega)] at hE;rw[hsig x (by omega)] at hlx;rw[hsig y (by omega)] at hly;exact I.lU.inj x y B E lx ly hB hE hxy hro hlx hly
 ·have hn0:=(d.nt (R6 j) (SF hlt)).next
  have hnN:=(d.nt (i:=j+1) (j:=ops.size) (by omega) (AS _)).next
  refine⟨eP.size,eP.os,eP.out,eP.tape,λb hb hn=>eP.mg b hb λi E l hi hEr hl hlb=>hn i E l (sub i E hi) hEr hl hlb,λi B l hi hBr hl=>?_,λi hi=>eP.sig i (by omega)⟩;by_cases hx:i<(hs (j+1)).next
  ·rw[low i hx] at hi;rcases eP.own i B l hi hBr hl with h | ⟨k,E,m,h3,h4,h5,h6⟩
   ·exact .inl h
   ·exact .inr ⟨k,E,m,sub k E h3,h4,h5,h6⟩
  ·rw[high i (by omega)] at hi;rw[hsig i (by omega)] at hl;exact .inr ⟨i,B,l,hi,hBr,hl,rfl⟩
theorem cr.sub{D:Nat->Prop}{j:Nat}{o:Oper}(r:cr ops D j o)(d:cP C P cal ops es hs tr)(hcl:fj o.op=true)(x:Nat)(B:aE)(hx:(hs j).get x=some B):G hs D ops.size x=some B:=by
 have hlt:=r.lt;have hnst:cb o.op=false:=by
  simp only[fj,IN,Tu] at hcl;exact hcl.1.2
 have hH:=d.eP hlt;have hxn:=d.Kl (SF hlt) x B hx;rw[mr (i:=j) (by omega),sS]
 ·exact hx
 ·intro k hk hc;have hkn:k<ops.size:=by omega
  have hp:ops[k]?=some ops[k]:=by simp[hkn]
  rcases d.pair hp r.at_ hk with h | h
  ·exact r.Pc d h
  ·cases hs1:cb ops[k].op with
   | true=>exact absurd (by rw[(d.kinds hp).1 hs1]) hc
   | false=>exact absurd ⟨hcl,hs1⟩ (qp h).1
 ·rintro k h1 h2 ⟨hD,hc⟩;by_cases hkj:k=j
  ·subst hkj;exact r.not hD
  ·obtain⟨_,_,h4⟩:=r.later d hnst (by omega) h2 hD hc (by have:=hH.next;omega)
   rw[hcl] at h4;cases h4
theorem cr.step{D:Nat->Prop}{j:Nat}{o:Oper}(r:cr ops D j o)(d:cP C P cal ops es hs tr){σ0 σ:aY}{w0 w:World}{df:List Deferred}{a:Act}(I:Inv C ops es hs σ0 w0 df D σ a w)
  {Q:Exit->Act->World->Prop} {K:Act->World->Prop} (hK:∀σ' a' w',Inv C ops es hs σ0 w0 df (plus D j) σ' a' w'->K a' w'):wpOp P ops Q j K a w:=by
 have hlt:=r.lt;have q:=(d.step j o r.at_).1;have hn0:=(d.nt (R6 j) (SF hlt)).next
 have hnN:=(d.nt (i:=j+1) (j:=ops.size) (by omega) (AS _)).next
 unfold wpOp;rw[r.at_];simp only;unfold ep at q;split at q
 ·cases q
 ·rename_i hwant;simp only[IT,Sb] at q;rw[r.want d I hwant,AT (by simp)];have hG:=cr.Ig (ops:=ops) (D:=D) q.2.symm;exact hK σ _ w (r.finish d I q.1.symm (fZ σ) (aY.le_refl σ) (by rw[hG];exact I.lU) (by rw[hG];exact Ev.refl _ _ _ _ |>.FD (AS _) (by have:=(d.nt (i:=0) (j:=ops.size) (by omega) (AS _)).next;exact this)) (λ_ _ _ _ _ _ _=>rfl))
 ·rename_i hwant;rw[r.want d I hwant,By rfl];left;have hop:=r.uR d I;unfold Oper.wp;split at q
  ·cases q
  ·rename_i v h1 ho;simp only[IT,Sb] at q;obtain⟨q1,rfl⟩:=q;have ho':aN C (oJ o ((es j).eval C)) (hs j) o.op=some (.val v (hs (j+1))):=by rw[(lC o _ _).1];exact ho
   cases hst:cb o.op with
   | true=>
    obtain⟨v2,r1,_⟩:=kD d.ok hst ho';simp only[yX.val.injEq] at r1;obtain⟨rfl,r1⟩:=r1;obtain⟨h',ho2,hlk⟩:=r.N9 d (v:=v) (by rw[<-r1];rw[r1] at ho ⊢;exact ho);obtain⟨v3,s1,r2⟩:=kD d.ok hst (show aN C (oJ o ((es j).eval C)) h' o.op=some (.val v h') by rw[(lC o _ _).1];exact ho2);simp only[yX.val.injEq] at s1;obtain⟨rfl,_⟩:=s1;obtain⟨v',p1,p2⟩:=r2 a.eval σ _ w I.lU hop (λb hb=>hlk b (by rw[(lC (C:=C) o ((es j).eval C) (hs j)).2] at hb;exact hb));rw[p1];have hG:=cr.Ig (ops:=ops) (D:=D) r1
    exact hK σ _ w (r.finish d I q1.symm p2 (aY.le_refl σ) (by rw[hG];exact I.lU) (by rw[hG];exact Ev.refl _ _ _ _ |>.FD (AS _) (by have:=(d.nt (i:=0) (j:=ops.size) (by omega) (AS _)).next;exact this)) (λ_ _ _ _ _ _ _=>rfl))
   | false=>
    cases hn:rK o.op with
    | true=>
     obtain⟨v2,b,hbr,r1,r2⟩:=tQ d.ok hn ho';simp only[yX.val.injEq] at r1;obtain⟨rfl,r1⟩:=r1;have hnx:(hs (j+1)).next=(hs j).next+1:=by rw[r1];rfl
     have hid:=I.fresh j hlt r.not (hs j).next (AS _) (by omega)
     obtain⟨l,v',w',p1,p2,p3,p4,p5⟩:=r2 a.eval σ _ w I.lU hid hop;rw[p1];have hG:G hs (plus D j) ops.size=dg (G hs D ops.size) (hs j).next (some b):=by
      refine r.Mj d hst (λx hx hc=>?_) (by rw[r1,aq.dP,By rfl]) (by omega) (λhc=>?_)
      ·exact hx ((d.kinds r.at_).2.1 hn x hc)
      ·exfalso;apply hc;unfold cG;rw[r1,aq.dP,By rfl];cases hq:(hs j).get (hs j).next with
       | none=>simp
       | some B=>have:=d.Kl (SF hlt) _ B hq;omega
     refine hK _ _ w' (r.finish d I q1.symm p2 (aY.lW hid) (by rw[hG];exact p3) (by rw[hG];exact p4.FD hn0 (by omega)) (λk hk _ hkj i h1 h2=>?_));have:=r.ids d hk hkj h1 h2;exact cl _ _ (by omega)
    | false=>
     cases hsr:gJ o.op with
     | true=>
      obtain⟨b,cs,r0,r1,⟨cs0,r2⟩,r3⟩:=jc d.ok hsr ho';simp only[yX.val.injEq] at r1;obtain⟨rfl,r1⟩:=r1;have hlk:G hs D ops.size b=(hs j).get b:=r.look d (λt x k ok e=>by rw[e] at hsr;cases hsr) (by rw[<-(lC (C:=C) o ((es j).eval C) (hs j)).2,r0];simp);obtain⟨w',p1,p2,p3⟩:=r3 a.eval σ _ w (hs 0).next I.lU hop hlk
      rw[p1];have hbn:=d.Kl (SF hlt) _ _ r2;have hnx:(hs (j+1)).next=(hs j).next:=by rw[r1];rfl
      have hG:G hs (plus D j) ops.size=dg (G hs D ops.size) b (some (.cells false cs)):=by
       refine r.Mj d hst (λx hx hc=>?_) (by rw[r1,aq.dy,By rfl]) (by omega) (λhc=>?_)
       ·apply hc;rw[r1,aq.dy,AT hx]
       ·rw[hlk];unfold cG at hc;rw[r1,aq.dy,By rfl] at hc;exact(Classical.not_not.1 hc).symm
      exact hK σ _ w' (r.finish d I q1.symm (fZ σ) (aY.le_refl σ) (by rw[hG];exact p2) (by rw[hG];exact p3.FD (AS _) (by have:=(d.nt (i:=0) (j:=ops.size) (by omega) (AS _)).next;exact this)) (λ_ _ _ _ _ _ _=>rfl))
     | false=>
      have hcl:fj o.op=true:=by simp[fj,hst,hn,hsr]
      have hsim:cU σ (hs j).get w:=I.lU.sub λx B hx=>r.sub d hcl x B hx;have hfr:∀i,(hs j).next<=i->i<(hs (j+1)).next->σ i=none:=I.fresh j hlt r.not
      obtain⟨σ',v',w',hd,p1,p2,p3⟩:=yr d.ok hcl ho' hsim (d.Kl (SF hlt)) hop hfr;have hle:=p3.le hfr;obtain⟨c1,c2⟩:=r.called d hcl I p2 p3 hle;have hfin:=r.finish d I q1.symm p1 hle c1 c2 (λk hk _ hkj i h1 h2=>p3.sig i (r.ids d hk hkj h1 h2));rcases hd with hd | ⟨hd,rfl⟩
      ·rw[hd];exact hK σ' _ w' hfin
      ·rw[hd];exact hK σ' _ w' hfin
  ·rename_i f args ho;split at q
   ·cases q
   ·rename_i v h1 hcc;simp only[IT,Sb] at q;obtain⟨q1,rfl⟩:=q;have ho':aN C (oJ o ((es j).eval C)) (hs j) o.op=some (.call f args):=by rw[(lC o _ _).1];exact ho
    have hcl:fj o.op=true:=by
     cases hst:cb o.op with
     | true=>obtain⟨_,r1,_⟩:=kD d.ok hst ho';cases r1
     | false=>
      cases hn:rK o.op with
      | true=>obtain⟨_,_,_,r1,_⟩:=tQ d.ok hn ho';cases r1
      | false=>
       cases hsr:gJ o.op with
       | true=>obtain⟨_,_,_,r1,_⟩:=jc d.ok hsr ho';cases r1
       | false=>simp[fj,hst,hn,hsr]
    have hsim:cU σ (hs j).get w:=I.lU.sub λx B hx=>r.sub d hcl x B hx;have hfr:∀i,(hs j).next<=i->i<(hs (j+1)).next->σ i=none:=I.fresh j hlt r.not
    obtain⟨args',r1,r2⟩:=qE d.ok ho' hop hsim;rw[r1];simp only[Oper.upon];refine(d.L7.run f args (hs j) v (hs (j+1)) hcc (d.Kl (SF hlt)) σ w args' I.gX hsim r2 hfr).mono ?_;rintro en w' ⟨v',σ',rfl,p1,p2,p3⟩;have hle:=p3.le hfr;obtain⟨c1,c2⟩:=r.called d hcl I p2 p3 hle;exact hK σ' _ w' (r.finish d I q1.symm p1 hle c1 c2 (λk hk _ hkj i h1 h2=>p3.sig i (r.ids d hk hkj h1 h2)))
def left(listed:Array Bool):Nat->Nat
 | 0=>0
 | k+1=>left listed k+(if listed.getD k false then 0 else 1)
theorem Bp{listed:Array Bool}{i:Nat}(hi:listed.getD i true=false):∀k,left (listed.setIfInBounds i true) k+(if i<k then 1 else 0)=left listed k
 | 0=>by simp[left]
 | k+1=>by
  have ih:=Bp hi k;have his:i<listed.size:=by
   rcases R2 i listed.size with h | h
   ·exact h
   ·rw[RX,Array.getElem?_eq_none h] at hi;cases hi
  unfold left;by_cases hk:k=i
  ·subst hk;have h1:(listed.setIfInBounds k true).getD k false=true:=by simp[his]
   have h2:listed.getD k false=false:=by
    rw[RX] at hi ⊢;simp[his] at hi ⊢;exact hi
   rw[h1,h2];simp only[SU,Tr,Te,Td,S6] at ih ⊢;omega
  ·have h1:(listed.setIfInBounds i true).getD k false=listed.getD k false:=getD_set_ne _ (Ne.symm hk);rw[h1];generalize (if listed.getD k false=true then 0 else 1)=z;by_cases hik:i<k
   ·rw[By hik] at ih;rw[By (show i<k+1 by omega)];omega
   ·rw[AT hik] at ih;rw[AT (show ¬i<k+1 by omega)];omega
theorem zz{listed:Array Bool}:∀{k:Nat},left listed k=0->∀i,i<k->listed.getD i false=true
 | 0,_,i,h=>by omega
 | k+1,h,i,hi=>by
  unfold left at h;by_cases hik:i=k
  ·subst hik;cases hq:listed.getD i false with
   | true=>rfl
   | false=>rw[hq] at h;simp at h
  ·exact zz (Nat.eq_zero_of_add_eq_zero_right h) i (by omega)
theorem yR(d:cP C P cal ops es hs tr){σ0:aY}{w0:World}{df:List Deferred}{Q:Exit->Act->World->Prop}
  (hQ:∀σ' a' w',fE σ' (es ops.size) a'->a'.defers=df->cU σ' (hs ops.size).get w'->Ev σ0 (hs 0).get (hs 0).next w0 σ' (hs ops.size).get (hs ops.size).next w'->Q .normal a' w') :
  ∀(fuel:Nat) (listed:Array Bool) (σ:aY) (a:Act) (w:World),listed.size=ops.size->left listed ops.size<=fuel->kZ ops.toList (λj=>listed.getD j false=true)->
   Inv C ops es hs σ0 w0 df (λj=>listed.getD j false=true) σ a w->wpAny P .any ops Q fuel listed a w:=by
 have fin:∀(listed:Array Bool) (σ:aY) (a:Act) (w:World),(∀i,i<ops.size->listed.getD i false=true)->Inv C ops es hs σ0 w0 df (λj=>listed.getD j false=true) σ a w->Q .normal a w:=by
  intro listed σ a w hall I;have hG:G hs (λj=>listed.getD j false=true) ops.size=(hs ops.size).get:=by
   funext x;exact sS λk hk _=>hall k hk
  have hV:∀t,V ops es (λj=>listed.getD j false=true) ops.size t=(es ops.size).get t:=λt=>As d (AS _) λk hk _=>hall k hk;refine hQ σ a w ⟨by rw[d.ns (AS _)];exact I.size,λt v hv=>I.env t v (by rw[hV];exact hv)⟩ I.defers ?_ ?_
  ·rw[<-hG];exact I.lU
  ·rw[<-hG];exact I.ev
 have stuck:∀(listed:Array Bool),listed.size=ops.size->Region.ready .any ops listed=[]->∀i,i<ops.size->listed.getD i false=true:=by
  intro listed hsz hr i
  induction i using Nat.strongRecOn with
  | _ i ih=>
   intro hi;cases hq:listed.getD i false with
   | true=>rfl
   | false=>
    have ho:ops[i]?=some ops[i]:=by simp[hi]
    have hmem:i∈Region.ready .any ops listed:=by
     rw[mem_ready];refine⟨?_,ops[i],ho,λx hx hb=>?_⟩
     ·rw[RX] at hq ⊢;simp[hsz,hi] at hq ⊢;exact hq
     ·have:=(nZ d.uO i ops[i] (by simp[hi])).1 x (by simpa using hx) hb;exact ih x.on (by omega) (by omega)
    rw[hr] at hmem;cases hmem
 intro fuel
 induction fuel with
 | zero=>
  intro listed σ a w hsz hl hc I;have hall:=zz (Nat.le_zero.1 hl);refine⟨?_,fin listed σ a w hall I⟩;cases hr:Region.ready .any ops listed with
  | nil=>rfl
  | cons i r=>
   exfalso;have hm:i∈Region.ready .any ops listed:=by rw[hr];simp
   rw[mem_ready] at hm;obtain⟨h1,o,h2,_⟩:=hm;have hi:i<ops.size:=(RV.1 h2).1;have:=hall i hi;rw[RX] at h1 this;simp[hsz,hi] at h1 this;rw[h1] at this;cases this
 | succ fuel ih=>
  intro listed σ a w hsz hl hc I;refine⟨λhr=>fin listed σ a w (stuck listed hsz hr) I,λj hj=>?_⟩;rw[mem_ready] at hj;obtain⟨h1,o,h2,h3⟩:=hj;have hi:j<ops.size:=(RV.1 h2).1;have hnot:¬listed.getD j false=true:=by
   rw[RX] at h1 ⊢;simp[hsz,hi] at h1 ⊢;exact h1
  have r:cr ops (λj=>listed.getD j false=true) j o:=⟨h2,hnot,λx hx hb=>h3 x (by simpa using hx) hb,hc⟩;refine r.step d I λσ' a' w' I'=>?_;have hD:(λk=>(listed.setIfInBounds j true).getD k false=true)=plus (λj=>listed.getD j false=true) j:=by
   funext k;by_cases hk:k=j
   ·subst hk;simp[plus,hsz,hi]
   ·simp only[plus,hk,T4];rw[getD_set_ne _ (Ne.symm hk)]
  have hls:=Bp h1 ops.size;rw[By hi] at hls;refine ih (listed.setIfInBounds j true) σ' a' w' (by simpa using hsz) (by omega) ?_ (by rw[hD];exact I');rw[hD];intro k p hk hp x hx hb;rcases hk with hk | hk
  ·exact .inl (hc k p hk hp x hx hb)
  ·subst hk;have:p=o:=by
    have hp':ops[k]?=some p:=by simpa using hp
    rw[h2] at hp';exact(BY hp').symm
   subst this;exact .inl (h3 x (by simpa using hx) hb)
theorem Hy(ok:C.Ok P)(hcal:mU C P cal){id:Nat}{draw:Bool}{e e':Env}{h h':aq}(q:mF C cal ops.toList draw e h=some (e',h'))
  {σ:aY} {a:Act} {w:World} (hw:∀i b,h.get i=some b->i<h.next) (hg:oj C σ) (s:cU σ h.get w) (he:fE σ e a) (hf:∀i,h.next<=i->i<h'.next->σ i=none)
  {Q:Exit->Act->World->Prop} (hQ:∀σ' a' w',fE σ' e' a'->a'.defers=a.defers->cU σ' h'.get w'->Ev σ h.get h.next w σ' h'.get h'.next w'->Q .normal a' w') :
  (Code.region id ops draw).wp P Q a w:=by
 unfold mF at q;cases draw with
 | false=>
  simp only[RO] at q;refine wp_region (IX ok hcal ops.toList _ e e' h h' σ a w ?_ q hw hg s he hf hQ);apply SA;intro i;simp only[RM];by_cases hi:i<ops.size
  ·rw[Tg hi];simp[hi]
  ·rw[R3 (by simp;omega),R3 (by simp;omega)];rfl
 | true=>
  simp only[RH] at q;split at q
  ·cases q
  ·rename_i e1 h1 tr ht;obtain⟨hd,q⟩:=lS q;simp only[IN] at hd;cases q;obtain⟨es,hs,rfl,rfl,rfl,rfl,hst⟩:=mH ops.toList _ _ _ _ _ ht;simp only[T2] at *;have d:cP C P cal ops es hs tr:=⟨ok,hcal,λj o ho=>hst j o (by simpa using ho),hw,hd.1,hd.2⟩;refine wp_region_any ok.mixed ?_;have hfalse:∀j,(Array.replicate ops.size false).getD j false=false:=by
    intro j;rw[RX];by_cases hj:j<ops.size
    ·simp[hj]
    ·simp[hj]
   have hDf:(λj=>(Array.replicate ops.size false).getD j false=true)=λ_=>False:=by
    funext j;rw[hfalse];simp
   have hG0:G hs (λ_=>False) ops.size=(hs 0).get:=by
    funext x;rw[mr (i:=0) (R6 _) (λk _ _ hh=>hh.1)];rfl
   have hV0:∀t,V ops es (λ_=>False) ops.size t=(es 0).get t:=λt=>by
    rw[qV (i:=0) (R6 _) (λk _ _ hh=>hh.1)];rfl
   refine yR d (σ0:=σ) (w0:=w) (df:=a.defers) hQ ops.size _ σ a _ (by simp) ?_ ?_ ?_
   ·have:∀k,left (Array.replicate ops.size false) k=k:=by
     intro k
     induction k with
     | zero=>rfl
     | succ k ih=>unfold left;rw[ih,hfalse];simp
    rw[this];exact AS _
   ·intro j o hj;rw[hfalse] at hj;cases hj
   ·rw[hDf];refine⟨hg,?_,he.size,λt v hv=>he.rel t v (by rw[<-hV0 t];exact hv),λk hk _ i h1 h2=>?_,?_,rfl⟩
    ·rw[hG0];exact⟨λi b hb=>let ⟨l,x,y⟩:=s.bu i b hb;⟨l,x,y.world rfl⟩,s.inj⟩
    ·have hn0:=(d.nt (R6 k) (SF hk)).next
     have hnN:=(d.nt (i:=k+1) (j:=ops.size) (by omega) (AS _)).next
     exact hf i (by omega) (by omega)
    ·rw[hG0];refine⟨AS _,rfl,rfl,rfl,λ_ _ _=>rfl,λi B l hB hr hl=>.inr ⟨i,B,l,hB,hr,hl,rfl⟩,λ_ _=>rfl⟩
end
end Go.Abs
/-
 Soundness,part twenty-two: code and calls. What the abstract machine computes,the model does.
-/
namespace Go.Abs
open Go
section
variable {C:Ctx}{P:Program}
def Ex.to:Ex->Exit
 | .normal=>.normal
 | .exit id=>.exit id
 | .ret=>.ret
def dn(σ:aY)(h:aq)(w:World)(df:List Deferred)(x:Ex)(e':Env)(h':aq):Exit->Act->World->Prop:=λex a' w'=>
 ex=x.to/\a'.defers=df/\∃σ',fE σ' e' a'/\cU σ' h'.get w'/\Ev σ h.get h.next w σ' h'.get h'.next w'
structure Ko(C:Ctx)(σ:aY)(h h':aq)(w:World)(e:Env)(a:Act):Prop where
 wf:∀i b,h.get i=some b->i<h.next
 gX:oj C σ
 lU:cU σ h.get w
 env:fE σ e a
 fresh:∀i,h.next<=i->i<h'.next->σ i=none
def kg(P:Program)(c:Code)(Q:Exit->Act->World->Prop)(a:Act)(w:World):Prop:=
 ∀(b:Frame) (k:List Item) (cs:List Frame),∃e a' w',Q e a' w'/\Arrives P (lone (b.at a (.code c::.inLoop c::k)) cs w) b k cs e a' w'
theorem ky{c:Code}{Q:Exit->Act->World->Prop}{a:Act}{w:World}(h:kg P c Q a w):(Code.loop c).wp P Q a w:=
 λb k cs=>let ⟨e,a',w',q,r⟩:=h b k cs;⟨e,a',w',q,.of_steps (.one step_loop) r⟩
theorem nX{c:Code}{Q:Exit->Act->World->Prop}{a:Act}{w:World}(h:c.wp P (Exit.then (kg P c Q) Q) a w):kg P c Q a w:=by
 intro b k cs;obtain⟨e,a₁,w₁,hq,harr⟩:=h b (.inLoop c::k) cs;cases e with
 | normal=>
  obtain⟨e₂,a₂,w₂,hq₂,harr₂⟩:=hq b k cs;exact⟨e₂,a₂,w₂,hq₂,.of_steps (Steps.trans harr (.one step_inLoop)) harr₂⟩
 | exit id=>exact⟨_,a₁,w₁,hq,.pass (x:=.inLoop c) rfl (λ_ _=>.inl (by simp)) harr⟩
 | goto l=>exact⟨_,a₁,w₁,hq,.pass (x:=.inLoop c) rfl (λ_ _=>.inl (by simp)) harr⟩
 | ret=>exact⟨_,a₁,w₁,hq,.pass (x:=.inLoop c) rfl (λ_ _=>.inl (by simp)) harr⟩
 | panic ch=>exact⟨_,a₁,w₁,hq,.pass (x:=.inLoop c) rfl (λ_ _=>.inl (by simp)) harr⟩
 | outgrown=>exact⟨_,a₁,w₁,hq,.pass (x:=.inLoop c) rfl (λ_ _=>.inl (by simp)) harr⟩
theorem Br{c:Code}{Q Q':Exit->Act->World->Prop}{a:Act}{w:World}(h:kg P c Q a w)(hq:∀e a w,Q e a w->Q' e a w):kg P c Q' a w:=
 λb k cs=>let ⟨e,a',w',q,r⟩:=h b k cs;⟨e,a',w',hq _ _ _ q,r⟩
structure Fu(C:Ctx)(P:Program)(exe:Nh):Prop where
 eP:∀c e h x e' h',exe c e h=some (x,e',h')->ek h h'
 run:∀c e h x e' h',exe c e h=some (x,e',h')->∀σ w a,Ko C σ h h' w e a->c.wp P (dn σ h w a.defers x e' h') a w
 loop:∀c e h x e' h',exe (.loop c) e h=some (x,e',h')->∀σ w a,Ko C σ h h' w e a->kg P c (dn σ h w a.defers x e' h') a w
theorem tz:∀(vs:List Value) (i:Nat) (t:T Value) (j:Nat),(mQ.go vs i t).get j=if i<=j/\j<i+vs.length then vs[j-i]? else t.get j
 | [],i,t,j=>by
  simp only[mQ.go,UJ];rw[AT (by omega)]
 | v::vs,i,t,j=>by
  rw[mQ.go,tz vs (i+1) _ j,T.kO];simp only[R4];by_cases h1:i+1<=j/\j<i+1+vs.length
  ·rw[By h1,By (by omega)];obtain⟨m,hm⟩:∃m,j-i=m+1:=⟨j-i-1,by omega⟩;rw[hm,TA];congr 1;omega
  ·rw[AT h1];by_cases h2:j=i
   ·subst h2;rw[By rfl,By (by omega)];simp
   ·rw[AT h2,AT (by omega)]
theorem Bt{σ:aY}{args args':List Value}(n:Nat)(h:aJ σ args args') :
  fE σ (mQ n args) { tmps:=⟨args'⟩++Array.replicate (n-(⟨args'⟩:Array Value).size) undef,defers:=[] }:=by
 have hl:=h.length;refine⟨?_,λi v hv=>?_⟩
 ·simp[mQ];omega
 ·have hv:(mQ.go args 0 .e).get i=some v:=hv;rw[tz] at hv;split at hv
  ·rename_i hi;simp only[Nat.sub_zero] at hv;obtain⟨v',h1,h2⟩:=h.get i v hv;refine⟨v',?_,h2⟩;have hi':i<args'.length:=by omega
   rw[Array.getElem?_append_left (by simpa using hi')];simpa using h1
  ·cases hv
def xw(a:Act):ResultVar->Sem Value
 | .tmp t=>pure (a.tmps.getD t undef)
 | .cell b t=>do loadVar t (<-asAddr (a.tmps.getD b undef))
theorem Hz(ok:C.Ok P){σ:aY}{e:Env}{a:Act}{h:aq}{w:World}(he:fE σ e a)(s:cU σ h.get w){r:ResultVar}{v:Value}(q:ss C e h r=some v) :
  ∃v',(xw a r).run P w=.ok v' w/\aL σ v v':=by
 cases r with
 | tmp t=>
  obtain⟨v',h1,h2⟩:=he.rel t v q;exact⟨v',by simp[xw,h1],h2⟩
 | cell b t=>
  simp only[ss] at q;split at q
  ·rename_i p hp;obtain⟨p',h1,h2⟩:=he.rel b p hp;obtain⟨v',h3,h4⟩:=AN ok s h2 q (λ_ _=>rfl);refine⟨v',?_,h4⟩;unfold m5 at q;split at q
   ·obtain⟨l,_,_,rfl⟩:=h2;simp only[xw,Sem.run_bind,RX,h1,Option.getD_some,asAddr,Sem.run_pure,Result.andThen_ok];simpa [Instr.loadAt,Instr.sureAddr] using h3
   ·cases q
  ·cases q
theorem wJ(ok:C.Ok P){σ:aY}{e:Env}{a:Act}{h:aq}{w:World}(he:fE σ e a)(s:cU σ h.get w):∀(rs:List ResultVar) (vs:List Value),kB C e h rs=some vs->
  ∃vs',(rs.mapM (xw a)).run P w=.ok vs' w/\aJ σ vs vs'
 | [],vs,q=>by cases q;exact⟨[],by simp,rfl⟩
 | r::rs,vs,q=>by
  unfold kB at q;split at q
  ·rename_i v vs2 h1 h2;cases q;obtain⟨v',r1,r2⟩:=Hz ok he s h1;obtain⟨vs',r3,r4⟩:=wJ ok he s rs vs2 h2;refine⟨v'::vs',?_,⟨v',vs',rfl,r2,r4⟩⟩;rw[List.mapM_cons];simp only[Sem.run_bind,r1,Result.andThen_ok,r3,Sem.run_pure]
  ·cases q
theorem uB(ok:C.Ok P){σ:aY}{e:Env}{a:Act}{h:aq}{w:World}(he:fE σ e a)(s:cU σ h.get w){fn:Func}{vs:List Value}(q:kB C e h fn.results.toList=some vs) :
  ∃v',(results fn a.tmps).run P w=.ok v' w/\aL σ (ej vs) v':=by
 obtain⟨vs',h1,h2⟩:=wJ ok he s _ vs q;have hm:(results fn a.tmps).run P w=.ok (if h:(⟨vs'⟩:Array Value).size=1 then (⟨vs'⟩:Array Value)[0] else .tuple ⟨vs'⟩) w:=by
  unfold results;rw[Array.mapM_eq_mapM_toList,Sem.run_bind,Sem.run_map];have:∀(f:ResultVar->Sem Value),(∀r,f r=xw a r)->(List.mapM f fn.results.toList).run P w=.ok vs' w:=by
   intro f hf;rw[show f=_ from funext hf];exact h1
  rw[this _ (λr=>by cases r<;>rfl)];rfl
 have hl:=h2.length;refine⟨_,hm,?_⟩
 match vs,vs',h2,hl with
 | [],[],_,_=>exact⟨[],rfl,rfl⟩
 | [v],[v'],h2,_=>
  obtain⟨a',b',q1,q2,q3⟩:=h2;cases q1;exact q2
 | v::u::vs,v'::u'::vs',h2,_=>
  have:¬((⟨v'::u'::vs'⟩:Array Value).size=1):=by simp
  rw[dif_neg this];exact⟨_,rfl,h2⟩
def bS(C:Ctx)(P:Program):Prop:=∀f eJ,C.fact f=some eJ->∀(σ:aY) (g:Nat->Option aE) (n:Nat) (w:World),(∀p∈eJ,g p.1=some p.2)->oj C σ->cU σ g w->
 Calls P f #[] w λen w'=>en=.returned (.bool true)/\cU σ g w'/\Ev σ g n w σ g n w'
theorem Fk(ok:C.Ok P)(fok:bS C P){exe:Nh}(hx:Fu C P exe):mU C P (iu C exe):=by
 constructor
 ·intro f args h v h' q;unfold iu at q;split at q
  ·rename_i eJ _;cases hb:(args.isEmpty&&eJ.all (λp=>nJ (h.get p.1) (some p.2))) with
   | false=>rw[hb] at q;cases q
   | true=>rw[hb] at q;cases q;exact ek.refl _
  split at q
  ·cases q
  ·split at q
   ·cases q
   ·split at q
    ·cases q
    ·rename_i x e h1 _ hexe;split at q
     ·cases q;exact hx.eP _ _ _ _ _ _ hexe
     ·cases q
    ·cases q
 ·intro f args h v h' q hw σ w args' hg s hr hf;unfold iu at q;split at q
  ·rename_i eJ hft;cases hb:(args.isEmpty&&eJ.all (λp=>nJ (h.get p.1) (some p.2))) with
   | false=>rw[hb] at q;cases q
   | true=>
    rw[hb] at q;cases q;simp only[IN,List.isEmpty_iff] at hb;obtain⟨rfl,hb⟩:=hb;cases hr;refine(fok f eJ hft σ h.get h.next w (λp hp=>BT (SI.1 hb p hp)) hg s).mono ?_
    rintro en w' ⟨rfl,h1,h2⟩;exact⟨_,σ,rfl,rfl,h1,h2⟩
  split at q
  ·cases q
  ·rename_i fn hfn;split at q
   ·cases q
   ·rename_i c hb;split at q
    ·cases q
    ·rename_i x e1 h1 hne hexe;split at q
     ·rename_i vs hvs;cases q;refine calls_of_wp (ok.func f fn hfn) hb ?_;have henv:=Bt fn.ntmps hr;have hpre:Ko C σ h h' w (mQ fn.ntmps args) _:=⟨hw,hg,s,henv,hf⟩;refine wp_mono (hx.run c _ h x e1 h' hexe σ w _ hpre) ?_;rintro ex a' w' ⟨rfl,hd,σ',r1,r2,r3⟩;obtain⟨v',p1,p2⟩:=uB ok r1 r2 hvs;cases x with
      | normal=>exact⟨hd,v',p1,v',σ',rfl,p2,r2,r3⟩
      | ret=>exact⟨hd,v',p1,v',σ',rfl,p2,r2,r3⟩
      | exit id=>exact absurd rfl (hne id)
     ·cases q
    ·cases q
theorem dn.then{σ σ1:aY}{h h1 h2:aq}{w w1:World}{df:List Deferred}(r3:Ev σ h.get h.next w σ1 h1.get h1.next w1)(hev1:ek h h1)(hev2:ek h1 h2){x:Ex}{e2:Env}{ex:Exit}{a':Act}{w':World}
  (hp:dn σ1 h1 w1 df x e2 h2 ex a' w'):dn σ h w df x e2 h2 ex a' w':=by
 obtain⟨p1,p2,σ',p3,p4,p5⟩:=hp;exact⟨p1,p2,σ',p3,p4,r3.trans p5 hev1.next hev2.next⟩
theorem Ko.next{σ σ1:aY}{h h1 h2:aq}{w w1:World}{e e1:Env}{a a1:Act}(hp:Ko C σ h h2 w e a)(hev1:ek h h1)(hev2:ek h1 h2)(r1:fE σ1 e1 a1)(r2:cU σ1 h1.get w1)
  (r3:Ev σ h.get h.next w σ1 h1.get h1.next w1):Ko C σ1 h1 h2 w1 e1 a1 where
 wf:=hev1.wf hp.wf
 gX:=hp.gX.mono (r3.le λi q1 q2=>hp.fresh i q1 (SH q2 hev2.next))
 lU:=r2
 env:=r1
 fresh:=λi q1 q2=>by
  rw[r3.sig i (.inr q1)];exact hp.fresh i (AI hev1.next q1) q2
theorem Ko.first{σ:aY}{h h1 h2:aq}{w:World}{e:Env}{a:Act}(hp:Ko C σ h h2 w e a)(hev2:ek h1 h2):Ko C σ h h1 w e a:=
 ⟨hp.wf,hp.gX,hp.lU,hp.env,λi q1 q2=>hp.fresh i q1 (SH q2 hev2.next)⟩
theorem GD(ok:C.Ok P){cal:u0}(hcal:mU C P cal){all:List Oper}:∀(rest:List Oper) (e e':Env) (h h':aq) (tr:List xH),iQ C cal all rest e h=some (e',h',tr)->ek h h':=by
 intro rest
 induction rest with
 | nil=>intro e e' h h' tr q;cases q;exact ek.refl _
 | cons o rest ih=>
  intro e e' h h' tr q;unfold iQ at q;split at q
  ·cases q
  ·rename_i e1 h1 hst;split at q
   ·cases q
   ·rename_i e2 h2 l ht;cases q;exact(ob ok hcal hst).trans (ih _ _ _ _ _ ht)
theorem DR(ok:C.Ok P){cal:u0}(hcal:mU C P cal){ops:List Oper}{draw:Bool}{e e':Env}{h h':aq}(q:mF C cal ops draw e h=some (e',h')):ek h h':=by
 unfold mF at q;cases draw with
 | false=>exact o7 ok hcal _ _ _ _ _ q
 | true=>
  simp only[RH] at q;split at q
  ·cases q
  ·rename_i ht;obtain⟨_,q⟩:=lS q;cases q;exact GD ok hcal _ _ _ _ _ _ ht
theorem LN(ok:C.Ok P)(fok:bS C P){exe:Nh}(hx:Fu C P exe):Fu C P (bB C exe):=by
 have hcal:=Fk ok fok hx;have eP:∀c e h x e' h',bB C exe c e h=some (x,e',h')->ek h h':=by
  intro c e h x e' h' q;unfold bB at q;split at q
  ·cases q;exact ek.refl _
  ·split at q
   ·rename_i hr;cases q;exact DR ok hcal hr
   ·cases q
  ·split at q
   ·rename_i h1;exact(hx.eP _ _ _ _ _ _ h1).trans (hx.eP _ _ _ _ _ _ q)
   ·exact hx.eP _ _ _ _ _ _ q
  ·split at q
   ·exact hx.eP _ _ _ _ _ _ q
   ·exact hx.eP _ _ _ _ _ _ q
   ·cases q
  ·split at q
   ·rename_i h1;cases q;exact hx.eP _ _ _ _ _ _ h1
   ·exact hx.eP _ _ _ _ _ _ q
  ·split at q
   ·rename_i h1;exact(hx.eP _ _ _ _ _ _ h1).trans (hx.eP _ _ _ _ _ _ q)
   ·exact hx.eP _ _ _ _ _ _ q
  ·cases q;exact ek.refl _
  ·cases q;exact ek.refl _
  ·cases q
 have hloop:∀c e h x e' h',bB C exe (.loop c) e h=some (x,e',h')->∀σ w a,Ko C σ h h' w e a->kg P c (dn σ h w a.defers x e' h') a w:=by
  intro c e h x e' h' q σ w a hp;simp only[bB] at q;refine nX ?_;split at q
  ·rename_i e1 h1 q1;have hev1:=hx.eP _ _ _ _ _ _ q1;have hev2:=hx.eP _ _ _ _ _ _ q;refine wp_mono (hx.run _ _ _ _ _ _ q1 σ w a (hp.first hev2)) ?_
   rintro ex a1 w1 ⟨rfl,hd,σ1,r1,r2,r3⟩;show kg P c _ a1 w1;have hp1:=hp.next hev1 hev2 r1 r2 r3
   have:=hx.loop c e1 h1 x e' h' q σ1 w1 a1 hp1;exact Br this λex a' w' hh=>dn.then r3 hev1 hev2 (by rw[hd] at hh;exact hh)
  ·rename_i hno;refine wp_mono (hx.run _ _ _ _ _ _ q σ w a hp) ?_;rintro ex a1 w1 hpost;obtain⟨rfl,hd,σ1,r1,r2,r3⟩:=hpost;cases x with
   | normal=>exact absurd q (λhh=>hno _ _ hh)
   | exit id=>exact⟨rfl,hd,σ1,r1,r2,r3⟩
   | ret=>exact⟨rfl,hd,σ1,r1,r2,r3⟩
 refine⟨eP,λc e h x e' h' q σ w a hp=>?_,hloop⟩;cases c with
 | skip=>
  cases q;exact wp_skip ⟨rfl,rfl,σ,hp.env,hp.lU,Ev.refl _ _ _ _⟩
 | region id ops draw=>
  simp only[bB] at q;split at q
  ·rename_i e1 h1 hr;cases q;refine Hy ok hcal hr hp.wf hp.gX hp.lU hp.env hp.fresh λσ' a' w' r1 r2 r3 r4=>⟨rfl,r2,σ',r1,r3,r4⟩
  ·cases q
 | seq x1 y1=>
  simp only[bB] at q;refine wp_seq ?_;split at q
  ·rename_i e1 h1 q1;have hev1:=hx.eP _ _ _ _ _ _ q1;have hev2:=hx.eP _ _ _ _ _ _ q;refine wp_mono (hx.run _ _ _ _ _ _ q1 σ w a (hp.first hev2)) ?_
   rintro ex a1 w1 ⟨rfl,hd,σ1,r1,r2,r3⟩;show y1.wp P _ a1 w1;have hp1:=hp.next hev1 hev2 r1 r2 r3
   refine wp_mono (hx.run _ _ _ _ _ _ q σ1 w1 a1 hp1) λex a' w' hh=>dn.then r3 hev1 hev2 (by rw[hd] at hh;exact hh)
  ·rename_i hno;refine wp_mono (hx.run _ _ _ _ _ _ q σ w a hp) ?_;rintro ex a1 w1 ⟨rfl,hd,σ1,r1,r2,r3⟩;cases x with
   | normal=>exact absurd q (λhh=>hno _ _ hh)
   | exit id=>exact⟨rfl,hd,σ1,r1,r2,r3⟩
   | ret=>exact⟨rfl,hd,σ1,r1,r2,r3⟩
 | cond cc x1 y1=>
  simp only[bB] at q;have hop:=hp.env.uR hp.gX;split at q
  ·rename_i hc;have:a.eval cc=.bool true:=hop cc _ hc;exact wp_cond_true this (hx.run _ _ _ _ _ _ q σ w a hp)
  ·rename_i hc;have:a.eval cc=.bool false:=hop cc _ hc;exact wp_cond_false this (hx.run _ _ _ _ _ _ q σ w a hp)
  ·cases q
 | block id b=>
  simp only[bB] at q;refine wp_block ?_;split at q
  ·rename_i i e1 h1 q1;cases q;refine wp_mono (hx.run _ _ _ _ _ _ q1 σ w a hp) ?_;rintro ex a1 w1 ⟨rfl,hd,σ1,r1,r2,r3⟩;simp only[Ex.to,Exit.inBlock];cases hi:(i==id) with
   | true=>
    have:i=id:=by simpa using hi
    rw[By this];exact⟨rfl,hd,σ1,r1,r2,r3⟩
   | false=>
    have:¬i=id:=by simpa using hi
    rw[AT this];exact⟨rfl,hd,σ1,r1,r2,r3⟩
  ·rename_i hno;refine wp_mono (hx.run _ _ _ _ _ _ q σ w a hp) ?_;rintro ex a1 w1 ⟨rfl,hd,σ1,r1,r2,r3⟩;cases x with
   | normal=>exact⟨rfl,hd,σ1,r1,r2,r3⟩
   | exit i=>exact absurd q (λhh=>hno _ _ _ hh)
   | ret=>exact⟨rfl,hd,σ1,r1,r2,r3⟩
 | loop b=>exact ky (hloop b e h x e' h' q σ w a hp)
 | exit id=>
  cases q;exact wp_exit ⟨rfl,rfl,σ,hp.env,hp.lU,Ev.refl _ _ _ _⟩
 | ret=>
  cases q;exact wp_ret ⟨rfl,rfl,σ,hp.env,hp.lU,Ev.refl _ _ _ _⟩
 | _=>cases q
theorem Ay(ok:C.Ok P)(fok:bS C P):∀n,Fu C P (exec C n)
 | 0=>⟨λ_ _ _ _ _ _ q=>(by cases q),λ_ _ _ _ _ _ q=>(by cases q),λ_ _ _ _ _ _ q=>(by cases q)⟩
 | n+1=>LN ok fok (Ay ok fok n)
theorem nH(ok:C.Ok P)(fok:bS C P)(n:Nat):mU C P (call C n):=Fk ok fok (Ay ok fok n)
end
end Go.Abs
/-
 Soundness,last part: a program's context,its own small checks,and the runs from arguments alone.
-/
namespace Go.Abs
open Go Go.RowKit
def mT(P:Program)(mask cK:Nat):Ctx:={ info:=P.info?,func:=λi=>P.funcs[i]?,cK:=cK,flat:=λt=>mask.testBit t }
def LG (P:Program):Bool:=P.funcs.toList.all λfn=>!(fn.name == "runtime.NumGoroutine")
def Kb:Option TypeDesc->Bool
 | some (.struct fs)=>fs.toList.all λf=>!(f.name == "_")
 | _=>true
def H8(P:Program)(mask:Nat):Bool:=Nat.blt mask (2 ^ P.types.size) &&
 (List.range P.types.size).all λt=>!(mask.testBit t)||(!(P.stoodInHeld t)&&!(P.eqGuardType P.depth t)&&Kb ((mT P mask 0).gZ t))
theorem IG{P:Program}{mask cK:Nat}(h1:LG P=true)(h2:H8 P mask=true)(h3:P.follows .mixedOrders=true):(mT P mask cK).Ok P:=by
 constructor
 ·intro t i q;exact q
 ·intro f fn q;exact q
 ·intro f fn q hb args w;have q:P.funcs[f]?=some fn:=q;have hn:(fn.name == "runtime.NumGoroutine")=false:=by
   have hm:fn∈P.funcs.toList:=by
    rw[SS];exact Array.mem_of_getElem? q
   have:=SI.1 h1 fn hm;simpa using this
  obtain⟨c,hc⟩:=Option.isSome_iff_exists.1 hb;have e:(fn.name = "runtime.NumGoroutine")=False:=by simpa using hn
  simp[callFunc,q,e,hc]
 ·intro t q;simp only[H8,IN] at h2;obtain⟨h2,h4⟩:=h2;have q:mask.testBit t=true:=q;have hlt:t<P.types.size:=by
   rcases R2 t P.types.size with h | h
   ·exact h
   ·have h5:mask<2 ^ P.types.size:=by simpa [Nat.blt_eq] using h2
    have:mask<2 ^ t:=SH h5 (RS (by decide) h);rw[TF this] at q;cases q
  have h6:=SI.1 h4 t (RQ.2 hlt);rw[q] at h6;simp only[Tp,Bool.false_or,IN,Tu] at h6;refine⟨h6.1.1,h6.1.2,λfs hfs f hf=>?_⟩;have h7:=h6.2;have hfs:(mT P mask 0).gZ t=some (.struct fs):=hfs;rw[hfs] at h7;have:=SI.1 h7 f hf;simpa using this
 ·exact h3
def IC(C:Ctx)(n f:Nat)(args:List Value)(h:aq):Bool:=match call C n f args h with
 | some (.bool true,_)=>true
 | _=>false
theorem Ev.below{σ σ':aY}{g g':Nat->Option aE}{n n':Nat}{w w':World}(h:Ev σ g n w σ' g' n' w')(hro:∀i b,g i=some b->b.ro=true):Below w.heap.size w w' where
 os:=h.os
 tape:=h.tape
 output:=h.out
 size:=h.size
 block:=λk hk=>h.mg k hk (λi B l hB hr=>by rw[hro i B hB] at hr;cases hr)
section
open Go.ChangeShapes Go.WideShapes
variable {H:Type}{enc:TypeId×Value->H}{P:Program}
theorem xY{f:Func}{s:ChangeSpec}{apart fresh handsOn again:Bool}{W W':World}{args:Array Value}{v:Value}{ds gs:List (DataW H)}{before pa pv:List MemPlace}
  (hW:DataW.Whole enc P f.params.toList s.vars apart W args.toList ds gs before)
  (hres:∀(b:Nat) (sp:Nat->Bool) (hd:Bool),DataW.TrodAll enc P W' b sp hd f.resultTypes.toList (v.resultList f.resultTypes.size) (s.fn H (ds++gs)).results [])
  (hargs:∀sp:Nat->Bool,(∀p∈before,sp p.block=true)->DataW.TrodAll enc P W' 0 sp true f.params.toList args.toList (s.fn H (ds++gs)).args pa)
  (hvars:∀sp:Nat->Bool,(∀p∈before,sp p.block=true)->DataW.TrodVars enc P W' sp s.vars (s.fn H (ds++gs)).vars pv)
  (hps:before=pa++pv) (hk:Below W.heap.size W W')
  (hok:∀(j:Nat) (t:TypeId) (r:Value),f.resultTypes[j]?=some t->(v.resultList f.resultTypes.size)[j]?=some r->Value.okWide P W' .any 0 t r) :
  s.post enc P f apart fresh handsOn again W args v W':=by
 have hold:∀p∈before,(λb=>decide (b<W.heap.size)) p.block=true:=λp hp=>by simpa using hW.lt p hp
 have hlt:=λp hp=>hW.lt p hp;refine⟨ds,gs,before,[],pa,pv,hW,hres _ _ _,hargs _ hold,hvars _ hold,World.keptBut_mono (λp hp=>⟨hp,?_⟩) (hk.frame (·∈before)),λ_=>?_⟩
 ·rw[hps,R5] at hp;exact Or.inr hp
 ·obtain⟨_,_,_,_,_,hz,hn⟩:=hW;refine⟨hok,_,_,([]++pa)++pv,⟨[]++pa,pv,trodAll_append (hargs _ (λ_ _=>rfl)) (hres _ _ _),hvars _ (λ_ _=>rfl),rfl,?_,?_⟩,?_⟩
  ·intro b off hp;have hp:MemPlace.cell b off∈before:=by rw[hps];simpa using hp
   rw[hk.frozen (hlt _ hp)];exact hz b off hp
  ·intro ha;have:=hn ha;rw[hps] at this;simpa using this
  ·intro p hp _;rw[hps];simpa using hp
end
def Ah:List (Nat×List (Nat×aE))->Nat->Option (List (Nat×aE))
 | [],_=>none
 | (f,eJ)::l,g=>bif Nat.beq f g then some eJ else Ah l g
def Nc(P:Program)(mask cK:Nat)(facts:List (Nat×List (Nat×aE))):Ctx:={ mT P mask cK with fact:=Ah facts }
theorem Lw{P:Program}{mask cK:Nat}{facts:List (Nat×List (Nat×aE))}(h:(mT P mask cK).Ok P):(Nc P mask cK facts).Ok P:=⟨h.info,h.func,h.call,h.flat,h.mixed⟩
def gR:List (Nat×aE)->T aE
 | []=>.e
 | p::l=>(gR l).set p.1 (some p.2)
theorem oP:∀(l:List (Nat×aE)) (i:Nat) (b:aE),(gR l).get i=some b->(i,b)∈l
 | [],i,b,h=>by simp[gR,T.get] at h
 | p::l,i,b,h=>by
  simp only[gR] at h;rw[T.kO] at h;split at h
  ·rename_i e;cases h;subst e;exact RR ..
  ·exact If _ (oP l i b h)
def uk:Value->Bool
 | .int _ _=>true
 | .bool _=>true
 | _=>false
def qQ:aE->Bool
 | .cells ro cs=>ro&&cs.all uk
 | .map _=>false
theorem Hm{σ τ:aY}:∀{v v':Value},uk v=true->aL σ v v'->aL τ v v'
 | .int _ _,_,_,r=>r
 | .bool _,_,_,r=>r
 | .float ..,_,h,_=>by cases h
 | .complex ..,_,h,_=>by cases h
 | .string ..,_,h,_=>by cases h
 | .pointer ..,_,h,_=>by cases h
 | .slice ..,_,h,_=>by cases h
 | .map ..,_,h,_=>by cases h
 | .chan ..,_,h,_=>by cases h
 | .func ..,_,h,_=>by cases h
 | .nilFunc,_,h,_=>by cases h
 | .iface ..,_,h,_=>by cases h
 | .nilIface,_,h,_=>by cases h
 | .agg ..,_,h,_=>by cases h
 | .tuple ..,_,h,_=>by cases h
theorem vF{σ τ:aY}:∀{vs l:List Value},vs.all uk=true->aJ σ vs l->aJ τ vs l
 | [],_,_,r=>r
 | v::vs,_,h,⟨a,b,e,r,s⟩=>by
  simp only[List.all_cons,IN] at h;exact⟨a,b,e,Hm h.1 r,vF h.2 s⟩
theorem GO{σ τ:aY}{w:World}{l:Loc}:∀{b:aE},qQ b=true->kX σ w l b->kX τ w l b
 | .cells ro cs,h,⟨a,t,f,q1,q2,q3,q4,r⟩=>by
  simp only[qQ,IN] at h;exact⟨a,t,f,q1,q2,q3,q4,vF h.2 r⟩
 | .map _,h,_=>by cases h
theorem lR:∀{b:aE},qQ b=true->b.ro=true
 | .cells ro cs,h=>by simp only[qQ,IN] at h;exact h.1
 | .map _,h=>by cases h
theorem kX.lt_size{σ:aY}{w:World}{l:Loc}:∀{b:aE},kX σ w l b->l.bu<w.heap.size
 | .cells _ _,⟨_,_,_,q,_⟩=>(RV.1 q).1
 | .map _,⟨_,q,_⟩=>(RV.1 q).1
def oW(C:Ctx)(n f:Nat)(eJ:List (Nat×aE)):Bool:=eJ.all (λp=>Nat.blt p.1 C.cK&&qQ p.2)&&IC C n f [] ⟨C.cK,gR eJ⟩
theorem LY{P:Program}{C:Ctx}(ok:C.Ok P)(hnf:C.fact=λ_=>none){n f:Nat}{eJ:List (Nat×aE)}(hrun:oW C n f eJ=true)(σ:aY)(g:Nat->Option aE)(m:Nat)(w:World)(htabs:∀p∈eJ,g p.1=some p.2)(hglob:oj C σ)(hsim:cU σ g w) :
  Calls P f #[] w λen w'=>en=.returned (.bool true)/\cU σ g w'/\Ev σ g m w σ g m w':=by
 simp only[oW,IN] at hrun;obtain⟨hall,q⟩:=hrun;unfold IC at q;split at q
 ·rename_i h' hc;have hmem:∀i b,(⟨C.cK,gR eJ⟩:aq).get i=some b->(i,b)∈eJ:=λi b hb=>oP eJ i b hb;have hprop:∀i b,(⟨C.cK,gR eJ⟩:aq).get i=some b->i<C.cK/\qQ b=true/\g i=some b:=λi b hb=>by
   have h1:=hmem i b hb;have h2:=SI.1 hall _ h1;simp only[IN,Nat.blt_eq] at h2;exact⟨h2.1,h2.2,htabs _ h1⟩
  let σ0:aY:=λi=>if i<C.cK then σ i else none;have hσ:∀i,i<C.cK->σ0 i=σ i:=λi hi=>By hi;have hglob0:oj C σ0:=λi hi=>by obtain⟨l,h1,h2⟩:=hglob i hi;exact⟨l,by rw[hσ i hi];exact h1,h2⟩
  have hsim0:cU σ0 (⟨C.cK,gR eJ⟩:aq).get w:=by
   constructor
   ·intro i b hb;obtain⟨h1,h2,h3⟩:=hprop i b hb;obtain⟨l,h4,h5⟩:=hsim.bu i b h3;exact⟨l,by rw[hσ i h1];exact h4,GO h2 h5⟩
   ·intro i j b c li lj hb hc' hij hro hi hj;obtain⟨h1,h2,h3⟩:=hprop i b hb;obtain⟨h4,h5,h6⟩:=hprop j c hc';rw[lR h2,lR h5] at hro;simp at hro
  refine((nH ok (λf eJ hf=>(by rw[hnf] at hf;cases hf)) n).run f [] _ _ _ hc (λi b hb=>(hprop i b hb).1) σ0 w [] hglob0 hsim0 rfl (λi hi _=>AT (by simp only at hi;omega))).mono ?_;rintro e w' ⟨v',σ',rfl,hv,hs,eP⟩;have hv:v'=.bool true:=hv;subst hv;have hkeep:∀b,b<w.heap.size->w'.heap[b]?=w.heap[b]?:=λb hb=>eP.mg b hb λi B l hi hro hs=>by
   rw[lR (hprop i B hi).2.1] at hro;cases hro
  refine⟨rfl,⟨λi b hb=>?_,hsim.inj⟩,⟨eP.size,eP.os,eP.out,eP.tape,λb hb _=>hkeep b hb,λi B l h1 h2 h3=>.inr ⟨i,B,l,h1,h2,h3,rfl⟩,λ_ _=>rfl⟩⟩;obtain⟨l,h1,h2⟩:=hsim.bu i b hb;exact⟨l,h1,h2.world (hkeep _ h2.lt_size)⟩
 ·cases q
theorem KE{P:Program}{mask cK:Nat}{facts:List (Nat×List (Nat×aE))}(ok:(mT P mask cK).Ok P){n:Nat}(h:∀p∈facts,oW (mT P mask cK) n p.1 p.2=true):bS (Nc P mask cK facts) P:=by
 intro f eJ hf σ g m w htabs hglob hsim;have hmem:∀l:List (Nat×List (Nat×aE)),Ah l f=some eJ->(f,eJ)∈l:=by
  intro l
  induction l with
  | nil=>intro h;cases h
  | cons p l ih=>
   intro h;simp only[Ah] at h;cases hb:Nat.beq p.1 f with
   | true=>
    rw[hb] at h;have:=R8 hb;cases h;rw[<-this];exact RR ..
   | false=>rw[hb] at h;exact If _ (ih h)
 exact LY (C:=mT P mask cK) ok rfl (h _ (hmem _ hf)) σ g m w htabs hglob hsim
end Go.Abs