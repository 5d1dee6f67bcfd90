/-
  Walks: what functions of the program do, over the abstract machine.
-/
import Derived.Test.YtcldmcmclejlhaaGreatDoorWk1
set_option linter.unusedVariables false
set_option maxRecDepth 20000
set_option maxHeartbeats 0
open Go Go.Abs Go.Proofs Go.Proofs.D
set_option linter.unusedVariables false
set_option maxRecDepth 20000
set_option maxHeartbeats 0
open Go Go.Abs Go.Proofs Go.Proofs.D
namespace Go.Proofs.D
theorem w8(F:aA){p:LP}{Ns:List Node}{r:LR}{s:pS}{c:aT}{done ex:List aT}(g:A4 p Ns F r s)(hf:(bW Ns).Good)(hI:Inv (bW Ns) p.most s done [] ex)(hc:mm (bW Ns) p.most c)(U:∀T,cY (bW Ns) s.lists c=some T->∀v,(bW Ns).leaf v=none->∀x∈s.lists v,Ek x T)(hm:p.most<=1000)(I:s.seen.length<800000000000)(J:Ns.length<=1000000)(t0:Value)(ae:Go.Abs.one t0=true) :
  Abs.Spec CC 81 [.pointer (some ⟨p.li,0,none⟩),.agg ⟨gU c t0⟩] F [Bb p r] λF' v o=>∃B',o=[B']/\∃t,B'=Bb p t/\A4 p Ns F' t (ji (bW Ns) s c):=by
 unfold gU;refine Abs.Spec.fn (n:=20) Tryz.func81 rfl rfl λown=>?_;refine AW.seq (AW.fp ?_);refine WT.bN Z Z Z Z Z Z (λi3 ag=>?_);refine WT.le (ah.cons _ (oj p r own)) ?_;refine gz ?_;refine WT.IH OS (key:=c) hT 4 g.se Z Z Z Z Z Z Z me Z Z Z ?_;rw[g.sl c];by_cases i:c∈s.seen
 ·rw[n0 i];refine gz ?_;refine AW.cond Z (λh=>(by cases h)) (λ_=>?_);refine AW.le (ah.trans (fO p r own) (ah.skip _ oR)) ?_;refine AW.skip ⟨_,[_],rfl,bF,_,rfl,r,rfl,?_⟩;unfold ji;rw[n0 i];exact g
 ·rw[nw i];refine gz ?_;refine AW.cond Z (λ_=>?_) (λh=>(by cases h));refine gz ?_;refine WT.NW OS (key:=c) hT 4 0 g.se Z Z Z Z Z Z Z Z Z Z (λ_=>rfl) (λ_=>rfl) (λj l=>?_);refine gz ?_;have P:A4 p Ns F { r with se:=j,sm:=cE r.sm c (.bool true) } { s with seen:=s.seen++[c] }:=
   ⟨g.nodes,g.q,g.qp,g.qh,g.rows,g.uq,g.trees,l,λx=>by
    show Abs.look (cE r.sm c (.bool true)) x=if x∈s.seen++[c] then some (.bool true) else none;rw[fT,g.sl x];by_cases e:x=c
    ·rw[n0 e,n0 (by rw[e];simp)]
    ·rw[nw e];by_cases C:x∈s.seen
     ·rw[n0 C,n0 (Te _ C)]
     ·rw[nw C,nw (λh3=>by
       rcases D1.1 h3 with h3 | h3
       ·exact C h3
       ·exact e (ti.1 h3))],g.we,g.wn,g.ws,g.wg⟩
  refine WT.le (own2:=[(i3,.cells false [.int .i64 c.node,.int .i64 c.pack,.int .i64 c.r0,.int .i64 c.r1,.int .i64 c.r2,.int .i64 c.r3,.pointer none])]::Bb p { r with se:=j,sm:=cE r.sm c (.bool true) }::own) (ah.cons _ (fO p { r with se:=j,sm:=cE r.sm c (.bool true) } own)) ?_;refine WT.iA 1 Tryz.func117 Z Z Z Z Z Z Z (λ_=>rfl) (BU F P hf (hI.Qu hc i) hm (by show (s.seen++[c]).length<=_;rw[sj,Tw];omega) J) (λF4 v B4 al hv=>?_);obtain⟨t,rfl,R⟩:=hv;refine WT.le (ah.skip _ oR) ?_;refine aq ?_
  refine⟨_,[_],rfl,bF,_,rfl,t,rfl,?_⟩;unfold ji;rw[nw i];exact R
theorem K6{c:aT}{j r:Nat}{t:Value}(h:c.cl[j]?=some r):([.int .i64 c.node,.int .i64 c.pack,.int .i64 c.r0,.int .i64 c.r1,.int .i64 c.r2,.int .i64 c.r3,t]:List Value).set (0+2+j*1) (.int .i64 ((r+1:Nat):Int))=gU (c.inc j) t:=by
 match j,h with| 0,h=>{simp[aT.cl] at h;subst h;rfl}| 1,h=>{simp[aT.cl] at h;subst h;rfl}| 2,h=>{simp[aT.cl] at h;subst h;rfl}| 3,h=>{simp[aT.cl] at h;subst h;rfl}| _+4,h=>{simp[aT.cl] at h}
structure ID where
 r:LR
 s:pS
theorem Et(F:aA){p:LP}{Ns:List Node}{r:LR}{s:pS}{c:aT}{T:Tree}{tp:Nat}{q:List (aT×Tree)}{done:List aT}(g:A4 p Ns F r { s with q:=q })(hf:(bW Ns).Good)(hI:Inv (bW Ns) p.most { s with q:=(c,T)::q } done [] [])(hb:oB (bW Ns) s)(bc:∀y∈q,Ek T y.2)(cp:T.pre.length<=5000)(cs:Sh F tp T)
  (hm:p.most<=1000) (ct:s.seen.length+4<800000000000) (bd:Ns.length<=1000000) :
  Abs.Spec CC 83 [.pointer (some ⟨p.li,0,none⟩),.agg ⟨gU c (.pointer (some ⟨tp,0,none⟩))⟩] F [Bb p r] λF' v o=>∃B',o=[B']/\∃r' s',B'=Bb p r'/\A4 p Ns F' r' s'/\Inv (bW Ns) p.most s' (c::done) [] []/\oB (bW Ns) s'/\
   (((s.lists c.node).length=p.most/\s'.lists=s.lists/\s'.seen=s.seen)\/((s.lists c.node).length<p.most/\s'.lists=j1 s.lists c.node T/\s'.seen.length<=s.seen.length+4)):=by
 have e6:=g.nodes.len;have cv:=hI.yH (c,T) me;have ac:mm (bW Ns) p.most c:=hI.ok c cv.1;obtain⟨pk,J⟩:=ac.pack;have cx:c.node<Ns.length:=ac.node;obtain⟨x,P⟩:∃x,Ns[c.node]?=some x:=⟨_,gE cx⟩;have bf:x.cr[c.pack]?=some pk:=by
  unfold eP bW at J;simpa [P] using J
 have hkid:=hf.kids c.node ac.node pk (gM J);obtain⟨ps,al⟩:∃ps,r.qD[c.node]?=some ps:=⟨_,gE (by have:=g.uq;omega)⟩;obtain⟨va,t,vc,VB,b1,b2,bi,c2,bn,bo⟩:=g.rows.split al;have br:lT F ps (s.lists c.node):=g.trees c.node ps al;have ad:=bn.len;have I:=br.len;have hlen:(s.lists c.node).length<=p.most:=hI.len c.node;unfold gU;refine Abs.Spec.fn (n:=101) Tryz.func83 rfl rfl λown=>?_;refine AW.seq (AW.fp ?_);refine WT.bN Z Z Z Z Z Z (λi3 e8=>?_);refine WT.le (ah.cons _ (oj p r own)) ?_;refine gz ?_
 refine WT.cH (j:=c.node) (s:=1) hT Z Z Z Z Z Z Z Z Z zo ?_;refine WT.loadAt hT 2 Z Z Z Z Z Z me Z Z (v:=.slice va t vc) (by rw[AI,Tp];exact bi) ?_;refine gz ?_;refine AW.cond Z (λhc=>?_) (λhc=>?_)
 ·have hc:t=p.most:=by simp at hc;omega
  refine AW.le (ah.trans (fO p r own) (ah.skip _ oR)) ?_;refine AW.ret ⟨_,[_],rfl,bF,_,rfl,r,{ s with q:=q },rfl,g,hI.drop (by rw[I,<-ad];exact hc),hb,.inl ⟨by rw[I,<-ad];exact hc,rfl,rfl⟩⟩
 ·have hc:t<p.most:=by simp at hc;omega
  have c4:=hI.take hf hb bc (by rw[I,<-ad];exact hc) cp;have an:(s.lists c.node).length=t:=by rw[I,<-ad]
  refine gz ?_;rw[c2];refine AW.le (ah.cons _ (ah.cons _ (ah.cons _ (nV b1 VB b2 _)))) ?_;refine AW.draw (ps:=[(3,16),(3,17),(5,16),(5,17),(9,16),(11,16),(13,16)]) Z Z ?_;refine gz ?_;refine WT.cH (j:=c.node) (s:=1) hT Z Z Z Z Z Z Z Z Z zo ?_;refine WT.loadAt hT 2 Z Z Z Z Z Z me Z Z (v:=.slice va t vc) (by rw[AI,Tp];exact bi) ?_;refine gz ?_;refine WT.aR hT Z Z Z Z Z Z Z Z Z Z Z Z Z Z (λi9 fa=>?_)
  refine WT.aZ (ys:=[tp]) hT 5 bn Z (λ_=>rfl) Z Z Z Z Z Z Z Z Z Z Z (λh0 s0=>aN hT s0 0 Z Z Z Z) (aG.single (R:=jU) (x:=tp) rfl) Z (by decide) fj (λa3 c3 B3 c6=>?_);refine WT.cH (j:=c.node) (s:=1) hT Z Z Z Z Z Z Z Z Z zo ?_;refine WT.storeAt hT 3 0 Z Z Z Z Z Z Z Z Z Z (by have:=g.rows.len;have:=g.uq;omega) Z Z ?_;rw[show 0+c.node*1=c.node by omega];refine gz ?_;refine⟨OG,?_⟩;refine gz ?_;refine WT.az hT Z Z Z Z Z Z (λi5 fc=>?_);refine gz ?_;obtain⟨xa,xn,xc,WB,W1,W2,c7,bs,bt,_,bv,bx,b0⟩:=g.ws.slot g.wn (c.node,t)
  refine WT.IH Lk (key:=(c.node,t)) hT 8 g.we Z Z Z Z Z Z Z me Z Z Z ?_;rw[c7];refine gz ?_;refine WT.NH Lk (key:=(c.node,t)) hT 8 0 g.we Z Z Z Z Z Z Z Z Z (λ_=>rfl) (λ_=>rfl) (λc8 b3=>?_);refine gz ?_;have c9:s.waits (c.node,(s.lists c.node).length)=eS r.ws (c.node,t):=by rw[an];exact g.wg _
  have ar:=hI.Ov (c.node,t);rw[show ({ s with q:=(c,T)::q }:pS).waits (c.node,t)=eS r.ws (c.node,t) from g.wg _] at ar;have ar:(eS r.ws (c.node,t)).length<=s.seen.length:=ar;have fk:=bt.len;obtain⟨kI,aa,kW,b4,dd,df⟩:=c4;rw[c9] at kI kW;have dk:A4 p Ns F ⟨r.qa,r.qn,r.qc,r.qB,r.Q,r.vs.set c.node (.slice a3 (t+1) c3),b1++(B3++b2),r.qD.set c.node (ps++[tp]),r.se,r.sm,c8,kP r.wm (c.node,t),W1++W2,bv⟩ (tA s c T q):=
   ⟨g.nodes,g.q,g.qp,g.qh,bo a3 (t+1) c3 B3 _ c6,by rw[TX];exact g.uq,λv us C=>by
    show lT F us (j1 s.lists c.node T v);have C:(r.qD.set c.node (ps++[tp]))[v]?=some us:=C;by_cases e:v=c.node
    ·subst e;rw[xk (gS al).1] at C;cases C;rw[kX];exact lT.app br (.cons cs .nil)
    ·rw[yf (λe2=>e e2.symm)] at C;rw[qK _ _ e];exact g.trees v us C,g.se,g.sl,b3,yQ g.wn,bx,λw=>by
    show (if w=(c.node,(s.lists c.node).length) then [] else s.waits w)=eS bv w;rw[b0 w,an];split
    ·rfl
    ·exact g.wg w⟩
  refine AW.range (S:=ID) (λ_=>[]) (λu=>[(i3,.cells false [.int .i64 c.node,.int .i64 c.pack,.int .i64 c.r0,.int .i64 c.r1,.int .i64 c.r2,.int .i64 c.r3,.pointer (some ⟨tp,0,none⟩)])]::Bb p u.r::WB::own)
   (λj u G=>A4 p Ns G u.r u.s/\Inv (bW Ns) p.most u.s (c::done) ((eS r.ws (c.node,t)).drop j) [c]/\u.s.lists=(tA s c T q).lists/\u.s.seen=s.seen) xn ⟨_,_⟩
   Z Z Z Z Z Z Z Z Z zo rfl rfl (λ_=>rfl) (λ_=>rfl) sM ?_ ⟨dk,by rw[Vg];exact kI,rfl,rfl⟩ ?_ ?_
  ·refine ah.trans (ah.cons _ (fO p _ (WB::own))) ?_;refine ah.trans (ah.cons _ (ah.cons _ (ah.cons _ (uX b1 B3 b2 _)))) ?_;rw[bs];exact ah.skip _ (ah.skip _ (ah.cons _ (ah.cons _ (ah.cons _ (ah.cons _ (ah.cons _ (ah.cons _ (ah.cons _ (nV W1 WB W2 own)))))))))
  ·intro j u F1 dr hj hP;obtain⟨ul,uI,uL,uS⟩:=hP;obtain⟨d,hd⟩:∃d,(eS r.ws (c.node,t))[j]?=some d:=⟨_,gE zo⟩;have af:GB KN F1 xa xn xc WB (eS r.ws (c.node,t)):=(PQ bt).gb;have ax:(eS r.ws (c.node,t)).drop j=d::(eS r.ws (c.node,t)).drop (j+1):=by
    obtain⟨h1,h2⟩:=gS hd;rw[Tl h1,h2]
   rw[ax] at uI;refine gz ?_;refine WT.rp hT af Z Z Z Z Z Z Z Z Z hj (λb7 ay=>?_);refine WT.KE hT 2 af ay hd Z Z Z Z Z Z (λz hz=>hz) Z Z Z (λl dy=>?_);obtain rfl:l=gU d (.pointer none):=dy;unfold gU;refine WT.az hT Z Z Z Z Z Z (λi8 fs=>?_);refine gz ?_;refine WT.iA 2 Tryz.func117 Z Z Z Z Z Z Z (λ_=>rfl) (BU F1 ul hf uI hm (by rw[uS];omega) bd) (λF4 v B4 d0 C=>?_);obtain⟨r',rfl,a1⟩:=C;refine gz ?_;have b6:=Cr (bW Ns) u.s d
   refine⟨⟨r',xC (bW Ns) u.s d⟩,sM,ah.skip _ oR,a1,uI.QK hf (λU hU v C x P=>?_),b6.1.trans uL,b6.2.trans uS⟩;rw[uL] at hU P;exact .inl (tf (aa v C x P) (kW d (gM hd) U hU))
  ·intro u F1 dr hP;obtain⟨ul,uI,uL,uS⟩:=hP;rw[TE zo] at uI;have d1:=ul.nodes;have d2:u.r.qn=u.r.qn:=rfl;refine gz ?_;refine WT.le (ah.cons _ (oj p u.r (WB::own))) ?_;refine WT.bh hT d1 Z Z Z Z Z Z Z Z Z zo (λz hz b7 ev fy f0 f5 ay d3 a2=>?_);rw[P] at hz;cases hz;obtain⟨pa,pn,pc,rfl,b9⟩:=a2;have ex:=b9.len;refine gz ?_;refine WT.bh hT b9 Z Z Z Z Z Z Z Z Z (by have:=(gS bf).1;omega) (λz hz b8 ey f6 f7 f8 f9 ga a4=>?_);rw[bf] at hz;cases hz;obtain⟨ka,kn,kc,rfl,d4,gl⟩:=a4;have e0:=d4.len;clear ay d3
   refine gz ?_;refine AW.range (S:=ID) (λ_=>[]) (λz=>[(i3,.cells false [.int .i64 c.node,.int .i64 c.pack,.int .i64 c.r0,.int .i64 c.r1,.int .i64 c.r2,.int .i64 c.r3,.pointer (some ⟨tp,0,none⟩)])]::Bb p z.r::WB::own)
    (λj z G=>A4 p Ns G z.r z.s/\Inv (bW Ns) p.most z.s (c::done) [] [c]/\z.s.lists=(tA s c T q).lists/\(∀d∈s.seen,d∈z.s.seen)/\z.s.seen.length<=s.seen.length+j/\∀i,i<j->c.inc i∈z.s.seen) kn ⟨u.r,u.s⟩
    Z Z Z Z Z Z Z Z Z zo rfl rfl (λ_=>rfl) (λ_=>rfl) sM (ah.cons _ (fO p u.r (WB::own))) ⟨ul,uI,uL,λd hd=>by rw[uS];exact hd,by rw[uS];exact mc _,λi hi=>by omega⟩ ?_ ?_
   ·intro j z F2 d5 hj hQ;obtain⟨yl,yI,yL,yS,yn,yi⟩:=hQ;have a6:j<4:=by omega
    obtain⟨rj,a7⟩:∃rj,c.cl[j]?=some rj:=⟨_,gE (by show j<4;exact a6)⟩;have e3:=ac.Nt rj (gM a7);obtain⟨ca,cc⟩:=b4 pk J j zo;refine gz ?_;refine WT.az hT Z Z Z Z Z Z (λi10 e4=>?_);refine gz ?_;refine WT.vO (j:=j) (s:=1) (len:=4) hT Z Z Z Z Z Z Z Z Z a6 ?_;refine WT.loadAt hT 0 Z Z Z Z Z Z me Z Z (qm a7) ?_;refine MM ?_;refine WT.vO (j:=j) (s:=1) (len:=4) hT Z Z Z Z Z Z Z Z Z a6 ?_;refine WT.storeAt hT 0 0 Z Z Z Z Z Z Z Z Z Z (by show 0+2+j*1<7;omega) Z Z ?_;rw[K6 a7];unfold gU;refine gz ?_
    refine WT.iA 2 Tryz.func81 Z Z Z Z Z Z Z (λ_=>rfl) (w8 F2 yl hf yI ca (λU hU v C x P=>by
     rw[yL] at hU P;exact .inl (tf (aa v C x P) (cc U hU))) hm zo bd (.pointer (some ⟨tp,0,none⟩)) rfl) (λF4 v B4 d0 C=>?_)
    obtain⟨r',rfl,a1⟩:=C;refine gz ?_;obtain⟨f1,f2,f3,f4⟩:=wJ (bW Ns) z.s (c.inc j);refine⟨⟨r',ji (bW Ns) z.s (c.inc j)⟩,sM,ah.skip _ oR,a1,yI.Lx hf ca (λU hU v C x P=>?_),f1.trans yL,λd hd=>f2 d (yS d hd),by show (ji (bW Ns) z.s (c.inc j)).seen.length<=s.seen.length+(j+1);omega,λi hi=>?_⟩
    ·rw[yL] at hU P;exact .inl (tf (aa v C x P) (cc U hU))
    ·rcases IN i j with h1 | h1
     ·exact f2 _ (yi i h1)
     ·obtain rfl:i=j:=by omega
      exact f3
   ·intro z F2 d5 hQ;obtain⟨yl,yI,yL,yS,yn,yi⟩:=hQ;refine⟨_,[_],rfl,List.Sublist.cons _ (List.Sublist.cons_cons _ (List.Sublist.cons _ (Tm _))),_,rfl,z.r,z.s,rfl,yl,yI.close (T:=T) (by rw[yL];exact dd) (by rw[yL];exact df) (λp' cf i hi=>?_),λv C eb a ha=>yS _ (hb v C eb a ha),.inr ⟨by rw[an];exact hc,yL,by omega⟩⟩;rw[J] at cf;cases cf;exact yi i zo
def El:Ty (List Value) where
 size:=3
 rel:=λ_ l x=>l=x/\x.length=3/\x.all Go.Abs.one=true
 len:=λ_ _ _ h=>by rw[h.1];exact h.2.1
 one:=λ_ _ _ h=>by rw[h.1];exact h.2.2
 mono:=λ_ _ _ _ _ h=>h
def E0:aA:=λ_=>none
theorem OQ{F G:aA}{cs:List Value}{ps:List (List Value)}(h:aG El F cs ps):aG El G cs ps:=by
 induction h with| nil=>{exact .nil}| cons h _ g=>{exact .cons h g}
theorem NV{F G:aA}{a:Option Addr}{n c:Nat}{B:List (Nat×aJ)}{ps:List (List Value)}(h:cb El F a n c B ps):cb El G a n c B ps:=
 ⟨h.len,h.at_.imp id λ⟨i,cs,h1,g,j,l,o⟩=>⟨i,cs,h1,g,j,OQ l,o⟩⟩
mutual
inductive zj:List Value->List (Nat×aJ)->Tree->Prop
 | mk {r:Int} {t:Nat} {ks:List Tree} {a:Option Addr} {n c:Nat} {B bs:List (Nat×aJ)} {lS:List (List Value)}:cb El E0 a n c B lS->fQ lS bs ks->ks.length<=1000000->zj [.int .i64 r,.int .i64 t,.slice a n c] (B++bs) (.mk r t ks)
inductive fQ:List (List Value)->List (Nat×aJ)->List Tree->Prop
 | nil:fQ [] [] []
 | cons {cs:List Value} {B:List (Nat×aJ)} {t:Tree} {lS:List (List Value)} {bs:List (Nat×aJ)} {ts:List Tree}:zj cs B t->fQ lS bs ts->fQ (cs::lS) (B++bs) (t::ts)
end
theorem zj.shape{cs:List Value}{B:List (Nat×aJ)}{t:Tree}(h:zj cs B t):cs.length=3/\cs.all Go.Abs.one=true:=by
 cases h;exact⟨rfl,rfl⟩
theorem fQ.len:∀{g:List (List Value)} {bs:List (Nat×aJ)} {ts:List Tree},fQ g bs ts->g.length=ts.length
 | _,_,_,.nil=>rfl
 | _,_,_,.cons _ h=>by simp[fQ.len h]
theorem fQ.snoc{cs:List Value}{B:List (Nat×aJ)}{t:Tree}(h:zj cs B t):∀{g:List (List Value)} {bs:List (Nat×aJ)} {ts:List Tree},fQ g bs ts->fQ (g++[cs]) (bs++B) (ts++[t])
 | _,_,_,.nil=>by simpa using fQ.cons h .nil
 | _,_,_,.cons h1 i=>by{rw[By];exact .cons h1 (fQ.snoc h i)}
mutual
theorem zj.frozen{G:aA}:∀{t:Tree} {cs:List Value} {B:List (Nat×aJ)},zj cs B t->(∀i b,(i,b)∈B->G i=some b)->bZ.rel G cs t
 | .mk _ _ ks,_,_,.mk j l hk,g=>nv (fQ.frozen j l (λi b hm=>g i b (Te _ hm)) (λi b hm=>g i b (Tf _ hm))) hk
theorem fQ.cells{G:aA}:∀{ts:List Tree} {j:List (List Value)} {bs:List (Nat×aJ)} {cs:List Value},aG El E0 cs j->fQ j bs ts->(∀i b,(i,b)∈bs->G i=some b)->aG bZ G cs ts
 | [],_,_,_,g,.nil,_=>by cases g;exact .nil
 | t::ts,_,_,_,g,.cons h1 o,l=>by{cases g with| cons g1 g2=>{obtain⟨rfl,_⟩:=g1;exact .cons (zj.frozen h1 λi b hm=>l i b (Te _ hm)) (fQ.cells g2 o λi b hm=>l i b (Tf _ hm))}}
theorem fQ.frozen{G:aA}:∀{ts:List Tree} {g:List (List Value)} {bs:List (Nat×aJ)} {a:Option Addr} {n c:Nat} {B:List (Nat×aJ)},cb El E0 a n c B g->fQ g bs ts->(∀i b,(i,b)∈B->G i=some b)->(∀i b,(i,b)∈bs->G i=some b)->bk bZ G a n c ts
 | ts,g,bs,a,n,c,B,t,C,I,j=>by{have J:=t.len;have l:=C.len;have:cb bZ G a n c B ts:=⟨by omega,t.at_.imp (λ⟨h1,o,p,r⟩=>⟨BY (by rw[<-l,h1];rfl),o,p,r⟩) λ⟨i,cs,h1,o,p,r,P⟩=>⟨i,cs,h1,o,p,fQ.cells r C j,by decide⟩⟩;exact this.frozen (aA.le.refl G) I}
end
theorem DI(F:aA)(t:Nat):Abs.Spec CC 63 [.int .i64 t] F [] λj v o=>o=[]/\v=.agg ⟨[.int .i64 (-1),.int .i64 t,.slice none 0 0]⟩:=by
 refine Abs.Spec.fn (n:=5) Tryz.func63 rfl rfl λown=>?_;refine AW.seq (AW.fp ?_);refine WT.az hT Z Z Z Z Z Z (λi2 g=>?_);refine aq ?_;exact AW.ret ⟨_,[],⟨_,_,⟨_,rfl,λG l i=>aD (i.has (p:=0) rfl me) (aM hT rfl)⟩,rfl,rfl⟩,bF,rfl,rfl⟩
inductive Plain:Tree->Prop
 | leaf {t:Nat}:Plain (.mk (-1) t [])
 | node {r:Nat} {ks:List Tree}:(∀k∈ks,Plain k)->Plain (.mk r 0 ks)
mutual
theorem NT.plain{f:Fo}:∀{T:Tree} {v:Nat},NT f v T->Plain T
 | .mk _ _ _,_,.leaf _ _=>.leaf
 | .mk _ _ _,_,.node _ _ _ h=>.node (sT.plain h)
theorem sT.plain{f:Fo}:∀{ts:List Tree} {ks:List Nat},sT f ks ts->∀t∈ts,Plain t
 | [],_,_,t,h=>by cases h
 | t0::ts,_,.cons h1 g,t,h=>by{rcases PJ.1 h with e | h;{rw[e];exact NT.plain h1};{exact sT.plain g t h}}
end
theorem EW{α:Type}(x a b c l:List α):(x++(a++(b++(c++l)))).Perm (a++(b++(c++(x++l)))):=by
 have h:=(UU (l₁:=x) (l₂:=a++(b++c))).append_right l;simpa [By] using h
structure SH where
 a:Option Addr
 c:Nat
 B:List (Nat×aJ)
 lS:List (List Value)
 bs:List (Nat×aJ)
theorem yO:∀(N:Nat) (T:Tree),T.pre.length<N->Plain T->T.pre.length<=100000->∀(F:aA) (p:Nat),Sh F p T->
  Abs.Spec CC 84 [.pointer (some ⟨p,0,none⟩)] F [] λF' v o=>∃B',o=[B']/\∃cs,v=.agg ⟨cs⟩/\zj cs B' T
 | 0,_,h,_,_,_,_,_=>by omega
 | N+1,T,hN,hp,a7,F,p,hs=>by
  cases hp with
  | @leaf t=>
   cases hs with
   | @mk _ _ _ _ a n c ps g1 g2 g3=>
   refine Abs.Spec.fn (n:=39) Tryz.func84 rfl rfl λown=>?_;refine AW.seq (AW.fp ?_);refine WT.az hT Z Z Z Z Z Z (λi2 ab=>?_);refine aq ?_;refine AW.cond Z (λ_=>?_) (λh=>(by cases h));refine aq ?_;refine WT.bj Tryz.func63 Z Z Z Z Z Z (DI _ t) (λv hv=>?_);subst hv;refine aq ?_;refine AW.le (own2:=[]::[(i2,.cells false [.int .i64 (-1),.int .i64 t,.slice none 0 0])]::own) (ah.flat (sh _)) ?_
   exact AW.ret ⟨_,[[]],⟨_,_,⟨_,rfl,λG h0 J=>aD (J.has (p:=1) rfl me) (aM hT rfl)⟩,rfl,rfl⟩,List.Sublist.cons_cons _ (List.Sublist.cons _ (Tm _)),_,rfl,_,rfl,zj.mk (B:=[]) (bs:=[]) (cb.cK _ _) .nil (by simp)⟩
  | @node r ks ad=>
   cases hs with
   | @mk _ _ _ _ a n c ps g1 g2 g3=>
   have a8:=g2.len;have a9:=g3.len;have ba:=qU ks;have bb:(Tree.mk (r:Int) 0 ks).pre.length=(bK ks).length+1:=rfl;refine Abs.Spec.fn (n:=39) Tryz.func84 rfl rfl λown=>?_;refine AW.seq (AW.fp ?_);refine WT.az hT Z Z Z Z Z Z (λi2 ab=>?_);refine aq ?_;refine AW.cond Z (λh=>?_) (λ_=>?_)
   ·exfalso;simp at h;omega
   refine aq ?_;refine WT.az hT Z Z Z Z Z Z (λi3 bc=>?_);refine aq ?_;refine AW.range (S:=SH) (λ_=>[]) (λs=>s.B::[(i3,.cells false [.int .i64 r,.int .i64 0,.slice s.a s.lS.length s.c])]::s.bs::[(i2,.cells false [.int .i64 0,.int .i64 0,.slice none 0 0])]::own)
    (λj s G=>cb El E0 s.a s.lS.length s.c s.B s.lS/\fQ s.lS s.bs (ks.take j)) n ⟨none,0,[],[],[]⟩
    Z Z Z Z Z Z Z Z Z zo rfl rfl (λ_=>rfl) (λ_=>rfl) sM (ah.flat (sh _)) ⟨cb.cK _ _,.nil⟩ ?_ ?_
   ·intro j s F1 C hj hP;obtain⟨hb,P⟩:=hP;have ag:=P.len;rw[Tg] at ag;have al:=g2.mono C;obtain⟨k,hk⟩:∃k,ks[j]?=some k:=⟨_,gE zo⟩;have U:=gM hk;have bd:=nC U;refine aq ?_;refine WT.bh hT al Z Z Z Z Z Z Z Z Z zo (λq hq b9 a5 bi bn an bo br I=>?_);obtain rfl:an=_:=I;have ao:=(g3.at_ hq hk).mono C;refine aq ?_;refine AW.draw (ps:=[(1,3),(1,4)]) Z Z (aq ?_);refine WT.jY Tryz.func84 Z Z Z Z Z Z (yO N k zo (ad k U) zo F1 q ao) (λF2 v B2 bt hv=>?_);obtain⟨cs,rfl,aa⟩:=hv;obtain⟨ar,av⟩:=aa.shape
    obtain⟨g,i,l,rfl⟩:∃g i l,cs=[g,i,l]:=by
     match cs,ar with
     | [g,i,l],_=>exact⟨g,i,l,rfl⟩
    refine WT.aR hT Z Z Z Z Z Z Z Z Z Z Z Z Z Z (λi9 bv=>?_);refine WT.aZ (R:=El) (ys:=[[g,i,l]]) hT 2 (NV hb) Z (λ_=>rfl) Z Z Z Z Z Z Z Z Z Z Z (λh0 J=>aN hT J 0 Z Z Z Z) (aG.single (R:=El) ⟨rfl,rfl,av⟩) Z (by decide) fj (λa3 c3 B3 a0=>?_);refine aq ?_;refine⟨OG,?_⟩;refine⟨⟨a3,c3,B3,s.lS++[[g,i,l]],s.bs++B2⟩,sM,?_,by show cb El E0 a3 (s.lS++[[g,i,l]]).length c3 B3 _;rw[sj];exact NV a0,by rw[yo,hk];exact P.snoc aa⟩
    ·show ah (B3::[(i3,.cells false [.int .i64 r,.int .i64 0,.slice a3 (s.lS++[[g,i,l]]).length c3])]::(s.bs++B2)::_) _;rw[sj];refine ah.skip _ (ah.flat ?_);simp only[TF,By];exact EW _ _ _ _ _
   ·intro s F1 C hP;obtain⟨hb,P⟩:=hP;rw[qs zo] at P;refine aq ?_;refine AW.le (own2:=[(i2,.cells false [.int .i64 r,.int .i64 0,.slice s.a s.lS.length s.c])]::(s.B++s.bs)::own) (ah.trans (ah.flat ?_) (ah.cons _ (ah.skip _ oR))) ?_
    ·have:=U3 (a:=(i2,aJ.cells false [.int .i64 r,.int .i64 0,.slice s.a s.lS.length s.c])) (l₁:=s.B++s.bs) (l₂:=own.flatten);simpa [By] using this
    refine AW.ret ⟨_,[_],⟨_,_,⟨_,rfl,λG h0 J=>aD (J.has (p:=0) Z me) (aM hT rfl)⟩,rfl,rfl⟩,List.Sublist.cons _ (Tm _),_,rfl,_,rfl,zj.mk hb P zo⟩
structure PA where
 p:Nat
 im:Nat
 a:Option Addr
 m:Nat
 c:Nat
 b:Option Addr
 k:Nat
 d:Nat
structure P3(F:aA)(x:PA)(g:aj)(w:List Nat):Prop where
 bQ:∃ro,F x.p=some (.cells ro [.int .i64 g.ae,.int .i64 g.ay,.int .i64 g.start,.slice x.a x.m x.c,.slice x.b x.k x.d,.map (some x.im)])
 rules:bk cD F x.a x.m x.c g.rules
 word:bk eV F x.b x.k x.d w
def Qy{S:Type}(j:S->ck)(l:S->bA)(P:S->aA->Prop)(A:Ex->ck->aA->bA->Prop):Ex->ck->aA->bA->Prop
 | .normal,g,i,aY=>∃s,jd (j s) g/\ah (l s) aY/\P s i
 | x,g,i,aY=>A x g i aY
theorem PN{C:Ctx}{n:Nat}{k:ck}{F:aA}{own:bA}{A:Ex->ck->aA->bA->Prop}{S:Type}(j:S->ck)(l:S->bA)(P:S->aA->Prop){a b:Code}(h1:AW C n a k F own (Qy j l P A))
  (p:∀s g,aA.le F g->P s g->AW C n b (j s) g (l s) A):AW C n a k F own (xj (λo g aY=>AW C n b o g aY A) A):=by
 refine AW.mono h1 λx o g aY r i=>?_;cases x with| normal=>{obtain⟨s,t,I,J⟩:=i;exact AW.weaken t (AW.le I (p s g r J))}| exit id=>{exact i}| ret=>{exact i}| jN=>{exact i}
theorem QO{C:Ctx}{n:Nat}{k:ck}{F:aA}{own:bA}{A:Ex->ck->aA->bA->Prop}{S:Type}(g:S->ck)(j:S->bA)(P:S->aA->Prop){a b:Code}(h1:AW C n a k F own (PH g k j P A))
  (l:∀s i,aA.le F i->P s i->AW C n b (g s++k) i (j s) A):AW C n a k F own (xj (λo i aY=>AW C n b o i aY A) A):=
 PN (λs=>g s++k) j P h1 l
structure S7 where
 ks:List Tree
 a:Option Addr
 c:Nat
 Bk:List (Nat×aJ)
 B:List (Nat×aJ)
 e:Int
 l:Nat
structure PO where
 q:Option Addr
 e:Int
 B:List (Nat×aJ)
def e9(f:Fo)(j:Nat):pS:=⟨λv=>if v<j then (match f.leaf v with | some t=>[.mk (-1) t []] | none=>[]) else [],[],λ_=>[],[]⟩
theorem zL{f:Fo}{j v:Nat}{T:Tree}(h:T∈(e9 f j).lists v):v<j/\∃t,f.leaf v=some t/\T=.mk (-1) t []:=by
 unfold e9 at h;simp only at h;split at h;{rename_i g;split at h;{rename_i t i;exact⟨g,t,i,ti.1 h⟩};{cases h}};{cases h}
theorem vp{f:Fo}{j v:Nat}(h:f.leaf v=none):(e9 f j).lists v=[]:=by
 rw[Vq];intro T hT;obtain⟨_,t,g,_⟩:=zL hT;rw[h] at g;cases g
theorem JU{f:Fo}{j:Nat}(h:f.leaf j=none):e9 f (j+1)=e9 f j:=by
 unfold e9;simp only[pS.mk.injEq,Vs];funext v;by_cases e:v=j;{subst e;rw[n0 (TD _),nw (UC _),h]};{by_cases g:v<j;{rw[n0 g,n0 zo]};{rw[nw g,nw zo]}}
theorem NR{f:Fo}{j t:Nat}(h:f.leaf j=some t):(e9 f (j+1)).lists j=[.mk (-1) t []]:=by
 unfold e9;simp only;rw[n0 (TD _),h]
theorem NM{f:Fo}{j v:Nat}(h:v≠j):(e9 f (j+1)).lists v=(e9 f j).lists v:=by
 unfold e9;simp only;by_cases g:v<j;{rw[n0 g,n0 zo]};{rw[nw g,nw zo]}
theorem FP(f:Fo)(j v:Nat):((e9 f j).lists v).length<=1:=by
 unfold e9;simp only;split;{split<;>simp};{simp}
theorem Ll(f:Fo){most:Nat}(hm:1<=most):Inv f most (e9 f f.n) [] [] [] where
 ok:=λc g=>by cases g
 snd:=UF
 oQ:=λc g=>by cases g
 vH:=λc g=>by cases g
 GR:=UF
 MP:=UF
 I3:=UF
 Gy:=λ_=>UF
 dq:=λc g=>by cases g
 pq:=λc g=>by cases g
 qw:=λc g=>by cases g
 yH:=λc g=>by cases g
 qZ:=λw c g=>by cases g
 cover:=λc g=>by cases g
 next:=λc g=>by cases g
 lR:=λv t i o=>by
  unfold e9;simp only;rw[n0 i,o]
 from_:=λv i T hT=>by rw[vp i] at hT;cases hT
 len:=λv=>by have:=FP f f.n v;omega
 sorted:=λv=>by
  have h:=FP f f.n v
  match (e9 f f.n).lists v,h with
  | [],_=>exact .nil
  | [a],_=>exact U1 _ _
  | _::_::_,h=>simp at h
 ord:=λv i x r y p=>by cases p
 valid:=λv T hT=>by
  obtain⟨h1,t,j,rfl⟩:=zL hT;exact .leaf h1 j
 full:=λv i l=>by rw[vp i] at l;simp at l;omega
 small:=λv T hT=>by
  obtain⟨h1,t,j,rfl⟩:=zL hT;show ([(-1:Int)]++[]).length<=5000;simp
def MR(L:Nat->List Tree)(n:Nat):Nat:=((List.range n).map λv=>(L v).length).sum
theorem Hx{L:Nat->List Tree}{most:Nat}(h:∀v,(L v).length<=most):∀n,MR L n<=n*most
 | 0=>by simp[MR]
 | n+1=>by{have g:=Hx h n;have:=h n;unfold MR at g ⊢;rw[Uk,Th,Uw,TO];simp;omega}
theorem I8(L:Nat->List Tree){v:Nat}(T:Tree):∀n,MR (j1 L v T) n=MR L n+(if v<n then 1 else 0)
 | 0=>by simp[MR]
 | n+1=>by{have g:=I8 L (v:=v) T n;unfold MR at g ⊢;rw[Uk,Th,Uw,Th,Uw,g];simp only[y2,Wf,TL,List.sum_nil,UA];by_cases e:n=v;{subst e;rw[kX,sj,nw (UC _),n0 (TD _)];simp;omega};{rw[qK _ _ e];by_cases h:v<n;{rw[n0 h,n0 zo];omega};{rw[nw h,nw zo];omega}}}
theorem Bx(F:aA):∀n,kF F (List.replicate n (.slice none 0 0)) [] (List.replicate n [])
 | 0=>.nil
 | n+1=>by{have:=kF.cons (cb.cK jU F) (Bx F n);simpa [List.replicate_succ] using this}
def E6(Ns:List Node)(j:Nat):Nat:=((Ns.take j).map λx=>x.cr.length).sum
theorem EN{Ns:List Node}{j:Nat}{x:Node}(h:Ns[j]?=some x):E6 Ns (j+1)=E6 Ns j+x.cr.length:=by
 unfold E6;rw[yo,h,Th,Uw];simp
theorem K2{Ns:List Node}{j k:Nat}(h:j<=k):E6 Ns j<=E6 Ns k:=by
 induction k with| zero =>{obtain rfl : j = 0 := by{omega};exact mc _}| succ k i=>{rcases IN j (k+1) with h2 | h2;{refine AS (i zo) ?_;cases g:Ns[k]? with| none=>{unfold E6;rw[yo,g];simp}| some x=>{rw[EN g];omega}};{obtain rfl:j=k+1:=by{omega};exact mc _}}
structure Q5(Ns:List Node)(root most:Nat)(L:List Tree)(c:Int):Prop where
 Dq:Da (bW Ns) root most L
 count:j7 (λd=>bG Ns d root) c
theorem HT{α:Type}(a b c:α)(l:List α):(a::b::c::l).Perm (c::b::a::l):=
 ((List.Perm.swap b a _).trans (List.Perm.cons b (List.Perm.swap c a l))).trans (List.Perm.swap c b _)
theorem Ms{α:Type}(x a b l:List α):(x++(a++(b++l))).Perm (a++(b++(x++l))):=by
 have h:=(UU (l₁:=x) (l₂:=a++b)).append_right l;simpa [By] using h
structure Sk where
 a:Option Addr
 n:Nat
 c:Nat
 B:List (Nat×aJ)
 lS:List (List Value)
 bs:List (Nat×aJ)
structure Sb where
 r:LR
 s:pS
 done:List aT
theorem Qi{p:Prop} (h:p:=by{intro j u F5 hF5 hj hP5;obtain⟨hb,hL⟩:=hP5;have hLl:=hL.len;have hbl5:=hb.len;rw[Tg] at hLl;have hVB5:=(hVB.mono hF5).gb;obtain⟨q,hq⟩:∃q,ps[j]?=some q:=⟨_,gE zo⟩;obtain⟨k,hk⟩:∃k,(y.s.lists root)[j]?=some k:=⟨_,gE zo⟩;have hkm:=gM hk;have hsm:=yF.small k hkm;have hsq:=(htr.at_ hq hk).mono hF5;refine aq ?_;refine WT.rp hT hVB5 Z Z Z Z Z Z Z Z Z hj (λb9 hb9=>?_);refine WT.Ft (x:=q) hT 4 hVB5 hb9 hq Z Z Z Z Z Z (λz hz=>by rw[hbs];exact Tf _ (Te _ hz)) Z Z Z (λv hv=>?_);obtain rfl:v=_:=(UI.1 hv);refine aq ?_;refine WT.jY Tryz.func84 Z Z Z Z Z Z (yO _ k (TD _) (yF.valid k hkm).plain zo F5 q hsq) (λF6 v B6 hF6 hv=>?_);obtain⟨cs,rfl,hcs⟩:=hv;obtain⟨hc3,hc1⟩:=hcs.shape;obtain⟨x1,x2,x3,rfl⟩:∃x1 x2 x3,cs=[x1,x2,x3]:=by{match cs,hc3 with| [x1,x2,x3],_=>{exact⟨x1,x2,x3,rfl⟩}};refine WT.aR hT Z Z Z Z Z Z Z Z Z Z Z Z Z Z (λi9 hi9=>?_);refine WT.aZ (R:=El) (ys:=[[x1,x2,x3]]) hT 2 (NV hb) Z (λ_=>rfl) Z Z Z Z Z Z Z Z Z Z Z (λh0 s0=>aN hT s0 0 Z Z Z Z) (aG.single (R:=El) ⟨rfl,rfl,hc1⟩) Z (by decide) fj (λa3 c3 B3 hB3=>?_);refine aq ?_;refine⟨⟨a3,u.n+1,c3,B3,u.lS++[[x1,x2,x3]],u.bs++B6⟩,sM,?_,NV hB3,by rw[yo,hk];exact hL.snoc hcs⟩;refine ah.skip _ (ah.flat ?_);simp only[TF,By];exact Ms _ _ _ _}):p:=h
theorem FR(F:aA){Ns:List Node}(hf:(bW Ns).Good)(bi:QY Ns)(hpr:Prod Ns){C:Option Addr}{g I:Nat}(hN:bk wv F C g I Ns)(root:Nat)(bn:root<Ns.length)(bo:(bW Ns).leaf root=none)(dq:∀v,(bW Ns).leaf v≠none->(bW Ns).cr v=[])(ft:E6 Ns Ns.length<=200000000000){most:Nat}(dr:1<=most)(hm:most<=100) :
  Abs.Spec CC 47 [.agg ⟨[.slice C g I,.int .i64 root]⟩,.int .i64 most] F [] λF' v o=>∃B',o=[B']/\∃L c,Q5 Ns root most L c/\
   (((L.length=most\/(c≠-1/\c<=L.length))/\∃a n d B lS bs,v=.tuple ⟨[.slice a n d,.bool true]⟩/\B'=B++bs/\cb El E0 a n d B lS/\fQ lS bs L)\/
    (L.length<most/\(c=-1\/(L.length:Int)<c)/\v=.tuple ⟨[.slice none 0 0,.bool false]⟩)):=by
 have cj:=hN.len;have a9:=bi.Eo;refine Abs.Spec.fn (n:=161) Tryz.func47 rfl rfl λown=>?_;refine AW.seq (AW.fp ?_);refine WT.bN Z Z Z Z Z Z (λi2 fx=>?_);refine aq ?_;refine AW.cond Z (λh=>?_) (λ_=>?_)
 ·exfalso;simp at h;omega
 refine aq ?_;refine AW.draw (ps:=[(0,5),(0,6),(0,7),(3,6),(3,7),(4,6),(4,7)]) Z Z (aq ?_);refine WT.oH (by_:=24) hT Z Z Z Z Z Z Z Z Z Z Z Z zo (λlo fy=>?_);refine WT.makeMap Z Z Z Z (λis f0=>?_);refine WT.makeMap Z Z Z Z (λJ f5=>?_);refine aq ?_;refine WT.bN Z Z Z Z Z Z (λli f6=>?_);refine aq ?_;refine⟨OG,?_⟩;refine gz ?_;have cp:∀(v:Nat) (ps:List Nat),(List.replicate g ([]:List Nat))[v]?=some ps->lT F ps ((e9 (bW Ns) 0).lists v):=λv ps hv=>by
  have e:(e9 (bW Ns) 0).lists v=[]:=by unfold e9;simp
  rw[e];rw[TV] at hv;split at hv
  ·cases hv;exact .nil
  ·cases hv
 have h0:A4 (⟨li,C,g,I,root,most,lo,bif g==0 then 0 else 1,is,J⟩:LP) Ns F (⟨none,0,0,[],[],List.replicate g (.slice none 0 0),[],List.replicate g [],[],[],[],[],[],[]⟩:LR) (e9 (bW Ns) 0):=
  ⟨hN,(cb.cK _ _).gb,sh _,λi h1 h2=>by simp at h2,Bx F g,by simp,cp,rfl,λc=>by simp[e9,Abs.look],rfl,UF,.nil,λw=>rfl⟩
 refine AW.range (S:=LR) (λ_=>[]) (λr=>Bb (⟨li,C,g,I,root,most,lo,bif g==0 then 0 else 1,is,J⟩:LP) r::[(i2,.cells false [.slice C g I,.int .i64 root])]::own)
  (λj r G=>A4 (⟨li,C,g,I,root,most,lo,bif g==0 then 0 else 1,is,J⟩:LP) Ns G r (e9 (bW Ns) j)) g (⟨none,0,0,[],[],List.replicate g (.slice none 0 0),[],List.replicate g [],[],[],[],[],[],[]⟩:LR)
  Z Z Z Z Z Z Z Z Z zo rfl rfl (λ_=>rfl) (λ_=>rfl) sM (ah.flat ?_) h0 ?_ ?_
 ·simp only[Bb,lB,PE,mB,TF,TI,Vb];exact List.Perm.cons _ (HT _ _ _ _)
 ·intro j r F1 dy hj hl;obtain⟨x,hx⟩:∃x,Ns[j]?=some x:=⟨_,gE zo⟩;obtain⟨ps,ad⟩:∃ps,r.qD[j]?=some ps:=⟨_,gE (by have:=hl.uq;show j<r.qD.length;rw[this];exact hj)⟩;obtain⟨va,vn,vc,VB,b1,b2,ar,hbs,hVB,ay⟩:=hl.rows.split ad;have f8:=hl.rows.len;have e7:r.qD.length=g:=hl.uq;have aa:(bW Ns).leaf j=if x.key.sym.term=true then some x.key.sym.n else none:=by unfold bW;simp only[hx]
  have d0:=hl.nodes;refine aq ?_;refine WT.bh hT d0 Z Z Z Z Z Z Z Z Z zo (λz hz b7 cv d1 d2 d3 d4 d5 ae=>?_);rw[hx] at hz;cases hz;obtain⟨pa,pn,pc,rfl,cw⟩:=ae;refine aq ?_;refine WT.az hT Z Z Z Z Z Z (λi8 ga=>?_);refine aq ?_;refine AW.cond Z (λht=>?_) (λht=>?_)
  ·rw[n0 ht] at aa;rw[show Bb (⟨li,C,g,I,root,most,lo,bif g==0 then 0 else 1,is,J⟩:LP) r=Bb (⟨li,C,g,I,root,most,lo,bif g==0 then 0 else 1,is,J⟩:LP) { r with bs:=b1++(VB++b2) } by rw[<-hbs]];refine AW.le (ah.cons _ (ah.trans (ah.cons _ (ah.cons _ (nV b1 VB b2 _))) (oj (⟨li,C,g,I,root,most,lo,bif g==0 then 0 else 1,is,J⟩:LP) { r with bs:=b1++(VB++b2) } _))) (AW.draw (ps:=[(3,9),(3,10)]) Z Z (gz ?_));refine WT.bN Z Z Z Z Z Z (λi56 fa=>?_);refine WT.aR hT Z Z Z Z Z Z Z Z Z Z Z Z Z Z (λi57 fb=>?_)
   refine WT.cH (j:=j) (s:=1) hT Z Z Z Z Z Z Z Z Z hj (WT.storeAt hT 4 0 Z Z Z Z Z Z Z Z Z Z (by show 0+j*1<r.vs.length;omega) Z Z ?_);rw[show 0+j*1=j by omega];refine WT.aw 1 Z Z (λF2 br d9=>?_);refine gz ?_;refine⟨OG,?_⟩;have P:=hl.mono br;have ea:(bW Ns).leaf j=some x.key.sym.n:=aa;have a4:Sh F2 i56 (.mk (-1) x.key.sym.n []):=.mk (ps:=[]) (d9 i56 _ me) (bk.cK _ _) .nil;have cx:cb jU F1 (some ⟨i57,0,none⟩) 1 1 [(i57,.cells false [.pointer (some ⟨i56,0,none⟩)])] [i56]:=⟨rfl,.inr ⟨i57,_,rfl,rfl,rfl,aG.single (R:=jU) rfl,by decide⟩⟩
   refine⟨{ r with vs:=r.vs.set j (.slice (some ⟨i57,0,none⟩) 1 1),bs:=b1++([(i57,.cells false [.pointer (some ⟨i56,0,none⟩)])]++b2),qD:=r.qD.set j [i56] },sM,?_,⟨P.nodes,P.q,P.qp,P.qh,(ay _ _ _ _ _ cx).any,by rw[TX];exact P.uq,λv us hv=>?_,P.se,P.sl,P.we,P.wn,P.ws,P.wg⟩⟩
   ·refine ah.trans (ah.trans (fO (⟨li,C,g,I,root,most,lo,bif g==0 then 0 else 1,is,J⟩:LP) _ _) (ah.cons _ (ah.cons _ (uX b1 _ b2 _)))) ?_
    refine ah.trans (b:=[(i57,.cells false [.pointer (some ⟨i56,0,none⟩)])]::((li,.cells false [.slice C g I,.int .i64 root,.int .i64 most,.slice (some ⟨lo,0,none⟩) g (bif g==0 then 0 else 1),.map (some is),.map (some J),.slice r.qa r.qn r.qc])::r.qB)::[(lo,.cells false (r.vs.set j (.slice (some ⟨i57,0,none⟩) 1 1)))]::(b1++b2)::[(is,.map r.se)]::[(J,.map r.we)]::r.M2::[(i2,.cells false [.slice C g I,.int .i64 root])]::own) (ah.flat ?_) (ah.cons _ (ah.skip _ (ah.skip _ (ah.cons _ (ah.cons _ (ah.cons _ (ah.skip _ oR)))))));simp only[TF]
    exact EW _ _ _ _ _
   ·have hv:(r.qD.set j [i56])[v]?=some us:=hv;by_cases e:v=j
    ·subst e;rw[xk zo] at hv;cases hv;rw[NR ea];exact .cons a4 .nil
    ·rw[yf (λe2=>e e2.symm)] at hv;rw[NM e];exact P.trees v us hv
  ·rw[nw (by rw[show x.key.sym.term=false from ht];simp)] at aa;refine aq ?_;refine⟨r,sM,ah.skip _ oR,?_⟩;show A4 (⟨li,C,g,I,root,most,lo,bif g==0 then 0 else 1,is,J⟩:LP) Ns _ r (e9 (bW Ns) (j+1));rw[JU aa];exact hl
 intro r0 F1 dy bt;have bt:A4 (⟨li,C,g,I,root,most,lo,bif g==0 then 0 else 1,is,J⟩:LP) Ns F1 r0 (e9 (bW Ns) g):=bt;have c0:=Ll (bW Ns) dr;rw[show (bW Ns).n=g from cj.symm] at c0;refine aq ?_;refine AW.range (S:=ID) (λ_=>[]) (λz=>Bb (⟨li,C,g,I,root,most,lo,bif g==0 then 0 else 1,is,J⟩:LP) z.r::[(i2,.cells false [.slice C g I,.int .i64 root])]::own)
  (λj z G=>A4 (⟨li,C,g,I,root,most,lo,bif g==0 then 0 else 1,is,J⟩:LP) Ns G z.r z.s/\Inv (bW Ns) most z.s [] [] []/\z.s.lists=(e9 (bW Ns) g).lists/\z.s.seen.length<=E6 Ns j/\∀v,v<j->(bW Ns).leaf v=none->∀p,p<((bW Ns).cr v).length->(⟨v,p,0,0,0,0⟩:aT)∈z.s.seen) g ⟨r0,e9 (bW Ns) g⟩
  Z Z Z Z Z Z Z Z Z zo rfl rfl (λ_=>rfl) (λ_=>rfl) sM oR ⟨bt,c0,rfl,If _,λv hv=>by omega⟩ ?_ ?_
 ·intro j z F2 br hj hP;obtain⟨ul,uI,uL,un,ub⟩:=hP;obtain⟨x,hx⟩:∃x,Ns[j]?=some x:=⟨_,gE zo⟩;have ee:=ul.nodes;have bx:(bW Ns).cr j=x.cr:=by unfold bW;simp only[hx]
  have eg:=EN hx;have fd:=K2 (Ns:=Ns) (show j+1<=Ns.length by omega);have gd:=bi.cr x (gM hx);refine aq ?_;refine WT.bh hT ee Z Z Z Z Z Z Z Z Z zo (λy hy b7 cv d1 d2 d3 d4 d5 ae=>?_);rw[hx] at hy;cases hy;obtain⟨pa,pn,pc,rfl,cw⟩:=ae;have al:=cw.len;refine aq ?_;refine WT.az hT Z Z Z Z Z Z (λi10 fk=>?_);refine aq ?_
  refine AW.range (S:=ID) (λ_=>[]) (λz=>[(i10,.cells false [.bool x.key.sym.term,.int .i64 x.key.sym.n,.int .i64 x.key.fJ,.int .i64 x.key.to,.slice pa pn pc])]::Bb (⟨li,C,g,I,root,most,lo,bif g==0 then 0 else 1,is,J⟩:LP) z.r::[(i2,.cells false [.slice C g I,.int .i64 root])]::own)
   (λq z G=>A4 (⟨li,C,g,I,root,most,lo,bif g==0 then 0 else 1,is,J⟩:LP) Ns G z.r z.s/\Inv (bW Ns) most z.s [] [] []/\z.s.lists=(e9 (bW Ns) g).lists/\z.s.seen.length<=E6 Ns j+q/\(∀v,v<j->(bW Ns).leaf v=none->∀p,p<((bW Ns).cr v).length->(⟨v,p,0,0,0,0⟩:aT)∈z.s.seen)/\∀p,p<q->(⟨j,p,0,0,0,0⟩:aT)∈z.s.seen) pn z
   Z Z Z Z Z Z Z Z Z zo rfl rfl (λ_=>rfl) (λ_=>rfl) sM oR ⟨ul,uI,uL,un,ub,λp hp=>by omega⟩ ?_ ?_
  ·intro q z F3 b0 hq hP;obtain⟨vl,vI,vL,vn,vb,vc⟩:=hP;have en:(bW Ns).leaf j=none:=by
    cases he:(bW Ns).leaf j with
    | none=>rfl
    | some t=>
     have:=dq j (by rw[he];simp);rw[bx] at this;rw[this] at al;simp at al;omega
   have hc:mm (bW Ns) most ⟨j,q,0,0,0,0⟩:=by
    refine⟨by show j<Ns.length;omega,en,⟨_,by unfold eP;rw[bx];exact gE (show q<x.cr.length by omega)⟩,λr0 h0=>?_,λp _ i r0 _ h0=>?_⟩
    ·simp[aT.cl] at h0;omega
    ·have:=gM h0;simpa [aT.cl] using this
   have bc:∀T,cY (bW Ns) z.s.lists ⟨j,q,0,0,0,0⟩=some T->∀v,(bW Ns).leaf v=none->∀x∈z.s.lists v,Ek x T:=λT _ v hv x hx=>by
    rw[vL,vp hv] at hx;cases hx
   refine aq ?_;refine WT.iA 1 Tryz.func81 Z Z Z Z Z Z Z (λ_=>rfl) (w8 F3 vl hf vI hc bc (by show most<=1000;omega) zo a9 (.pointer none) rfl) (λF4 v B4 c2 hv=>?_);obtain⟨r',rfl,es⟩:=hv;refine aq ?_;obtain⟨f1,f2,f3,f4⟩:=wJ (bW Ns) z.s ⟨j,q,0,0,0,0⟩;refine⟨⟨r',ji (bW Ns) z.s ⟨j,q,0,0,0,0⟩⟩,sM,ah.refl _,es,vI.Lx hf hc bc,f1.trans vL,by show (ji _ _ _).seen.length<=E6 Ns j+(q+1);omega,λv hv hl p hp=>f2 _ (vb v hv hl p hp),λp hp=>?_⟩;rcases IN p q with h1 | h1
   ·exact f2 _ (vc p h1)
   ·obtain rfl:p=q:=by omega
    exact f3
  ·intro z F3 b0 hP;obtain⟨vl,vI,vL,vn,vb,vc⟩:=hP;refine⟨z,sM,ah.skip _ oR,vl,vI,vL,by rw[eg,<-al];exact vn,λv hv hl p hp=>?_⟩;rcases IN v j with h1 | h1
   ·exact vb v h1 hl p hp
   ·obtain rfl:v=j:=by omega
    rw[bx] at hp;have hp:p<x.cr.length:=hp;exact vc p (by rw[al];exact hp)
 intro z F2 br hP;obtain⟨ul,uI,uL,un,ub⟩:=hP;have b3:oB (bW Ns) z.s:=λv hv hl p hp=>ub v (by have:v<Ns.length:=hv;omega) hl p hp;refine aq ?_;refine QO (S:=Sb) (λ_=>[]) (λz=>Bb (⟨li,C,g,I,root,most,lo,bif g==0 then 0 else 1,is,J⟩:LP) z.r::[(i2,.cells false [.slice C g I,.int .i64 root])]::own) (λz G=>A4 (⟨li,C,g,I,root,most,lo,bif g==0 then 0 else 1,is,J⟩:LP) Ns G z.r z.s/\Da (bW Ns) root most (z.s.lists root)) ?_ ?_
 ·refine AW.block ?_;refine AW.ek (S:=Sb) (λ_=>[]) (λz=>Bb (⟨li,C,g,I,root,most,lo,bif g==0 then 0 else 1,is,J⟩:LP) z.r::[(i2,.cells false [.slice C g I,.int .i64 root])]::own)
   (λz G=>A4 (⟨li,C,g,I,root,most,lo,bif g==0 then 0 else 1,is,J⟩:LP) Ns G z.r z.s/\Inv (bW Ns) most z.s z.done [] []/\oB (bW Ns) z.s/\z.s.seen.length<=E6 Ns Ns.length+4*MR z.s.lists g) (λz=>E6 Ns Ns.length+4*(g*most)+1-z.done.length) ⟨z.r,z.s,[]⟩
   sM oR ⟨ul,uI,b3,by show z.s.seen.length<=E6 Ns Ns.length+4*MR z.s.lists g;rw[cj] at un;omega⟩ ?_
  intro y F3 b0 b4;obtain⟨yl,yI,yb,yn⟩:=b4;have fl:=Hx yI.len g;have gs:y.done.length<=y.s.seen.length:=qL _ _ yI.GR yI.oQ;have g0:g*most<=1000000*100:=UT zo hm;have g4:=yl.q.len;have g5:=yl.qp.length_eq;have g6:=yI.Ow;obtain⟨ps,ad⟩:∃ps,y.r.qD[root]?=some ps:=⟨_,gE (by have:y.r.qD.length=g:=yl.uq;omega)⟩;obtain⟨va,vn,vc,VB,b1,b2,ar,hbs,hVB,ay⟩:=yl.rows.split ad;have htr:=yl.trees root ps ad;have b5:=hVB.len;have a0:=htr.len;have et:=yI.len root;refine aq ?_
  refine WT.le (oj (⟨li,C,g,I,root,most,lo,bif g==0 then 0 else 1,is,J⟩:LP) y.r _) (WT.split 87 Z (λa5=>?_) (λa5=>?_));rotate_left
  ·have a5:y.r.qn=0:=by simp at a5;omega
   refine gz ?_;refine AW.cond Z (λh=>(by cases h)) (λ_=>?_);refine AW.exit ⟨y,sM,fO (⟨li,C,g,I,root,most,lo,bif g==0 then 0 else 1,is,J⟩:LP) y.r _,yl,yI.Dq hf yb bo (.inr λa ha=>?_)⟩;have:y.s.q=[]:=BY zo;rw[this] at ha;cases ha
  have g7:0<y.r.qn:=by simpa using a5
  refine yP ?_;refine WT.cH (j:=root) (s:=1) hT Z Z Z Z Z Z Z Z Z (show root<g by omega) (WT.loadAt hT 1 Z Z Z Z Z Z me Z Z (v:=.slice va vn vc) (by rw[AI,Tp];exact ar) (gz ?_));refine AW.cond Z (λhc=>?_) (λhc=>?_);rotate_left
  ·have hc:most<=vn:=by simp at hc;omega
   refine AW.exit ⟨y,sM,fO (⟨li,C,g,I,root,most,lo,bif g==0 then 0 else 1,is,J⟩:LP) y.r _,yl,yI.Dq hf yb bo (.inl zo)⟩
  have hc:vn<most:=by simp at hc;omega
  obtain⟨qn,c4⟩:∃qn,y.r.qn=qn+1:=⟨y.r.qn-1,by omega⟩;have yq:=yl.q;rw[c4] at yq;rw[c4];refine yP ?_;refine AW.block (yP ?_);refine WT.sy hT Z Z Z Z Z Z (WT.iA 0 Tryz.func82 Z Z Z Z Z Z Z (λ_=>rfl) (Kb F3 (PE (⟨li,C,g,I,root,most,lo,bif g==0 then 0 else 1,is,J⟩:LP)) yq zo yl.qh) (λF4 v B4 c2 hv=>?_));obtain⟨a6,Q2,⟨c,T⟩,l,rfl,ev,b8,ca,bf,rfl,tp,rfl,a4,g8⟩:=hv;have U:=yl.mono c2;have a7:Inv (bW Ns) most { y.s with q:=(c,T)::Q2 } y.done [] []:=yI.perm (yl.qp.symm.trans b8)
  have P:A4 (⟨li,C,g,I,root,most,lo,bif g==0 then 0 else 1,is,J⟩:LP) Ns F4 { y.r with qn:=qn,qB:=a6,Q:=Q2 } { y.s with q:=Q2 }:=⟨U.nodes,ev,sh _,ca,U.rows,U.uq,U.trees,U.se,U.sl,U.we,U.wn,U.ws,U.wg⟩;refine WT.Ea hT Z Z Z Z Z Z ?_;unfold gU;refine yP ?_;refine WT.az hT Z Z Z Z Z Z (λi12 fr=>?_);have c5:=a4;cases a4 with
  | @mk _ tr tm c6 ta tn tc g9 g1 g2 g3=>
  refine yP ?_;refine AW.cond Z (λaf=>?_) (λaf=>?_)
  ·have af:5000<(Tree.mk tr tm c6).pre.length:=by simp at af;omega
   refine AW.exit ⟨⟨{ y.r with qn:=qn,qB:=a6,Q:=Q2 },{ y.s with q:=Q2 },[]⟩,sM,ah.skip _ (fO (⟨li,C,g,I,root,most,lo,bif g==0 then 0 else 1,is,J⟩:LP) { y.r with qn:=qn,qB:=a6,Q:=Q2 } _),P,a7.Dq hf yb bo (.inr λa ha=>?_)⟩;rcases PJ.1 ha with rfl | ha
   ·exact af
   ·have:=x8 (bf a ha);dsimp only at this;omega
  ·have af:(Tree.mk tr tm c6).pre.length<=5000:=by simp at af;omega
   have av:c.node<g:=by
    have:=(a7.ok c (a7.yH (c,_) me).1).node;have:c.node<Ns.length:=this;omega
   refine yP ?_;refine WT.le (ah.cons _ (fO (⟨li,C,g,I,root,most,lo,bif g==0 then 0 else 1,is,J⟩:LP) { y.r with qn:=qn,qB:=a6,Q:=Q2 } _)) (WT.iA 1 Tryz.func83 Z Z Z Z Z Z Z (λ_=>rfl) (Et F4 P hf a7 yb bf af c5 (by show most<=1000;omega) zo a9) (λF5 v B5 hF5 hv=>?_));obtain⟨r',s',rfl,ex,ax,ey,cc⟩:=hv;have ax:Inv (bW Ns) most s' (c::y.done) [] []:=ax;have a8:s'.seen.length<=E6 Ns Ns.length+4*MR s'.lists g:=by
    rcases cc with ⟨_,e1,e2⟩ | ⟨_,e1,e2⟩
    ·rw[e1,e2];exact yn
    ·rw[e1,I8,n0 av];omega
   have c7:(c::y.done).length<=s'.seen.length:=qL _ _ ax.GR ax.oQ;have e3:=Hx ax.len g;refine aq ?_;refine⟨⟨r',s',c::y.done⟩,?_,sM,ah.skip _ oR,ex,ax,ey,a8⟩;show E6 Ns Ns.length+4*(g*most)+1-(c::y.done).length<E6 Ns Ns.length+4*(g*most)+1-y.done.length;simp only[IT] at c7 ⊢;omega
 intro y F3 b0 b4;obtain⟨yl,yF⟩:=b4;obtain⟨ps,ad⟩:∃ps,y.r.qD[root]?=some ps:=⟨_,gE (by have:y.r.qD.length=g:=yl.uq;omega)⟩;obtain⟨va,vn,vc,VB,b1,b2,ar,hbs,hVB,ay⟩:=yl.rows.split ad;have htr:=yl.trees root ps ad;have b5:=hVB.len;have a0:=htr.len;have et:=yF.len;refine aq ?_;refine WT.le (oj (⟨li,C,g,I,root,most,lo,bif g==0 then 0 else 1,is,J⟩:LP) y.r _) (WT.cH (j:=root) (s:=1) hT Z Z Z Z Z Z Z Z Z (show root<g by omega) (WT.loadAt hT 1 Z Z Z Z Z Z me Z Z (v:=.slice va vn vc) (by rw[AI,Tp];exact ar) (yP ?_)))
 have e4:=yl.nodes;refine WT.bj Tryz.func34 Z Z Z Z Z Z (Ag _ bi hpr e4 root bn) (λv hv=>?_);obtain⟨cn,rfl,av⟩:=hv;refine yP ?_;refine WT.split 132 Z (λhc=>?_) (λhc=>?_);rotate_left
 ·have hc:vn=most:=by simp at hc;omega
  refine yP ?_;refine AW.cond Z (λh=>(by cases h)) (λ_=>?_);refine yP ?_;refine WT.cH (j:=root) (s:=1) hT Z Z Z Z Z Z Z Z Z (show root<g by omega) (WT.loadAt hT 1 Z Z Z Z Z Z me Z Z (v:=.slice va vn vc) (by rw[AI,Tp];exact ar) (yP ?_))
  refine AW.range (S:=Sk) (λs=>[(16,.slice s.a s.n s.c)]) (λs=>s.B::s.bs::((li,.cells false [.slice C g I,.int .i64 root,.int .i64 most,.slice (some ⟨lo,0,none⟩) g (bif g==0 then 0 else 1),.map (some is),.map (some J),.slice y.r.qa y.r.qn y.r.qc])::y.r.qB)::[(lo,.cells false y.r.vs)]::y.r.bs::[(is,.map y.r.se)]::[(J,.map y.r.we)]::y.r.M2::[(i2,.cells false [.slice C g I,.int .i64 root])]::own)
   (λj s G=>cb El E0 s.a s.n s.c s.B s.lS/\fQ s.lS s.bs ((y.s.lists root).take j)) vn ⟨none,0,0,[],[],[]⟩
   Z Z Z Z Z Z Z Z Z zo rfl rfl (λ_=>rfl) (λ_=>rfl) sM (ah.flat (sh _)) ⟨cb.cK _ _,.nil⟩ ?_ ?_
  ·exact Qi
  ·intro u F5 hF5 hP5;obtain⟨hb,hL⟩:=hP5;rw[qs zo] at hL;refine aq ?_;refine AW.le (own2:=(u.B++u.bs)::own) (ah.trans (ah.flat (Va (by simp))) (ah.cons _ (ah.cons _ (ah.skip _ (ah.skip _ (ah.skip _ (ah.skip _ (ah.skip _ (ah.skip _ (ah.skip _ oR)))))))))) (AW.ret ⟨_,[_],⟨_,_,rfl,⟨_,_,rfl,rfl,rfl⟩,rfl⟩,bF,_,rfl,_,_,⟨yF,av⟩,.inl ⟨(.inl zo),_,_,_,u.B,u.lS,u.bs,rfl,rfl,hb,hL⟩⟩)
 have hc:vn<most:=by simpa using hc
 refine yP ?_;refine WT.split 135 Z (λag=>?_) (λag=>?_)
 ·have ag:cn=-1:=by simpa using ag
  refine yP ?_;refine AW.cond Z (λ_=>?_) (λh=>(by cases h));refine yP ?_;refine AW.le (own2:=[]::own) (ah.trans (ah.flat (sh _)) (ah.skip _ (ah.skip _ (ah.skip _ (ah.skip _ (ah.skip _ (ah.skip _ (ah.skip _ oR)))))))) (AW.ret ⟨_,[_],⟨_,_,rfl,⟨_,_,rfl,rfl,rfl⟩,rfl⟩,bF,_,rfl,_,_,⟨yF,av⟩,.inr ⟨by omega,.inl ag,rfl⟩⟩)
 have ag:cn≠-1:=by simpa using ag
 refine yP ?_;refine AW.cond Z (λhc3=>?_) (λhc3=>?_)
 ·have hc3:(vn:Int)<cn:=by simpa using hc3
  refine yP ?_;refine AW.le (own2:=[]::own) (ah.trans (ah.flat (sh _)) (ah.skip _ (ah.skip _ (ah.skip _ (ah.skip _ (ah.skip _ (ah.skip _ (ah.skip _ oR)))))))) (AW.ret ⟨_,[_],⟨_,_,rfl,⟨_,_,rfl,rfl,rfl⟩,rfl⟩,bF,_,rfl,_,_,⟨yF,av⟩,.inr ⟨by omega,.inr (by rw[a0,<-b5];exact hc3),rfl⟩⟩)
 ·have hc3:cn<=(vn:Int):=by simpa using hc3
  refine yP ?_;refine WT.cH (j:=root) (s:=1) hT Z Z Z Z Z Z Z Z Z (show root<g by omega) (WT.loadAt hT 1 Z Z Z Z Z Z me Z Z (v:=.slice va vn vc) (by rw[AI,Tp];exact ar) (yP ?_))
  refine AW.range (S:=Sk) (λs=>[(16,.slice s.a s.n s.c)]) (λs=>s.B::s.bs::((li,.cells false [.slice C g I,.int .i64 root,.int .i64 most,.slice (some ⟨lo,0,none⟩) g (bif g==0 then 0 else 1),.map (some is),.map (some J),.slice y.r.qa y.r.qn y.r.qc])::y.r.qB)::[(lo,.cells false y.r.vs)]::y.r.bs::[(is,.map y.r.se)]::[(J,.map y.r.we)]::y.r.M2::[(i2,.cells false [.slice C g I,.int .i64 root])]::own)
   (λj s G=>cb El E0 s.a s.n s.c s.B s.lS/\fQ s.lS s.bs ((y.s.lists root).take j)) vn ⟨none,0,0,[],[],[]⟩
   Z Z Z Z Z Z Z Z Z zo rfl rfl (λ_=>rfl) (λ_=>rfl) sM (ah.flat (sh _)) ⟨cb.cK _ _,.nil⟩ ?_ ?_
  ·exact Qi
  ·intro u F5 hF5 hP5;obtain⟨hb,hL⟩:=hP5;rw[qs zo] at hL;refine aq ?_;refine AW.le (own2:=(u.B++u.bs)::own) (ah.trans (ah.flat (Va (by simp))) (ah.cons _ (ah.cons _ (ah.skip _ (ah.skip _ (ah.skip _ (ah.skip _ (ah.skip _ (ah.skip _ (ah.skip _ oR)))))))))) (AW.ret ⟨_,[_],⟨_,_,rfl,⟨_,_,rfl,rfl,rfl⟩,rfl⟩,bF,_,rfl,_,_,⟨yF,av⟩,.inl ⟨(.inr ⟨ag,by rw[a0,<-b5];exact hc3⟩),_,_,_,u.B,u.lS,u.bs,rfl,rfl,hb,hL⟩⟩)
theorem Hb{g:aj}{w:List Nat}{E j:List (List Nat)}(h:gN g w E)(l:gN g w j):E=j:=by
 refine V4 (by rw[h.ok.size,l.ok.size]) λn h1 o=>?_;have I:=h.ok.row _ (UR h1);have J:=l.ok.row _ (UR o);refine V4 (by rw[I,J]) λi t C=>?_;refine UY λq=>?_;rw[T8];have P:(E[n][i]).testBit q=true↔vu g w ⟨false,n⟩ i q:=by{rw[<-h.iff n i q zo];constructor;{intro r;exact⟨_,_,gE h1,gE t,r⟩};{rintro⟨row,x,r1,r2,r3⟩;rw[gE h1] at r1;cases r1;rw[gE t] at r2;cases r2;exact r3}};have R:(j[n][i]).testBit q=true↔vu g w ⟨false,n⟩ i q:=by{rw[<-l.iff n i q zo];constructor;{intro r;exact⟨_,_,gE o,gE C,r⟩};{rintro⟨row,x,r1,r2,r3⟩;rw[gE o] at r1;cases r1;rw[gE C] at r2;cases r2;exact r3}};rw[P,R]
structure S9 where
 j:Nat
 a:Option Addr
 c:Nat
 B:List (Nat×aJ)
theorem N5{T:Nat->Nat}(hm:∀d,T d<=T (d+1)){d e:Nat}(h:d<=e):T d<=T e:=by
 induction e with| zero =>{obtain rfl : d = 0 := by{omega};exact mc _}| succ e g=>{rcases IN d (e+1) with h2 | h2;{exact AS (g zo) (hm e)};{obtain rfl:d=e+1:=by{omega};exact mc _}}
theorem j7.some{T:Nat->Nat}{c:Int}(h:j7 T c)(g:c≠0):∃d,1<=T d:=by
 rcases h with ⟨n,⟨D,i⟩,j⟩ | ⟨h,_⟩;{refine⟨D,?_⟩;rw[i D (mc _)];rcases Ts n with e | e;{subst e;exact absurd j (by simpa using g)};{exact e}};{exact h 1}
end Go.Proofs.D
set_option linter.unusedVariables false
set_option maxRecDepth 20000
set_option maxHeartbeats 0
open Go Go.Abs Go.Proofs Go.Proofs.D
namespace Go.Abs
section
variable {C:Ctx}{T:RT}{n:Nat}{k:ck}{F:aA}{own:bA}{ops rest:List Oper}{o:Oper}{Q:ck->aA->bA->List Rec->Prop}{args':List Value}
theorem WT.Nq{f:FuncId}{fn:Func}{fo:Operand}{j:Array Operand}{ts:Array TypeId}{args args' first capt:List Value}{P:aA->Value->Prop}(hf:C.func f=some fn)(hb:fn.body.isSome=true)(p:o.op=.call ⟨.value fo,j,ts⟩)
  (hw:aL ops k o=some true) {dst:Nat} (r:o.dst=some dst) (hn:Nat.blt dst n=true) (t:bg C k fo=some (.func (.func f) ⟨first⟩ ⟨capt⟩)) (hv:dm (bg C k) j.toList=some args) (g:first++args++capt=args') (spec:Spec C f args' F [] λi v o=>o=[]/\P i v)
  (h:∀i v,aA.le F i->P i v->WT C n ops rest ((dst,v)::k) i own (λk2 F2 own2 rs=>Q k2 F2 own2 (⟨F,own,i,own,[]⟩::rs))) :
  WT C n ops (o::rest) k F own Q:=by
 subst g;refine WT.step (l:=[]) (by rw[p];rfl) λe J hk hs=>?_;obtain⟨v,h1,R,U,⟨m,hd⟩,hF,I,rfl,hp⟩:=spec own J hs;refine⟨v,h1,R,own,⟨m,λN hN=>?_⟩,hF,I,by rw[r,aC hn];exact h R v hF hp⟩;unfold cq;rw[dS hk hw];have:aW C (bg C k) J o.op=some (.call f (first++args++capt)):=by{rw[p];simp only[aW,t,hv,sq hf hb]};simp only[dP hk.eval this,hd N hN]
end
end Go.Abs
namespace Go.Proofs.D
def dt:Ty Bool where
 size:=1
 rel:=λ_ l x=>l=[.bool x]
 len:=λ_ _ _ h=>by subst h;rfl
 one:=λ_ _ _ h=>by subst h;rfl
 mono:=λ_ _ _ _ _ h=>h
def Ob(to:Nat):List Sym->Nat->List Key->Prop
 | [],i,ks=>ks=[]/\i=to
 | s::l,i,ks=>∃q g,ks=q::g/\q.sym=s/\q.fJ=i/\Ob to l q.to g
structure Pc(g:aj)(S:List Key)(k:Key)(p:gV)(kp:gh):Prop where
 num:p=eQ S kp
 aB:∃r,g.rules[kp.aB]?=some r/\r.left=k.sym.n/\Ob k.to r.right k.fJ kp.kids
 ins:∀q∈kp.kids,q∈S
structure Ru(g:aj)(w:List Nat)(S:List Key)(k:Key)(x:Node):Prop where
 key:x.key=k
 term:k.sym.term=true->k.to=k.fJ+1/\k.to<=w.length/\w[k.fJ]?=some k.sym.n/\x.cr=[]
 HM:k.sym.term=false->x.cr≠[]
 pack:∀p∈x.cr,∃kp,Pc g S k p kp
 sorted:x.cr.Pairwise λx y=>jV x y<0
theorem DV{g:aj}{w:List Nat}{E:List (List Nat)}{k:Key}(h:k.sym.term=true):bT g w E k=[]:=by
 rw[Vq];intro p hp;obtain⟨r,_,_,i,_⟩:=dJ.1 hp;rw[h] at i;cases i
mutual
theorem aI.pC{g:aj}{w:List Nat}:∀{t:Tree} {s:Sym} {i j l:Nat},aI g w s t i j->aI g w s t i l->j=l
 | .mk _ _ _,_,_,_,_,.leaf _,h=>by cases h with| leaf _=>{rfl}
 | .mk _ _ ks,_,_,_,_,.node h p,o=>by{generalize hs:(⟨false,_⟩:Sym)=s at o;cases o with| node g1 g2=>{rw[h] at g1;cases g1;exact aF.pC p g2}}
theorem aF.pC{g:aj}{w:List Nat}:∀{ts:List Tree} {l:List Sym} {i j o:Nat},aF g w l ts i j->aF g w l ts i o->j=o
 | [],_,_,_,_,.nil,h=>by cases h;rfl
 | _::_,_,_,_,_,.cons h1 p,h=>by{cases h with| cons g1 g2=>{obtain rfl:=aI.pC h1 g1;exact aF.pC p g2}}
end
mutual
theorem aI.dec{g:aj}{w:List Nat}:∀{t u:Tree} {s:Sym} {i j r C:Nat} {x y:List Int},aI g w s t i j->aI g w s u r C->t.pre++x=u.pre++y->t=u/\x=y
 | .mk _ _ _,u,_,_,_,_,_,x,y,.leaf _,h,e=>by{cases h with| leaf _=>{have e:(-1:Int)::([]++x)=-1::([]++y):=e;exact⟨rfl,by simpa using e⟩}}
 | .mk _ _ ks,u,_,_,_,_,_,x,y,.node h I,p,e=>by{generalize hs:(⟨false,_⟩:Sym)=s at p;cases p with| leaf _=>{cases hs}| @node J R l _ _ g1 g2=>{have e:((_:Nat):Int)::(bK ks++x)=(J:Int)::(bK l++y):=e;injection e with o P;have o:=Int.ofNat_inj.1 o;subst o;rw[h] at g1;cases g1;obtain⟨rfl,rfl⟩:=aF.dec I g2 P;exact⟨rfl,rfl⟩}}
theorem aF.dec{g:aj}{w:List Nat}:∀{ts us:List Tree} {l:List Sym} {i j o p:Nat} {x y:List Int},aF g w l ts i j->aF g w l us o p->bK ts++x=bK us++y->ts=us/\x=y
 | [],us,_,_,_,_,_,x,y,.nil,h,e=>by{cases h;exact⟨rfl,by simpa [bK] using e⟩}
 | t::ts,us,_,_,_,_,_,x,y,.cons h1 r,h,e=>by{cases h with| @cons _ _ u us _ _ _ g1 g2=>{have e:(t.pre++bK ts)++x=(u.pre++bK us)++y:=e;rw[By,By] at e;obtain⟨rfl,C⟩:=aI.dec h1 g1 e;obtain⟨rfl,rfl⟩:=aF.dec r g2 C;exact⟨rfl,rfl⟩}}
end
section
variable {g:aj}{w:List Nat}{E:List (List Nat)}{root:Key}{S:List Key}
theorem nK{v:Nat}{k:Key}(hk:S[v]?=some k):(bW (S.map (mkNode g w E S))).leaf v=(if k.sym.term=true then some k.sym.n else none)/\(bW (S.map (mkNode g w E S))).cr v=(bT g w E k).map (eQ S):=by
 unfold bW;simp only[zy,hk];exact⟨rfl,rfl⟩
theorem FV{to:Nat}:∀{l:List Sym} {i:Nat} {ks:List Key} {ts:List Tree},(∀q∈ks,q∈S)->sT (bW (S.map (mkNode g w E S))) (ks.map (place S)) ts->ks∈splits w E to l i->
  (∀(q:Key) (t:Tree),q∈ks->t∈ts->NT (bW (S.map (mkNode g w E S))) (place S q) t->aI g w q.sym t q.fJ q.to)->aF g w l ts i to:=by
 intro l;induction l with| nil=>{intro i ks ts r j h o;unfold splits at h;split at h;{rename_i e;subst e;rw[ti.1 h] at j;cases j;exact .nil};{cases h}}| cons s l C=>{intro i ks ts r j h o;unfold splits at h;obtain⟨m,_,hm⟩:=Up.1 h;split at hm;{obtain⟨I,J,rfl⟩:=x6.1 hm;cases j with| cons P R=>{exact .cons (o ⟨s,i,m⟩ _ me me P) (C (λq p=>r q (mb _ p)) R J λq t U h6 h7=>o q t (mb _ U) (mb _ h6) h7)}};{cases hm}}
theorem NT.tree(P:rq g w E root S)(l:yk w E root):∀(N:Nat) (T:Tree) (k:Key),T.pre.length<N->k∈S->NT (bW (S.map (mkNode g w E S))) (place S k) T->aI g w k.sym T k.fJ k.to
 | 0,_,_,h,_,_=>by omega
 | N+1,T,k,hN,hk,h=>by{have R:=iV hk;obtain⟨hl,hp⟩:=nK (g:=g) (w:=w) (E:=E) R;cases h with| @leaf _ t h1 o=>{rw[hl] at o;split at o;{rename_i C;cases o;have i:=mQ.1 ((P.reach k hk).step l);unfold Step at i;rw[n0 C] at i;obtain⟨⟨st,sn⟩,kf,kt⟩:=k;simp only at C i ⊢;subst C;obtain⟨J,rfl⟩:=i;exact .leaf J};{cases o}}| @node _ p ts h1 o J h4=>{rw[hp] at J;obtain⟨kp,I,rfl⟩:=x6.1 J;obtain⟨r,hr,e1,e2,e3⟩:=dJ.1 I;have j:∀q∈kp.kids,q∈S:=λq U=>P.closed k hk kp I q U;have aa:=FV j h4 e3 (λq t U hm C=>NT.tree P l N t q (by{have h5:=nC hm;have h6:(Tree.mk ((eQ S kp).aB:Int) 0 ts).pre.length=(bK ts).length+1:=rfl;omega}) (j q U) C);have:=aI.node (g:=g) (w:=w) (k:=kp.aB) hr aa;obtain⟨⟨st,sn⟩,kf,kt⟩:=k;simp only at e1 e2 this ⊢;rw[e2,<-e1];exact this}}
theorem Jz(I:∀(T:Tree) (k:Key),k∈S->NT (bW (S.map (mkNode g w E S))) (place S k) T->aI g w k.sym T k.fJ k.to){to:Nat} :
  ∀{l:List Sym} {i:Nat} {ks j:List Key} {ts:List Tree},ks∈splits w E to l i->j∈splits w E to l i->(∀q∈ks,q∈S)->(∀q∈j,q∈S)->
   sT (bW (S.map (mkNode g w E S))) (ks.map (place S)) ts->sT (bW (S.map (mkNode g w E S))) (j.map (place S)) ts->ks=j:=by
 intro l;induction l with| nil=>{intro i ks j ts h r _ _ _ _;unfold splits at h r;split at h;{rename_i e;rw[n0 e] at r;rw[ti.1 h,ti.1 r]};{cases h}}| cons s l R=>{intro i ks j ts h r J t U C;unfold splits at h r;obtain⟨m,_,hm⟩:=Up.1 h;obtain⟨m2,_,o⟩:=Up.1 r;split at hm;{split at o;{obtain⟨aa,h3,rfl⟩:=x6.1 hm;obtain⟨P,h4,rfl⟩:=x6.1 o;cases U with| cons a1 a2=>{cases C with| cons b1 b2=>{have c1:=I _ ⟨s,i,m⟩ (J _ me) a1;have c2:=I _ ⟨s,i,m2⟩ (t _ me) b1;obtain rfl:m=m2:=aI.pC c1 c2;rw[R h3 h4 (λq p=>J q (mb _ p)) (λq p=>t q (mb _ p)) a2 b2]}}};{cases o}};{cases hm}}
theorem Fc(g:aj)(w:List Nat)(E:List (List Nat))(k:Key):(bT g w E k).Nodup:=by
 rw[TP];refine(uw g w E k).imp ?_;rintro a b i rfl;have j:∀l:List Key,¬O7 l l:=by{intro l;induction l with| nil=>{intro h;cases h}| cons q l o=>{intro h;cases h with| here _ _ h=>{omega}| next h=>{exact o h}}};rcases i with h | h;{omega};{exact j _ h.2}
theorem NN(hg:Valid g)(R:rq g w E root S)(al:yk w E root):(bW (S.map (mkNode g w E S))).Good:=by
 have U:(bW (S.map (mkNode g w E S))).n=S.length:=by{unfold bW;simp};have hS:∀(T:Tree) (k:Key),k∈S->NT (bW (S.map (mkNode g w E S))) (place S k) T->aI g w k.sym T k.fJ k.to:=λT k hk h=>NT.tree R al _ T k (TD _) hk h;have at_:∀v,v<(bW (S.map (mkNode g w E S))).n->∃k,S[v]?=some k/\k∈S/\place S k=v:=λv P=>by{rw[U] at P;have h1:S[v]?=some S[v]:=gE P;exact⟨_,h1,gM h1,AO R.nodup h1⟩};have C:∀v T,NT (bW (S.map (mkNode g w E S))) v T->v<(bW (S.map (mkNode g w E S))).n:=λv T h=>by{cases h<;>assumption};refine⟨λv P p hp=>?_,λv T T' h h' e=>?_,λv P hl a b p q ha hb he ts h h'=>?_⟩;{obtain⟨k,hk,i,I⟩:=at_ v P;obtain⟨_,J⟩:=nK (g:=g) (w:=w) (E:=E) hk;rw[J] at hp;obtain⟨kp,ac,rfl⟩:=x6.1 hp;obtain⟨r,hr,e1,e2,e3⟩:=dJ.1 ac;have av:=(hg.right r (gM hr)).2.1;have ax:=ml e3;refine⟨by show (kp.kids.map _).length<=4;rw[tj,ax];exact av,λu hu=>?_⟩;obtain⟨q,hq,rfl⟩:=x6.1 (show u∈kp.kids.map (place S) from hu);rw[U];exact U9 (R.closed k i kp ac q hq)};{obtain⟨k,hk,i,I⟩:=at_ v (C v T h);subst I;have h1:=hS T k i h;have h2:=hS T' k i h';exact(aI.dec (x:=[]) (y:=[]) h1 h2 (by rw[e])).1};{obtain⟨k,hk,i,I⟩:=at_ v P;obtain⟨_,J⟩:=nK (g:=g) (w:=w) (E:=E) hk;rw[J,zy] at ha hb;cases l:(bT g w E k)[a]? with| none=>{rw[l] at ha;cases ha}| some kp=>{cases j:(bT g w E k)[b]? with| none=>{rw[j] at hb;cases hb}| some kq=>{rw[l] at ha;rw[j] at hb;obtain rfl:=aE ha;obtain rfl:=aE hb;have o:=gM l;have t:=gM j;obtain⟨r,hr,e1,e2,e3⟩:=dJ.1 o;obtain⟨r2,ay,f1,f2,f3⟩:=dJ.1 t;have he:kp.aB=kq.aB:=he;rw[he,ay] at hr;cases hr;have af:kp.kids=kq.kids:=Jz hS e3 f3 (λq hq=>R.closed k i kp o q hq) (λq hq=>R.closed k i kq t q hq) h h';have a0:kp=kq:=by{cases kp;cases kq;simp only at he af;subst he af;rfl};rw[<-a0] at j;exact Gj (Fc g w E k) l j}}}
theorem Dc(o:rq g w E root S):∀v,(bW (S.map (mkNode g w E S))).leaf v≠none->(bW (S.map (mkNode g w E S))).cr v=[]:=λv i=>by
 cases hk:S[v]? with| none=>{unfold bW at i;simp[hk] at i}| some k=>{obtain⟨h1,j⟩:=nK (g:=g) (w:=w) (E:=E) hk;rw[h1] at i;rw[j];split at i;{rename_i l;rw[DV l];rfl};{exact absurd rfl i}}
theorem wR:∀(L:List Key),(L.map λk=>(mkNode g w E S k).cr.length).sum=er g w E L
 | []=>rfl
 | k::L=>by{have:=wR L;unfold er at this ⊢;simp only[y2,TL,this];simp[mkNode]}
end
theorem pY{α β:Type}(f:α->List β):∀l:List α,(l.flatMap f).length=(l.map λa=>(f a).length).sum
 | []=>rfl
 | a::l=>by rw[Ur,sj,y2,TL,pY f l]
def nM(g:aj)(w:List Nat)(most:Nat)(L:List Tree)(c:Int):Prop:=
 j7 (λd=>fm g w d ⟨false,g.start⟩ 0 w.length) c/\
  (((∀E,gN g w E->fZ w E ⟨false,g.start⟩ 0 w.length=false)/\L=[])\/(most=0/\L=[])\/
   ∃E S,gN g w E/\fZ w E ⟨false,g.start⟩ 0 w.length=true/\rq g w E (rootKey g w) S/\Da (bW (S.map (mkNode g w E S))) (place S (rootKey g w)) most L)
def Rl(most:Nat)(L:List Tree)(c:Int):Prop:=L.length=most\/(c≠-1/\c<=L.length)
def Ot(most:Nat)(L:List Tree)(c:Int):Prop:=L.length<most/\(c=-1\/(L.length:Int)<c)
theorem zF{T:Nat->Nat}(hm:∀d,T d<=T (d+1))(i:¬qE T):∃n,jl T n:=by
 have aux:∀k d,(∀e,T e<T d+k)->∃n,jl T n:=by{intro k;induction k with| zero=>{intro d h;exact absurd (h d) zo}| succ k j=>{intro d h;by_cases g:∃e,d<=e/\T d<T e;{obtain⟨e,h3,h4⟩:=g;exact j e λl=>by have:=h l;omega};{(refine⟨T d,d,λe he=>?_⟩;have h3:=N5 hm he;rcases IN (T d) (T e) with h4 | h4);{exact(g ⟨e,he,h4⟩).elim};{omega}}}};by_cases h:∃B,∀d,T d<B;{obtain⟨B,h⟩:=h;exact aux B 0 λe=>by have:=h e;omega};{refine(i λB=>?_).elim;by_cases g:∃d,B<=T d;{exact g};{exact(h ⟨B,λd=>by{rcases IN (T d) B with h3 | h3;{exact h3};{exact(g ⟨d,h3⟩).elim}}⟩).elim}}
section
variable {g:aj}{w:List Nat}{most:Nat}{L:List Tree}{c:Int}
theorem nM.valid(h:nM g w most L c):∀T∈L,aI g w ⟨false,g.start⟩ T 0 w.length:=λT hT=>by
 rcases h.2 with ⟨_,rfl⟩ | ⟨_,rfl⟩ | ⟨E,S,o,i,j,l⟩;{cases hT};{cases hT};{exact NT.tree j i _ T (rootKey g w) (TD _) j.first (l.valid T hT)}
theorem nM.sorted(h:nM g w most L c):L.Pairwise rL:=by
 rcases h.2 with ⟨_,rfl⟩ | ⟨_,rfl⟩ | ⟨E,S,l,i,o,j⟩;{exact .nil};{exact .nil};{exact j.sorted}
end
theorem xJ(F:aA)(m:Nat):Abs.Spec CC 47 [.agg ⟨[.slice none 0 0,.int .i64 (-1)]⟩,.int .i64 (m:Nat)] F [] λi v o=>o=[]/\v=.tuple ⟨[.slice none 0 0,.bool true]⟩:=by
 refine Abs.Spec.fn (n:=161) Tryz.func47 rfl rfl λown=>?_;refine AW.seq (AW.fp ?_);refine WT.bN Z Z Z Z Z Z (λi2 g=>?_);refine aq ?_;refine AW.cond Z (λ_=>?_) (λh=>(by cases h));refine aq ?_;exact AW.ret ⟨_,[],⟨_,_,rfl,⟨_,_,rfl,rfl,rfl⟩,rfl⟩,bF,rfl,rfl⟩
theorem xH(F:aA)(g:Option Addr)(i j root:Nat):Abs.Spec CC 47 [.agg ⟨[.slice g i j,.int .i64 root]⟩,.int .i64 ((0:Nat):Int)] F [] λp v o=>o=[]/\v=.tuple ⟨[.slice none 0 0,.bool true]⟩:=by
 refine Abs.Spec.fn (n:=161) Tryz.func47 rfl rfl λown=>?_;refine AW.seq (AW.fp ?_);refine WT.bN Z Z Z Z Z Z (λi2 l=>?_);refine aq ?_;refine AW.cond Z (λ_=>?_) (λh=>(by cases h));refine aq ?_;exact AW.ret ⟨_,[],⟨_,_,rfl,⟨_,_,rfl,rfl,rfl⟩,rfl⟩,bF,rfl,rfl⟩
theorem Spec.L9{f:FuncId}{args:List Value}{F:aA}{P:aA->Value->Prop}(h:Abs.Spec CC f args F [] λg v o=>o=[]/\P g v):Abs.Spec CC f args F [] λg v o=>o=[[]]/\P g v:=by
 intro own j hs;obtain⟨v,l,g,i,h1,p,r,rfl,t⟩:=h own j hs;exact⟨v,l,g,[[]],h1,p,by simpa [St] using r,rfl,t⟩
theorem yG(F:aA)(g:aj)(t:Valid g){w:List Nat}(p:w.length<=12){E:List (List Nat)}(C:gN g w E){fa:Option Addr}{fn fc:Nat}{fr:Int}(hV:D6 g w E F (.agg ⟨[.slice fa fn fc,.int .i64 fr]⟩)){most:Nat}(hm:most<=100) :
  Abs.Spec CC 47 [.agg ⟨[.slice fa fn fc,.int .i64 fr]⟩,.int .i64 (most:Nat)] F [] λF' v o=>∃U,o=[U]/\∃L c,nM g w most L c/\
   ((Rl most L c/\∃a n d B lS bs,v=.tuple ⟨[.slice a n d,.bool true]⟩/\U=B++bs/\cb El E0 a n d B lS/\fQ lS bs L)\/(Ot most L c/\v=.tuple ⟨[.slice none 0 0,.bool false]⟩)):=by
 rcases hV with ⟨i,r⟩ | ⟨i,S,a,n,c,r,l,hA⟩;{(cases r;refine(Spec.L9 (xJ F most)).mono λF' v o _ ⟨I,r⟩=>⟨[],I,[],0,⟨?_,.inl ⟨λE' ad=>by rw[Hb ad C];exact i,rfl⟩⟩,.inl ⟨.inr ⟨by decide,by simp⟩,none,0,0,[],[],[],r,rfl,cb.cK _ _,.nil⟩⟩;refine .inl ⟨0,AY λd=>?_,rfl⟩;rcases Ts (fm g w d ⟨false,g.start⟩ 0 w.length) with e | e);{exact e};{have:=(nh C (If _)).2 (uM e);rw[i] at this;cases this}};{cases r;have j:=u7 t w;have J:=l.first;have P:=iV J;have ae:=(gS P).1;have e:(λd=>bG (S.map (mkNode g w E S)) d (place S (rootKey g w)))=λd=>fm g w d ⟨false,g.start⟩ 0 w.length:=by{funext d;exact uT t C l j i d _ J};have af:=EX t p l j;have hpr:=yV t C l j i;rcases Ts most with h0 | h0;{subst h0;obtain⟨cc,ag⟩:∃c,j7 (λd=>fm g w d ⟨false,g.start⟩ 0 w.length) c:=by{by_cases hb:qE (λd=>fm g w d ⟨false,g.start⟩ 0 w.length);{exact⟨-1,.inr ⟨hb,rfl⟩⟩};{obtain⟨n,hn⟩:=zF (λd=>ve g w d ⟨false,g.start⟩ 0 w.length) hb;exact⟨_,.inl ⟨n,hn,rfl⟩⟩}};exact(Spec.L9 (xH F fa fn fc _)).mono λF' v o _ ⟨I,r⟩=>⟨[],I,[],cc,⟨ag,.inr (.inl ⟨rfl,rfl⟩)⟩,.inl ⟨.inl rfl,none,0,0,[],[],[],r,rfl,cb.cK _ _,.nil⟩⟩};{refine(FR F (NN t l i) af hpr hA (place S (rootKey g w)) (by rw[tj];exact ae) (by rw[(nK P).1];rfl) (Dc l) ?_ h0 hm).mono λF' v o _ ⟨U,I,L,c,⟨hF,hc⟩,R⟩=>⟨U,I,L,c,⟨by rw[<-e];exact hc,.inr (.inr ⟨E,S,C,i,l,hF⟩)⟩,?_⟩;{have:=wR (g:=g) (w:=w) (E:=E) (S:=S) S;unfold E6;rw[Uo,Us];show (S.map λk=>(mkNode g w E S k).cr.length).sum<=_;rw[this];exact AS (Ci t p l.nodup l.reach) (by decide)};{rcases R with ⟨h1,h2⟩ | ⟨h1,h2,h3⟩;{exact .inl ⟨h1,h2⟩};{exact .inr ⟨⟨h1,h2⟩,h3⟩}}}}
def Mz(g:aj)(w:List Nat)(most:Nat)(v:Value)(o:List (List (Nat×aJ))):Prop:=
 ∃i,o=[i]/\∃L c,nM g w most L c/\
   ((Rl most L c/\∃a n d B j bs,v=.tuple ⟨[.slice a n d,.int .i64 0]⟩/\i=B++bs/\cb El E0 a n d B j/\fQ j bs L)\/(Ot most L c/\v=.tuple ⟨[.slice none 0 0,.int .i64 2]⟩))
theorem EL(F:aA)(hL:Laid F)(g:aj)(r:Valid g){ga:Option Addr}{gm gc:Nat}(R:bk cD F ga gm gc g.rules){b:Option Addr}{n d:Nat}{w:List Nat}(hw:bk eV F b n d w)(i:w.length<=12)(C:∀t∈w,t<g.ae){most:Nat}(hm:most<=100) :
  Abs.Spec CC 19 [.agg ⟨ai g ga gm gc⟩,.slice b n d,.int .i64 (most:Nat)] F [] λF' v o=>Mz g w most v o:=by
 unfold ai;refine Abs.Spec.fn (n:=34) Tryz.func19 rfl rfl λown=>?_;refine AW.seq (AW.fp ?_);refine WT.bN Z Z Z Z Z Z (λi3 ad=>?_);refine aq ?_;refine WT.bj Tryz.func33 Z Z Z Z Z Z (wG _ g r R hw i C) (λv l=>?_);subst l;refine aq ?_;refine AW.cond Z (λh=>(by cases h)) (λh=>?_);refine aq ?_;refine AW.cond Z (λh=>(by exfalso;simp at h;omega)) (λh=>?_);refine aq ?_;refine WT.bE Tryz.func35 Z Z Z Z Z Z (wC _ hL g r R hw i) (λF2 v af l=>?_);obtain⟨E,hE,l⟩:=l;have j:∃U fn fc fr,v=.agg ⟨[.slice U fn fc,.int .i64 fr]⟩:=by{rcases l with ⟨_,rfl⟩ | ⟨_,S,a,n',c,rfl,_⟩;{exact⟨_,_,_,_,rfl⟩};{exact⟨_,_,_,_,rfl⟩}};(obtain⟨U,fn,fc,fr,rfl⟩:=j;refine aq ?_;refine WT.jY Tryz.func47 Z Z Z Z Z Z (yG _ g r i hE l hm) (λF3 v B3 an I=>?_);obtain⟨L,c,hW,p⟩:=I;rcases p with ⟨J,a,n',d',B,lS,bs,rfl,rfl,hB,P⟩ | ⟨hf,rfl⟩);{refine aq ?_;refine AW.cond Z (λh=>(by cases h)) (λh=>?_);refine aq ?_;refine AW.ret ⟨_,[_],⟨_,_,rfl,⟨_,_,rfl,rfl,rfl⟩,rfl⟩,List.Sublist.cons_cons _ bF,_,rfl,L,c,hW,.inl ⟨J,_,_,_,_,_,_,rfl,rfl,hB,P⟩⟩};{refine aq ?_;refine AW.cond Z (λ_=>?_) (λh=>(by cases h));refine aq ?_;refine AW.ret ⟨_,[_],⟨_,_,rfl,⟨_,_,rfl,rfl,rfl⟩,rfl⟩,List.Sublist.cons_cons _ bF,_,rfl,L,c,hW,.inr ⟨hf,rfl⟩⟩}
theorem En(F:aA){a b:Option Addr}{m n c d:Nat}{l w0:List Int}(hl:bk dv F a m c l)(hw:bk dv F b n d w0)(hm:n<=9223372036854775807)(most:Nat)(i:most<=1000000) :
  Abs.Spec CC 4 [.slice a m c,.slice b n d,.int .i64 most] F [] λU v o=>o=[]/\∃g a m c b n d w,v=.tuple ⟨[.agg ⟨ai g a m c⟩,.slice b n d]⟩/\Small g/\bk cD U a m c g.rules/\bk eV U b n d w/\w.length<=most/\∀t∈w,t<g.ae:=by
 refine Abs.Spec.fn (n:=17) Tryz.func4 rfl rfl λown=>?_;refine AW.seq (AW.fp ?_);refine WT.az hT Z Z Z Z Z Z (λi6 ac=>?_);refine aq ?_;refine WT.bE Tryz.func12 Z Z Z Z Z Z (D8 _ hl) (λF1 v j r=>?_);obtain⟨g,⟨ga,gm,gc,rfl,C⟩,hg⟩:=r;refine WT.az hT Z Z Z Z Z Z (λi8 ad=>?_);refine aq ?_;refine AW.draw (ps:=[(0,5)]) Z Z (aq ?_);have:=hg.ae;refine WT.bE Tryz.func13 Z Z Z Z Z Z (J5 _ g.ae most zo i (hw.mono j) hm) (λF2 v I r=>?_);obtain⟨wa,wm,wc,w,rfl,J,P,R⟩:=r;refine aq ?_;refine⟨lU,?_⟩;refine AW.ret ⟨_,[],⟨_,_,⟨_,rfl,λG h0 s0=>aD (s0.has (p:=1) Z me) (aM hT rfl)⟩,⟨_,_,rfl,rfl,rfl⟩,rfl⟩,bF,rfl,g,ga,gm,gc,wa,wm,wc,w,rfl,hg,C.mono I,J,P,R⟩
theorem E5(F:aA){a b:Option Addr}{m c d:Nat}{xs:List Tree}(hx:bk bZ F a m c xs)(hy:bk bZ F b m d xs)(hm:m<=1000000)
  (t:∀G J P (x:Tree),x∈xs->bZ.rel G J x->bZ.rel G P x->Abs.Spec CC 9 [.agg ⟨J⟩,.agg ⟨P⟩] G [] λ_ v o=>o=[]/\v=.bool true) :
  Abs.Spec CC 25 [.slice a m c,.slice b m d,.func (.func 9) ⟨[]⟩ ⟨[]⟩] F [] λ_ v o=>o=[]/\v=.bool true:=by
 refine Abs.Spec.fn (n:=32) Tryz.func25 rfl rfl λown=>?_;have R:=hx.len;refine aq ?_;refine AW.cond Z (λh=>(by exfalso;simp at h)) (λ_=>?_);refine aq ?_;refine AW.range (S:=Unit) (λ_=>[]) (λ_=>own) (λj _ G=>True) m () Z Z Z Z Z Z Z Z Z zo Z Z (λ_=>rfl) (λ_=>rfl) sM oR trivial ?_ ?_;{intro j _ F1 i hj hP;have U:=hx.mono i;have aa:=hy.mono i;refine aq ?_;refine WT.bh hT U Z Z Z Z Z Z Z Z Z zo (λx C b1 off ro cs J hb al g=>?_);have l:=g;obtain⟨xr,xt,ab⟩:=x;obtain⟨xa,xn,xc,rfl,_⟩:=cz g;refine aq ?_;refine WT.az hT Z Z Z Z Z Z (λi8 ar=>?_);refine aq ?_;refine WT.bh hT aa Z Z Z Z Z Z Z Z Z zo (λy I b2 ad av ax P ay a0 g=>?_);obtain rfl:y=.mk xr xt ab:=by{rw[C] at I;exact(aE I).symm};have r:=g;obtain⟨ya,yn,yc,rfl,_⟩:=cz g;refine aq ?_;refine WT.az hT Z Z Z Z Z Z (λi9 a1=>?_);refine aq ?_;refine WT.kz Tryz.func9 Z Z Z Z Z Z Z Z (t _ _ _ _ (gM C) l r) (λv hv=>?_);subst hv;refine aq ?_;refine AW.cond Z (λh=>(by cases h)) (λ_=>?_);refine aq ?_;exact⟨(),sM,ah.skip _ (ah.skip _ oR),trivial⟩};{intro _ F1 i hP;refine aq ?_;exact AW.ret ⟨_,[],⟨_,_,rfl,rfl,rfl⟩,bF,rfl,rfl⟩}
theorem pO:∀(N:Nat) (F:aA) (i j:List Value) (x:Tree),x.pre.length<N->bZ.rel F i x->bZ.rel F j x->Abs.Spec CC 9 [.agg ⟨i⟩,.agg ⟨j⟩] F [] λ_ v o=>o=[]/\v=.bool true
 | 0,_,_,_,_,h,_,_=>by omega
 | N+1,F,i,j,.mk r t ks,hN,C,I=>by{obtain⟨xa,J,xc,rfl,g,P⟩:=cz C;obtain⟨ya,R,yc,rfl,l,_⟩:=cz I;obtain rfl:R=J:=by{rw[g.len,l.len]};have U:=g.len;have aa:(Tree.mk r t ks).pre.length=(bK ks).length+1:=rfl;refine Abs.Spec.fn (n:=24) Tryz.func9 rfl rfl λown=>?_;refine AW.seq (AW.fp ?_);refine WT.bN Z Z Z Z Z Z (λi2 ab=>?_);refine WT.bN Z Z Z Z Z Z (λi3 ac=>?_);refine aq ?_;refine WT.gn (v':=.bool true) 10 Z (by congr 1;simp) (aq ?_);refine WT.gn (v':=.bool true) 17 Z (by congr 1;simp) (aq ?_);refine WT.bj Tryz.func25 Z Z Z Z Z Z (E5 _ g l zo (λG i j x hm h1 h2=>pO N G i j x (by have:=nC hm;omega) h1 h2)) (λv hv=>?_);subst hv;refine aq ?_;exact AW.ret ⟨_,[],⟨_,_,rfl,rfl,rfl⟩,bF,rfl,rfl⟩}
def oN:Ty Lr where
 size:=2
 rel:=λ_ l x=>l=[.int .i64 x.aB,.int .i64 x.dot]
 len:=λ_ _ _ h=>by rw[h];rfl
 one:=λ_ _ _ h=>by rw[h];rfl
 mono:=λ_ _ _ _ _ h=>h
theorem DD(F:aA){a:Option Addr}{m c:Nat}{xs:List Lr}(g:bk oN F a m c xs)(hm:m<=1000000) :
  Abs.Spec CC 126 [.slice a m c] F [] λJ v o=>∃j,o=[j]/\∃i l,v=.slice i m l/\mn oN J i m l j xs/\(a=none->i=none):=by
 refine Abs.Spec.fn (n:=8) Tryz.func126 rfl rfl λown=>?_;refine aq ?_;refine WT.nj hT Z Z Z Z Z Z Z Z (aq ?_);refine AW.cond Z (λh=>?_) (λh=>?_);{obtain rfl:a=none:=by{simpa using h};obtain⟨rfl,rfl⟩:=g.nil rfl;obtain rfl:xs=[]:=BY g.len.symm;refine aq ?_;refine AW.le (own2:=[]::own) (ah.flat (sh _)) (AW.ret ⟨_,[[]],⟨_,_,rfl,rfl,rfl⟩,bF,_,rfl,_,_,rfl,(cb.cK _ _).vec,λ_=>rfl⟩)};{refine aq ?_;refine WT.aR hT Z Z Z Z Z Z Z Z Z Z Z Z Z Z (λi5 P=>?_);refine aq ?_;obtain⟨ds,r,C⟩:=nE hT g (t:=232) rfl rfl 139;refine WT.tL hT Z Z Z Z Z Z Z Z Z Z Z Z (λR U=>r _ R U) C g.len (by decide) fj (λi l j I _=>?_);refine aq ?_;refine AW.le (ah.cons _ (ah.skip _ oR)) (AW.ret ⟨_,[_],⟨_,_,rfl,rfl,rfl⟩,bF,_,rfl,_,_,rfl,I,λe=>by subst e;simp at h⟩)}
def oV(x y:Lr):Bool:=decide (x.aB<y.aB\/(x.aB=y.aB/\x.dot<y.dot))
theorem lh{x y:Lr}:oV x y=true↔(x.aB<y.aB\/(x.aB=y.aB/\x.dot<y.dot)):=by unfold oV;exact VM
theorem uF{x y:Lr}:oV x y=false↔¬(x.aB<y.aB\/(x.aB=y.aB/\x.dot<y.dot)):=by unfold oV;exact decide_eq_false_iff_not
theorem Ar:Go.Sort.SWO oV where
 irrefl:=λx=>by rw[uF];omega
 trans:=λx y z h1 g=>by rw[lh] at *;omega
 ntrans:=λx y z h1 g=>by rw[uF] at *;omega
theorem Km(x y:Lr)(h1:oV x y=false)(g:oV y x=false):x=y:=by
 rw[uF] at *;cases x;cases y;simp only at h1 g;simp only[Lr.mk.injEq];omega
theorem Mj(x y:Lr):jq [bm x.aB y.aB,bm x.dot y.dot]<0↔oV x y=true:=by
 rw[lh];simp only[jq];unfold bm;repeat' split;all_goals omega
theorem Ec{j:Nat}(F:aA)(x y:Lr):Abs.Spec (xV j) 129 [.agg ⟨[.int .i64 x.aB,.int .i64 x.dot]⟩,.agg ⟨[.int .i64 y.aB,.int .i64 y.dot]⟩] F [] λ_ v o=>o=[]/\v=.int .i64 (jq [bm x.aB y.aB,bm x.dot y.dot]):=by
 refine Abs.Spec.fn (n:=17) Tryz.func129 rfl rfl λown=>?_;refine AW.seq (AW.fp ?_);refine WT.bN Z Z Z Z Z Z (λi2 r=>?_);refine WT.bN Z Z Z Z Z Z (λi3 t=>?_);refine aq ?_;refine AW.draw (ps:=[(6,4),(8,4)]) Z Z (aq ?_);refine WT.bj Tryz.func111 Z Z Z Z Z Z (dD _ _ _) (λv g=>?_);subst g;refine aq ?_;refine WT.bj Tryz.func111 Z Z Z Z Z Z (dD _ _ _) (λv g=>?_);subst g;refine WT.aR hT Z Z Z Z Z Z Z Z Z Z Z Z Z Z (λi9 C=>?_);refine WT.fP 0 Tryz.func110 Z Z Z Z Z Z Z (λG I i=>xX G (l:=[bm x.aB y.aB,bm x.dot y.dot]) (cb.frozen (F:=F) (B:=[(i9,.cells false [.int .i64 (bm x.aB y.aB),.int .i64 (bm x.dot y.dot)])]) ⟨rfl,.inr ⟨i9,_,rfl,rfl,rfl,aG.cons (l:=[_]) Z (aG.single (x:=bm x.dot y.dot) rfl),by decide⟩⟩ I i) (by decide)) (λv g=>?_);subst g;refine aq ?_;refine⟨lU,?_⟩;exact AW.ret ⟨_,[],⟨_,_,rfl,rfl,rfl⟩,bF,rfl,rfl⟩
theorem I1:ltOf Pl=oV:=by
 funext x y;unfold ltOf;rw[T8,VM];exact Mj x y
theorem C7(F:aA){a:Option Addr}{m c:Nat}{xs:List Lr}(P:bk oN F a m c xs)(hm:m<=1000000)(x:Lr) :
  Abs.Spec CC 150 [.slice a m c,.agg ⟨[.int .i64 x.aB,.int .i64 x.dot]⟩] F [] λ_ v o=>o=[]/\∃i:Int,v=.int .i64 i/\(0<=i↔x∈xs):=by
 refine Abs.Spec.fn (n:=19) Tryz.func150 rfl rfl λown=>?_;have C:=P.len;refine AW.seq (AW.fp ?_);refine WT.bN Z Z Z Z Z Z (λi3 R=>?_);refine aq ?_;refine AW.range (S:=Unit) (λ_=>[]) (λ_=>_) (λj _ G=>x∉xs.take j) m () Z Z Z Z Z Z Z Z Z zo Z Z (λ_=>rfl) (λ_=>rfl) sM oR (by simp) ?_ ?_;{intro j _ U g hj t;have I:=P.mono g;refine aq ?_;refine WT.bh hT I Z Z Z Z Z Z Z Z Z zo (λy l b1 off ro cs ly hb ab r=>?_);obtain rfl:ly=_:=r;refine aq ?_;refine AW.cond Z (λJ=>?_) (λJ=>?_);{refine aq ?_;have e:x=y:=by{simp at J;cases x;cases y;simp only[Lr.mk.injEq] at *;omega};subst e;refine AW.ret ⟨_,[],⟨_,_,rfl,rfl,rfl⟩,bF,rfl,_,rfl,?_⟩;exact⟨λ_=>gM l,λ_=>by omega⟩};{refine aq ?_;refine⟨(),sM,cF,?_⟩;show x∉xs.take (j+1);rw[yo,l];intro hm;rcases D1.1 hm with h | h;{exact t h};{have e:x=y:=by{simpa using h};subst e;simp at J}}};{intro _ U g t;rw[qs zo] at t;refine aq ?_;exact AW.ret ⟨_,[],⟨_,_,rfl,rfl,rfl⟩,bF,rfl,_,rfl,by simp[t]⟩}
theorem xO(F:aA){a:Option Addr}{m c:Nat}{xs:List Lr}(g:bk oN F a m c xs)(hm:m<=1000000)(x:Lr) :
  Abs.Spec CC 127 [.slice a m c,.agg ⟨[.int .i64 x.aB,.int .i64 x.dot]⟩] F [] λ_ v o=>o=[]/\v=.bool (decide (x∈xs)):=by
 refine Abs.Spec.fn (n:=9) Tryz.func127 rfl rfl λown=>?_;refine AW.seq (AW.fp ?_);refine WT.bN Z Z Z Z Z Z (λi3 j=>?_);refine aq ?_;refine WT.bj Tryz.func150 Z Z Z Z Z Z (C7 _ g hm x) (λv l=>?_);obtain⟨i,rfl,hi⟩:=l;refine aq ?_;refine AW.ret ⟨_,[],⟨_,_,rfl,rfl,rfl⟩,bF,rfl,?_⟩;rw[show decide (x∈xs)=decide (0<=i) from by simp[hi]];rfl
theorem A0:∀xs:List Lr,wh (xs.flatMap Aw)=some xs
 | []=>rfl
 | ⟨a,b⟩::xs=>by{show (match wh (xs.flatMap Aw) with | some l=>some ((⟨a,b⟩:Lr)::l) | none=>none)=_;rw[A0 xs]}
theorem Er(F:aA){a0:Option Addr}{m c:Nat}{B:List (Nat×aJ)}{xs:List Lr}(l:mn oN F a0 m c B xs)(i:xs=[]->a0=none)(hm:m<=1000000) :
  Abs.Spec CC 128 [.slice a0 m c,.func (.func 129) ⟨[]⟩ ⟨[]⟩] F [B] λp v o=>∃j,o=[j]/\mn oN p a0 m c j (Go.Sort.sort oV xs.toArray).toList:=by
 have:=Spec.sort (C:=CC) (F:=F) (R:=oN) (enc:=Aw) (dec:=wh) (lt:=oV) (f:=128) (g:=129) (by rw[<-I1];rfl) Ar (λ_ _ _ h=>h) (λ_ _=>rfl) A0 l i hm;exact this
def RV(l:List Lr):Prop:=l.Pairwise (λx y=>oV y x=false)
def gu(l:List Lr):Prop:=l.Pairwise (λx y=>oV x y=true)
theorem Gq{xs:List Lr}(h:RV xs){j:Nat}{x p z:Lr}(l:xs[j]?=some x)(hp:xs[j-1]?=some p)(P:0<j)(o:x≠p)(J:z∈xs.take j):oV z x=true:=by
 unfold RV at h;rw[TS] at h;obtain⟨r,l⟩:=gS l;obtain⟨g,hp⟩:=gS hp;have h1:=h (j-1) j g r zo;rw[l,hp] at h1;have C:oV p x=true:=by{cases e:oV p x with| true=>{rfl}| false=>{exact absurd (Km _ _ h1 e) o}};obtain⟨i,hi,rfl⟩:=VI J;rw[Tg] at hi;rw[List.getElem_take];have t:i<xs.length:=by{omega};rcases IN i (j-1) with h3 | h3;{have I:=h i (j-1) t g h3;rw[hp] at I;rw[uF] at I;rw[lh] at C ⊢;omega};{obtain rfl:i=j-1:=by{omega};rw[hp];exact C}
theorem nA{xs:List Lr}{j:Nat}{x:Lr}(g:xs[j]?=some x):xs.take (j+1)=xs.take j++[x]:=by rw[yo,g];rfl
theorem Gd{xs:List Lr}{j:Nat}{p:Lr}(hp:xs[j-1]?=some p)(g:0<j):p∈xs.take j:=by
 refine gM (i:=j-1) ?_;rw[Tv,n0 zo,hp]
structure SM where
 i:Nat
 q:Nat
 ys:List Lr
 B:List (Nat×aJ)
theorem zQ(F:aA){a:Option Addr}{m c:Nat}{B:List (Nat×aJ)}{xs:List Lr}(hv:mn oN F a m c B xs)(hm:m<=1000000)(hs:RV xs) :
  Abs.Spec CC 130 [.slice a m c] F [B] λF' v o=>o=[]/\∃a' m' c' zs,v=.slice a' m' c'/\bk oN F' a' m' c' zs/\m'<=m/\gu zs/\∀z,z∈zs↔z∈xs:=by
 have I:=hv.len;refine Abs.Spec.fn (n:=61) Tryz.func130 rfl rfl λown=>?_;refine ak ?_;refine AW.cond Z (λh=>?_) (λh=>?_);{have h:m<2:=by{simp at h;omega};refine AW.aw 0 Z Z (λF1 ab a7=>?_);refine ak ?_;refine AW.ret ⟨_,[],⟨_,_,rfl,rfl,rfl⟩,bF,rfl,a,m,c,xs,rfl,hv.arr ab a7,mc _,?_,λ_=>Iff.rfl⟩;match xs,I with| [],_=>{exact List.Pairwise.nil}| [x],_=>{exact U1 _ _}| _::_::_,I=>{simp at I;omega}};have h:2<=m:=by{simp at h;omega};obtain⟨x0,ar⟩:∃x,xs[0]?=some x:=⟨_,gE zo⟩;obtain⟨ib,b4,rfl,rfl,bt,_⟩:=hv.at_ ar;obtain rfl:c=2:=by{rcases hv.cap with h5 | h5;{have:=hv.zero h5;omega};{exact h5}};refine ak ?_;refine AW.block (AW.ek (S:=Nat) (λi=>[(3,.int .i64 (i:Nat))]) (λ_=>_) (λi G=>1<=i/\i<=m/\gu (xs.take i)) (λi=>m-i) 1 sM oR ⟨mc _,by omega,?_⟩ ?_);{rw[nA (j:=0) ar];exact U1 _ _};intro i F1 ab hP;obtain⟨b7,b8,R⟩:=hP;have J:=hv.mono ab;refine ak ?_;refine AW.cond Z (λh2=>?_) (λh2=>?_);{have h2:i<m:=by{simpa using h2};obtain⟨x,hx⟩:∃x,xs[i]?=some x:=⟨_,gE zo⟩;obtain⟨p,hp⟩:∃x,xs[i-1]?=some x:=⟨_,gE zo⟩;refine ak ?_;refine AW.block (ak ?_);refine WT.HS hT J Z Z Z Z Z Z Z Z Z h2 (λb5 a9=>?_);refine WT.EO hT 0 J a9 hx Z Z Z Z Z Z Z Z Z (λl I=>?_);obtain rfl:l=_:=I;refine ak ?_;refine WT.HS hT J Z Z Z Z Z Z Z Z Z zo (λb6 ac=>?_);refine WT.EO hT 0 J ac hp Z Z Z Z Z Z Z Z Z (λl I=>?_);obtain rfl:l=_:=I;refine ak ?_;refine AW.cond Z (λh3=>?_) (λh3=>?_);{have e:x=p:=by{simp at h3;cases x;cases p;simp only[Lr.mk.injEq] at *;omega};subst e;refine ak ?_;refine WT.slice Z Z Z Z Z Z Z Z (λh0=>wB (lo:=i) (hi:=m) hT Z Z Z Z Z zo (mc _) (.inr rfl) h0) (ak ?_);refine AW.block (AW.ek (S:=SM) (λs=>[(3,.int .i64 (s.i:Nat)),(5,.int .i64 (s.q:Nat))]) (λs=>s.B::own) (λs G=>mn oN G (some ⟨ib,0,none⟩) m 2 s.B s.ys/\1<=s.q/\i+s.q<=m/\s.i+1<=i+s.q/\s.ys.drop (i+s.q-1)=xs.drop (i+s.q-1)/\gu (s.ys.take s.i)/\∀z,z∈s.ys.take s.i↔z∈xs.take (i+s.q)) (λs=>m-s.q) ⟨i,1,xs,_⟩ sM oR ⟨J,mc _,by dsimp only;omega,mc _,rfl,R,λz=>?_⟩ ?_);{show z∈xs.take i↔z∈xs.take (i+1);rw[nA hx,D1];exact⟨.inl,λU=>U.elim id λU=>by{have e:z=x:=by{simpa using U};subst e;exact Gd hp zo}⟩};intro s F2 av hP;obtain⟨g,cc,cf,ch,ax,P,r⟩:=hP;have bv:=g.len;refine ak ?_;refine AW.cond Z (λh4=>?_) (λh4=>?_);{have h4:i+s.q<m:=by{simp at h4;omega};refine ak ?_;refine AW.block (ak ?_);obtain⟨y,hy⟩:∃y,xs[i+s.q]?=some y:=⟨_,gE zo⟩;obtain⟨p2,ad⟩:∃y,xs[i+s.q-1]?=some y:=⟨_,gE zo⟩;have up:∀d,s.ys[i+s.q-1+d]?=xs[i+s.q-1+d]?:=λd=>by{rw[<-Tu,ax,Tu]};have ay:s.ys[i+s.q]?=some y:=by{have:=up 1;rw[show i+s.q-1+1=i+s.q by omega] at this;rw[this,hy]};have bc:s.ys[i+s.q-1]?=some p2:=by{have:=up 0;rw[UA] at this;rw[this,ad]};have aa:s.ys.drop (i+s.q)=xs.drop (i+s.q):=by{have:=congrArg (List.drop 1) ax;rw[Vw,Vw,show i+s.q-1+1=i+s.q by omega] at this;exact this};refine WT.cH hT Z Z Z Z Z Z Z Z Z zo ?_;rw[show 0+i*2+s.q*2=(i+s.q)*2 by omega];refine WT.EO hT 0 g Z ay Z Z Z Z Z Z Z Z Z (λl I=>?_);obtain rfl:l=_:=I;refine ak ?_;refine WT.cH hT Z Z Z Z Z Z Z Z Z zo ?_;rw[show 0+i*2+(s.q-1)*2=(i+s.q-1)*2 by omega];refine WT.EO hT 0 g Z bc Z Z Z Z Z Z Z Z Z (λl I=>?_);obtain rfl:l=_:=I;refine ak ?_;refine AW.cond Z (λh5=>?_) (λh5=>?_);{have ae:y≠p2:=by{rintro rfl;simp at h5};refine ak ?_;refine WT.cH hT Z Z Z Z Z Z Z Z Z zo ?_;rw[show 0+i*2+s.q*2=(i+s.q)*2 by omega];refine WT.EO hT 0 g Z ay Z Z Z Z Z Z Z Z Z (λl I=>?_);obtain rfl:l=_:=I;refine WT.HS hT g Z Z Z Z Z Z Z Z Z zo (λb6 ac=>?_);obtain⟨z,U⟩:∃z,s.ys[s.i]?=some z:=⟨_,gE zo⟩;have bd:s.i<s.ys.length:=by{omega};refine WT.S3 (y:=y) hT 0 g ac U Z Z Z Z Z Z Z (λ_=>rfl) Z (λB6 af=>?_);refine ak ?_;have ht:(s.ys.set s.i y).take (s.i+1)=s.ys.take s.i++[y]:=by{rw[yo,xk bd,List.take_set_of_le (mc _)];rfl};refine⟨⟨s.i+1,s.q+1,s.ys.set s.i y,B6⟩,by dsimp only;omega,sM,cF,af,by dsimp only;omega,by dsimp only;omega,by dsimp only;omega,?_,?_,λw=>?_⟩;{show (s.ys.set s.i y).drop (i+(s.q+1)-1)=xs.drop (i+(s.q+1)-1);rw[show i+(s.q+1)-1=i+s.q by omega,List.drop_set_of_lt zo,aa]};{show gu ((s.ys.set s.i y).take (s.i+1));rw[ht];refine List.pairwise_append.2 ⟨P,U1 _ _,λw hw w2 ag=>?_⟩;obtain rfl:w2=y:=by{simpa using ag};exact Gq hs hy ad zo ae ((r w).1 hw)};{show w∈(s.ys.set s.i y).take (s.i+1)↔w∈xs.take (i+(s.q+1));rw[ht,<-UJ,nA hy,D1,D1,r]}};{have e:y=p2:=by{simp at h5;cases y;cases p2;simp only[Lr.mk.injEq] at *;omega};subst e;refine ak ?_;refine⟨⟨s.i,s.q+1,s.ys,s.B⟩,by dsimp only;omega,sM,cF,g,by dsimp only;omega,by dsimp only;omega,by dsimp only;omega,?_,P,λw=>?_⟩;{show s.ys.drop (i+(s.q+1)-1)=xs.drop (i+(s.q+1)-1);rw[show i+(s.q+1)-1=i+s.q by omega,aa]};{show w∈s.ys.take s.i↔w∈xs.take (i+(s.q+1));rw[r,<-UJ,nA hy,D1];exact⟨.inl,λU=>U.elim id λU=>by{have e:w=y:=by{simpa using U};subst e;exact Gd ad zo}⟩}}};{have h4:i+s.q=m:=by{simp at h4;omega};refine AW.exit (ak ?_);refine WT.slice Z Z Z Z Z Z Z Z (λh0=>wB (lo:=s.i) (hi:=m) hT Z Z Z Z Z zo (mc _) (.inr rfl) h0) (WT.O1 (x0:=(⟨0,0⟩:Lr)) (i:=s.i) (l:=m-s.i) hT 0 g Z Z Z Z Z Z Z Z Z zo zo Z (λ_=>rfl) (λB6 af=>?_));refine WT.aw 0 Z Z (λF6 bi a0=>?_);have a1:=af.arr bi a0;obtain⟨sa,sc,bn,a2⟩:=a1.slice (C:=CC) (lo:=0) (hi:=s.i) (If _) zo hT (t:=232) Z Z Z none (some (.int .i64 (s.i:Nat))) rfl rfl;refine ak ?_;refine WT.slice Z Z Z Z Z Z Z Z bn (ak ?_);have e:(List.take s.i (List.take s.i s.ys++List.replicate (m-s.i) ⟨0,0⟩)).drop 0=s.ys.take s.i:=by{rw[Vg,List.take_left' (by rw[Tg];omega)]};rw[e] at a2;refine AW.ret ⟨_,[],⟨_,_,rfl,rfl,rfl⟩,bF,rfl,sa,_,sc,_,rfl,a2,by omega,P,λw=>?_⟩;rw[r,h4,qs zo]}};{have ae:x≠p:=by{rintro rfl;simp at h3};refine ak ?_;refine⟨i+1,by omega,sM,cF,by omega,by omega,?_⟩;rw[nA hx];refine List.pairwise_append.2 ⟨R,U1 _ _,λw hw w2 ag=>?_⟩;obtain rfl:w2=x:=by{simpa using ag};exact Gq hs hx hp zo ae hw}};{have h2:i=m:=by{simp at h2;omega};refine AW.exit (AW.aw 0 Z Z (λF2 av bo=>?_));refine ak ?_;refine AW.ret ⟨_,[],⟨_,_,rfl,rfl,rfl⟩,bF,rfl,_,m,_,xs,rfl,J.arr av bo,mc _,?_,λ_=>Iff.rfl⟩;rw[qs zo] at R;exact R}
def bw(g:aj)(x:Lr):Option Sym:=
 if x.aB=g.rules.length then (if x.dot=0 then some ⟨false,g.start⟩ else none) else match g.rules[x.aB]? with
  | some r=>r.right[x.dot]?
  | none=>none
theorem iR(F:aA)(g:aj)(P:∀r∈g.rules,r.right.length<=100){a:Option Addr}{m c:Nat}(U:bk cD F a m c g.rules)(hm:m<=1000000)(x:Lr)(hx:x.aB<=m) :
  Abs.Spec CC 96 [.agg ⟨ai g a m c⟩,.agg ⟨[.int .i64 x.aB,.int .i64 x.dot]⟩] F [] λ_ v o=>o=[]/\∃(y:Sym) (b:Bool),v=.tuple ⟨[.agg ⟨[.bool y.term,.int .i64 y.n]⟩,.bool b]⟩/\(b=true->bw g x=some y)/\(b=false->bw g x=none):=by
 have ag:=U.len;unfold ai;refine Abs.Spec.fn (n:=37) Tryz.func96 rfl rfl λown=>?_;refine AW.seq (AW.fp ?_);refine WT.bN Z Z Z Z Z Z (λi2 al=>?_);refine WT.bN Z Z Z Z Z Z (λi3 an=>?_);refine WT.az hT Z Z Z Z Z Z (λi4 ao=>?_);refine aq ?_;refine AW.cond Z (λh=>?_) (λh=>?_);{have h:x.aB=g.rules.length:=by{simp at h;omega};refine aq ?_;refine AW.draw (ps:=[(4,2),(4,6),(5,2),(5,6)]) Z Z (aq ?_);refine WT.bj Tryz.func29 Z Z Z Z Z Z (nT _ _) (λv hv=>?_);subst hv;refine aq ?_;refine⟨lU,?_⟩;refine AW.ret ⟨_,[],⟨_,_,⟨_,rfl,λG h0 t=>aD (t.has (p:=0) Z me) (aM hT rfl)⟩,⟨_,_,rfl,rfl,rfl⟩,rfl⟩,bF,rfl,⟨false,g.start⟩,_,rfl,λi=>?_,λi=>?_⟩;{unfold bw;rw[n0 h,n0 (by simpa using i)]};{unfold bw;rw[n0 h,nw (by simpa using i)]}};{have h:x.aB<g.rules.length:=by{simp at h;omega};refine aq ?_;refine WT.bh hT U Z Z Z Z Z Z Z Z Z zo (λr C b5 ab av ax ay a0 a1 j=>?_);obtain⟨ra,rn,rc,rfl,I⟩:=j;have ad:=I.len;have a2:=P r (gM C);have ha:bw g x=r.right[x.dot]?:=by{unfold bw;rw[nw zo,C]};refine aq ?_;refine AW.cond Z (λJ=>?_) (λJ=>?_);{have J:x.dot<rn:=by{simp at J;omega};refine aq ?_;refine WT.bh hT I Z Z Z Z Z Z Z Z Z zo (λy hy b6 af a4 a5 R a6 a7 l=>?_);obtain rfl:R=_:=l;refine aq ?_;refine AW.ret ⟨_,[],⟨_,_,⟨_,rfl,λG h0 t=>aD (t.has (p:=0) Z me) (aM hT rfl)⟩,⟨_,_,rfl,rfl,rfl⟩,rfl⟩,bF,rfl,y,true,rfl,λ_=>?_,λi=>by cases i⟩;rw[ha,hy]};{have J:rn<=x.dot:=by{simp at J;omega};refine aq ?_;refine AW.ret ⟨_,[],⟨_,_,⟨_,rfl,λG h0 t=>aD (t.has (p:=0) Z me) (aM hT rfl)⟩,⟨_,_,rfl,rfl,rfl⟩,rfl⟩,bF,rfl,⟨false,0⟩,false,rfl,λi=>(by cases i),λ_=>?_⟩;rw[ha,UG];omega}}
theorem DB(F:aA)(g:aj)(C:∀r∈g.rules,r.right.length<=100){a:Option Addr}{m c:Nat}(J:bk cD F a m c g.rules)(hm:m<=1000000)(x:Nat)(hx:x<=m) :
  Abs.Spec CC 90 [.agg ⟨ai g a m c⟩,.int .i64 x] F [] λ_ v o=>o=[]/\∃b n d,v=.slice b n d/\n=(if x=m then 1 else ((g.rules[x]?).map (·.right.length)).getD 0):=by
 have R:=J.len;unfold ai;refine Abs.Spec.fn (n:=32) Tryz.func90 rfl rfl λown=>?_;refine AW.seq (AW.fp ?_);refine WT.bN Z Z Z Z Z Z (λi2 U=>?_);refine aq ?_;refine AW.block (aq ?_);refine AW.cond Z (λh=>?_) (λh=>?_);{have h:x=m:=by{simp at h;omega};refine aq ?_;refine WT.bj Tryz.func29 Z Z Z Z Z Z (nT _ _) (λv I=>?_);subst I;refine WT.aR hT Z Z Z Z Z Z Z Z Z Z Z Z Z Z (λi5 aa=>?_);refine aq ?_;refine AW.ret ⟨_,[],⟨_,_,rfl,rfl,rfl⟩,bF,rfl,_,_,_,rfl,?_⟩;rw[n0 h]};{have h:x<m:=by{simp at h;omega};refine aq ?_;refine AW.cond Z (λh=>(by simp at h;omega)) (λ_=>?_);refine aq ?_;refine WT.bh hT J Z Z Z Z Z Z Z Z Z zo (λr j b5 P ab ac ad ae af i=>?_);obtain⟨ra,rn,rc,rfl,l⟩:=i;have t:=l.len;have ag:=C r (gM j);refine aq ?_;refine WT.jY Tryz.func74 Z Z Z Z Z Z (mD _ l zo) (λF2 v B2 al I=>?_);obtain⟨ca,cc,rfl,_⟩:=I;refine aq ?_;refine AW.ret ⟨_,[],⟨_,_,rfl,rfl,rfl⟩,bF,rfl,_,_,_,rfl,?_⟩;rw[nw zo,j];exact t}
inductive iJ(g:aj)(l:List Lr):Lr->Prop
 | base {x:Lr}:x∈l->iJ g l x
 | more {x:Lr} {n k:Nat} {r:bY}:iJ g l x->bw g x=some ⟨false,n⟩->g.rules[k]?=some r->r.left=n->iJ g l ⟨k,0⟩
structure p7(g:aj)(l xs:List Lr):Prop where
 ad:∃ad:List Nat,xs=l++ad.map (λk=>⟨k,0⟩)/\ad.Nodup/\∀k∈ad,k<g.rules.length
 Bi:∀x∈xs,iJ g l x
def Ln(g:aj)(xs:List Lr)(x:Lr):Prop:=∀n k r,bw g x=some ⟨false,n⟩->g.rules[k]?=some r->r.left=n->(⟨k,0⟩:Lr)∈xs
theorem p7.Eo{g:aj}{l xs:List Lr}(h:p7 g l xs):xs.length<=l.length+g.rules.length:=by
 obtain⟨ad,rfl,i,hk⟩:=h.ad;have:=yw _ ad i hk;rw[sj,tj];omega
theorem p7.aB{g:aj}{l xs:List Lr}(h:p7 g l xs)(i:∀x∈l,x.aB<=g.rules.length):∀x∈xs,x.aB<=g.rules.length:=by
 obtain⟨ad,rfl,p,hk⟩:=h.ad;intro x j;rcases D1.1 j with h1 | h1;{exact i x h1};{obtain⟨k,o,rfl⟩:=x6.1 h1;exact TC (hk k o)}
theorem p7.add{g:aj}{l xs:List Lr}(h:p7 g l xs){x:Lr}(o:x∈xs){n k:Nat}{r:bY}(h1:bw g x=some ⟨false,n⟩)(j:g.rules[k]?=some r)(p:r.left=n)(i:(⟨k,0⟩:Lr)∉xs):p7 g l (xs++[⟨k,0⟩]):=by
 obtain⟨ad,e,t,hk⟩:=h.ad;refine⟨⟨ad++[k],by rw[e];simp,?_,?_⟩,?_⟩;{rw[Uf];refine⟨t,by simp,λa ha b C=>?_⟩;obtain rfl:b=k:=by{simpa using C};rintro rfl;exact i (by rw[e];exact Tf _ (x6.2 ⟨_,ha,rfl⟩))};{intro a ha;rcases D1.1 ha with ha | ha;{exact hk a ha};{obtain rfl:a=k:=by{simpa using ha};exact(gS j).1}};{intro y hy;rcases D1.1 hy with hy | hy;{exact h.Bi y hy};{obtain rfl:y=⟨k,0⟩:=by{simpa using hy};exact .more (h.Bi x o) h1 j p}}
theorem p7.full{g:aj}{l xs:List Lr}(h:p7 g l xs)(i:∀x∈xs,Ln g xs x)(x:Lr):x∈xs↔iJ g l x:=by
 refine⟨h.Bi x,λj=>?_⟩;induction j with| base h1=>{obtain⟨ad,rfl,_⟩:=h.ad;exact Te _ h1}| more _ o p r t=>{exact i _ t _ _ _ o p r}
theorem Ln.more{g:aj}{xs:List Lr}{x y:Lr}(h:Ln g xs x):Ln g (xs++[y]) x:=λn k r h1 i j=>Te _ (h n k r h1 i j)
structure R8 where
 i:Nat
 xs:List Lr
 a:Option Addr
 c:Nat
 B:List (Nat×aJ)
theorem nW(F:aA)(g:aj)(b3:∀r∈g.rules,r.right.length<=100){a:Option Addr}{m c:Nat}(hr:bk cD F a m c g.rules)(hm:m<=100){b:Option Addr}{n d:Nat}{l:List Lr}(hl:bk oN F b n d l)(hn:n<=1000)(b4:l=[]->b=none)(b6:∀x∈l,x.aB<=g.rules.length) :
  Abs.Spec CC 98 [.agg ⟨ai g a m c⟩,.slice b n d] F [] λF' v o=>o=[]/\∃a' m' c' zs,v=.slice a' m' c'/\bk oN F' a' m' c' zs/\m'<=n+m/\gu zs/\∀z,z∈zs↔iJ g l z:=by
 have dr:=hr.len;have bd:=hl.len;unfold ai;refine Abs.Spec.fn (n:=65) Tryz.func98 rfl rfl λown=>?_;refine AW.seq (AW.fp ?_);refine WT.bN Z Z Z Z Z Z (λi2 ds=>?_);refine ak ?_;refine WT.jY Tryz.func126 Z Z Z Z Z Z (DD _ hl zo) (λF1 v B1 b9 hv=>?_);obtain⟨ca,cc,rfl,hv,cf⟩:=hv;have ch:=hr.mono b9;rw[bd] at hv;rw[bd];refine ak ?_;refine AW.block (AW.ek (S:=R8) (λs=>[(6,.int .i64 (s.i:Nat)),(5,.slice s.a s.xs.length s.c)]) (λs=>s.B::[(i2,.cells false [.int .i64 g.ae,.int .i64 g.ay,.int .i64 g.start,.slice a m c])]::own) (λs G=>mn oN G s.a s.xs.length s.c s.B s.xs/\p7 g l s.xs/\s.i<=s.xs.length/\(s.xs=[]->s.a=none)/\∀x∈s.xs.take s.i,Ln g s.xs x) (λs=>n+m-s.i) ⟨0,l,ca,cc,B1⟩ sM oR ⟨hv,⟨⟨[],by simp,UF,by simp⟩,λx hx=>.base hx⟩,If _,λe=>cf (b4 e),by simp⟩ ?_);intro s F2 cj hP;obtain⟨P,ab,d2,a4,aa⟩:=hP;have bi:=ch.mono cj;have c6:=ab.Eo;have a5:=ab.aB b6;refine ak ?_;refine AW.cond Z (λh=>?_) (λh=>?_);{have h:s.i<s.xs.length:=by{simpa using h};obtain⟨x,hx⟩:∃x,s.xs[s.i]?=some x:=⟨_,gE h⟩;have cn:=gM hx;have d3:=a5 x cn;refine ak ?_;refine AW.block (ak ?_);refine AW.draw (ps:=[(0,9),(4,9)]) Z Z (ak ?_);refine WT.HS hT P Z Z Z Z Z Z Z Z Z h (λb5 bn=>?_);refine WT.EO hT 0 P bn hx Z Z Z Z Z Z Z Z Z (λl hl=>?_);obtain rfl:l=_:=hl;refine WT.bj Tryz.func96 Z Z Z Z Z Z (iR _ g b3 bi zo x zo) (λv hv=>?_);obtain⟨y,bo,rfl,av,a6⟩:=hv;refine ak ?_;refine WT.az hT Z Z Z Z Z Z (λi7 d6=>?_);refine ak ?_;obtain⟨jb,cp,br,cr,_,_⟩:=P.at_ hx;have d7:(b5,aJ.cells false cp)∈s.B:=by{rw[cr];rw[bn] at br;cases br;exact D2 ..};refine⟨OG,?_⟩;refine ak ?_;have af:∀t,s.xs.length<=t.length->t.take s.i=s.xs.take s.i->t[s.i]?=some x->(∀z∈s.xs.take s.i,Ln g t z)->Ln g t x->∀z∈t.take (s.i+1),Ln g t z:=λt _ e1 e2 h1 h2 z hz=>by{rw[yo,e1,e2] at hz;rcases D1.1 hz with hz | hz;{exact h1 z hz};{obtain rfl:z=x:=by{simpa using hz};exact h2}};have ag:Ln g s.xs x->∀z∈s.xs.take (s.i+1),Ln g s.xs z:=λh=>af s.xs (mc _) rfl hx aa h;cases bo;{have a6:=a6 rfl;refine ak ?_;refine AW.cond Z (λ_=>?_) (λh=>(by cases h));refine AW.exit (ak ?_);exact⟨⟨s.i+1,s.xs,s.a,s.c,s.B⟩,by dsimp only;omega,sM,cF,P,ab,h,a4,ag (λn k r h1 _ _=>by rw[a6] at h1;cases h1)⟩};have av:=av rfl;refine ak ?_;refine AW.cond Z (λC=>?_) (λC=>?_);{have C:y.term=true:=by{simpa using C};refine AW.exit (ak ?_);exact⟨⟨s.i+1,s.xs,s.a,s.c,s.B⟩,by dsimp only;omega,sM,cF,P,ab,h,a4,ag (λn k r h1 _ _=>by rw[av] at h1;injection h1 with h1;rw[h1] at C;cases C)⟩};have C:y.term=false:=by{simpa using C};have a1:bw g x=some ⟨false,y.n⟩:=by{rw[av,<-C]};refine ak ?_;refine AW.range (S:=R8) (λu=>[(5,.slice u.a u.xs.length u.c)]) (λu=>[(i7,.cells false [.bool y.term,.int .i64 y.n])]::u.B::[(i2,.cells false [.int .i64 g.ae,.int .i64 g.ay,.int .i64 g.start,.slice a m c])]::own) (λk u G=>mn oN G u.a u.xs.length u.c u.B u.xs/\p7 g l u.xs/\s.xs.length<=u.xs.length/\u.xs.take s.i=s.xs.take s.i/\u.xs[s.i]?=some x/\(∀z∈s.xs.take s.i,Ln g u.xs z)/\∀J r,J<k->g.rules[J]?=some r->r.left=y.n->(⟨J,0⟩:Lr)∈u.xs) m ⟨0,s.xs,s.a,s.c,s.B⟩ Z Z Z Z Z Z Z Z Z zo rfl rfl (λ_=>rfl) (λ_=>rfl) sM oR ⟨P,ab,mc _,rfl,hx,aa,λJ r h=>absurd h (T6 _)⟩ ?_ ?_;{intro j u F3 bs hj hP;obtain⟨ac,U,ax,al,I,an,ao⟩:=hP;have cs:=bi.mono bs;have a7:=U.Eo;have ar:=gM I;refine ak ?_;refine WT.bh hT cs Z Z Z Z Z Z Z Z Z zo (λr bt b8 c7 eb ec ee eg eh a9=>?_);obtain⟨ra,rn,rc,rfl,em⟩:=a9;refine ak ?_;refine WT.az hT Z Z Z Z Z Z (λi10 c9=>?_);refine ak ?_;refine WT.az hT Z Z Z Z Z Z (λi11 dd=>?_);refine ak ?_;refine WT.split 50 Z (λh4=>?_) (λh4=>?_);{have h4:r.left=y.n:=by{simp at h4;omega};refine ak ?_;refine WT.fP 3 Tryz.func127 Z Z Z Z Z Z Z (λG hG ct=>xO G (ac.arr hG ct) zo ⟨j,0⟩) (λv hv=>?_);subst hv;refine ak ?_;refine AW.cond Z (λh5=>?_) (λh5=>?_);{have h5:(⟨j,0⟩:Lr)∉u.xs:=by{simpa using h5};refine ak ?_;have cv:=ac.RY (λe=>by rw[e] at ar;cases ar);refine WT.aR hT Z Z Z Z Z Z Z Z Z Z Z Z Z Z (λi12 df=>?_);refine WT.aZ (ys:=[(⟨j,0⟩:Lr)]) hT 4 cv Z (λ_=>rfl) Z Z Z Z Z Z Z Z Z Z Z (λh0 s0=>aN hT s0 0 Z Z Z Z) (aG.single (R:=oN) (x:=(⟨j,0⟩:Lr)) rfl) Z (by decide) fj (λa3 c3 B3 bv=>?_);have cw:u.xs.length+1=(u.xs++[(⟨j,0⟩:Lr)]).length:=by{simp};rw[cw] at bv ⊢;refine ak ?_;have bx:s.i<u.xs.length:=by{omega};refine⟨⟨0,u.xs++[⟨j,0⟩],a3,c3,B3⟩,sM,cF,bv.vec,U.add ar a1 bt h4 h5,by simp;omega,?_,?_,λz hz=>(an z hz).more,λJ r' h1 h2 C=>?_⟩;{show (u.xs++[_]).take s.i=_;rw[T4 zo,al]};{show (u.xs++[_])[s.i]?=_;rw[AT bx,I]};{rcases IN J j with h6 | h6;{exact Te _ (ao J r' h6 h2 C)};{obtain rfl:J=j:=by{omega};exact Tf _ me}}};{have h5:(⟨j,0⟩:Lr)∈u.xs:=by{simpa using h5};(refine ak ?_;refine⟨u,sM,cF,ac,U,ax,al,I,an,λJ r' h1 h2 C=>?_⟩;rcases IN J j with h6 | h6);{exact ao J r' h6 h2 C};{obtain rfl:J=j:=by{omega};exact h5}}};{have h4:r.left≠y.n:=by{simp at h4;omega};(refine ak ?_;refine AW.cond Z (λh=>(by cases h)) (λ_=>?_);refine ak ?_;refine⟨u,sM,cF,ac,U,ax,al,I,an,λJ r' h1 h2 C=>?_⟩;rcases IN J j with h6 | h6);{exact ao J r' h6 h2 C};{obtain rfl:J=j:=by{omega};rw[bt] at h2;cases h2;exact absurd C h4}}};{intro u F3 bs hP;obtain⟨ac,U,ax,al,I,an,ao⟩:=hP;have a7:=U.Eo;refine ak ?_;refine⟨⟨s.i+1,u.xs,u.a,u.c,u.B⟩,by dsimp only;omega,sM,cF,ac,U,by dsimp only;omega,λe=>(by have e:u.xs=[]:=e;rw[e] at I;cases I),af u.xs ax al I an (λn k r h1 h2 C=>?_)⟩;rw[a1] at h1;cases h1;have:=(gS h2).1;exact ao k r zo h2 C}};{have h:s.i=s.xs.length:=by{simp at h;omega};rw[h,Uo] at aa;have bc:=ab.full aa;refine AW.exit (ak ?_);obtain⟨hp,hs⟩:=zh Ar s.xs;have et:=hp.length_eq;refine WT.iA 0 Tryz.func128 Z Z Z Z Z Z Z (λ_=>rfl) (Er _ P a4 zo) (λF7 v B7 ey cx=>?_);refine ak ?_;refine WT.wH (oin:=[B7]) Tryz.func130 Z Z Z Z Z Z (zQ F7 cx zo hs) (sh _) (λF8 v dk e0 c0=>?_);obtain⟨rfl,a8,m8,c8,zs,rfl,hz,e5,c1,b1⟩:=c0;refine ak ?_;refine AW.ret ⟨_,[],⟨_,_,rfl,rfl,rfl⟩,bF,rfl,a8,m8,c8,zs,rfl,hz,by omega,c1,λz=>?_⟩;rw[b1,hp.mem_iff,bc]}
inductive KJ(g:aj):Nat->Prop
 | mk {r:bY}:r∈g.rules->(∀s∈r.right,s.term=false)->(∀s∈r.right,KJ g s.n)->KJ g r.left
def fI(g:aj)(l:List Sym):Prop:=∀s∈l,s.term=false/\KJ g s.n
inductive Gz(g:aj):Nat->Nat->Prop
 | term {r:bY} {pre post:List Sym} {t:Nat}:r∈g.rules->r.right=pre++⟨true,t⟩::post->fI g pre->Gz g r.left t
 | HM {r:bY} {pre post:List Sym} {m t:Nat}:r∈g.rules->r.right=pre++⟨false,m⟩::post->fI g pre->Gz g m t->Gz g r.left t
def eu(g:aj)(l:List Sym)(t:Nat):Prop:=∃pre s post,l=pre++s::post/\fI g pre/\(s=⟨true,t⟩\/(s.term=false/\Gz g s.n t))
theorem KJ.of{g:aj}{r:bY}(h:r∈g.rules)(i:fI g r.right):KJ g r.left:=.mk h (λs hs=>(i s hs).1) (λs hs=>(i s hs).2)
theorem Gz.of{g:aj}{r:bY}{t:Nat}(h:r∈g.rules)(l:eu g r.right t):Gz g r.left t:=by
 obtain⟨pre,s,post,e,j,i⟩:=l;rcases i with rfl | ⟨i,o⟩;{exact .term h e j};{obtain⟨b,n⟩:=s;obtain rfl:b=false:=i;exact .HM h e j o}
theorem fI.nil{g:aj}:fI g []:=λ_ h=>by cases h
theorem fI.cons{g:aj}{s:Sym}{l:List Sym}(h1:s.term=false)(i:KJ g s.n)(h:fI g l):fI g (s::l):=λx hx=>by
 rcases PJ.1 hx with rfl | hx;{exact⟨h1,i⟩};{exact h x hx}
theorem eu.head{g:aj}{s:Sym}{l:List Sym}{t:Nat}(h:s=⟨true,t⟩\/(s.term=false/\Gz g s.n t)):eu g (s::l) t:=⟨[],s,l,rfl,fI.nil,h⟩
theorem eu.cons{g:aj}{s:Sym}{l:List Sym}{t:Nat}(h1:s.term=false)(i:KJ g s.n)(h:eu g l t):eu g (s::l) t:=by
 obtain⟨pre,x,post,e,j,o⟩:=h;exact⟨s::pre,x,post,by rw[e];rfl,fI.cons h1 i j,o⟩
mutual
theorem aI.begin{g:aj}{w:List Nat}:∀{t:Tree} {s:Sym} {i j:Nat},aI g w s t i j->(i=j->s.term=false/\KJ g s.n)/\(i<j->∃c,w[i]?=some c/\(s=⟨true,c⟩\/(s.term=false/\Gz g s.n c)))
 | .mk _ _ _,_,i,_,.leaf h=>⟨λe=>by omega,λ_=>⟨_,h,.inl rfl⟩⟩
 | .mk _ _ ks,_,i,j,.node h l=>by{have hm:=gM h;obtain⟨o,p⟩:=aF.begin l;refine⟨λe=>⟨rfl,.of hm (o e)⟩,λe=>?_⟩;obtain⟨c,r,C⟩:=p e;exact⟨c,r,.inr ⟨rfl,.of hm C⟩⟩}
theorem aF.begin{g:aj}{w:List Nat}:∀{ts:List Tree} {l:List Sym} {i j:Nat},aF g w l ts i j->(i=j->fI g l)/\(i<j->∃c,w[i]?=some c/\eu g l c)
 | [],_,i,_,.nil=>⟨λ_=>fI.nil,λe=>by omega⟩
 | t::ts,_,i,j,.cons (m:=m) h1 J=>by{have P:=(aI.le h1).1;have R:=(aF.le J).1;obtain⟨U,a2⟩:=aI.begin h1;obtain⟨b1,b2⟩:=aF.begin J;refine⟨λe=>?_,λe=>?_⟩;{obtain⟨o,r⟩:=U zo;exact fI.cons o r (b1 zo)};{by_cases hm:i<m;{obtain⟨c,C,I⟩:=a2 hm;exact⟨c,C,eu.head I⟩};{obtain rfl:i=m:=by{omega};obtain⟨o,r⟩:=U rfl;obtain⟨c,C,I⟩:=b2 e;exact⟨c,C,eu.cons o r I⟩}}}
end
def bL(g:aj)(k:Nat):List Sym:=if k=g.rules.length then [⟨false,g.start⟩] else ((g.rules[k]?).map (·.right)).getD []
theorem eH{g:aj}{k:Nat}{r:bY}(h:g.rules[k]?=some r):bL g k=r.right:=by
 unfold bL;rw[nw (by have:=(gS h).1;omega),h];rfl
theorem dU{g:aj}:bL g g.rules.length=[⟨false,g.start⟩]:=n0 rfl
theorem cJ{g:aj}{x:Lr}:bw g x=(bL g x.aB)[x.dot]?:=by
 unfold bw bL;split;{cases i:x.dot with| zero=>{rfl}| succ d=>{rfl}};{cases h:g.rules[x.aB]? with| none=>{rfl}| some r=>{rfl}}
def dn(g:aj)(x:Lr):List Sym:=(bL g x.aB).drop (x.dot+1)
structure oO(g:aj)(it:Nat->Lr->Prop)(la:Nat->Lr->Nat->Prop)(go:Nat->Sym->Option Nat):Prop where
 start:it 0 ⟨g.rules.length,0⟩
 DH:la 0 ⟨g.rules.length,0⟩ g.ae
 Bi:∀{s:Nat} {x:Lr} {k:Nat} {r:bY},it s x->bw g x=some ⟨false,r.left⟩->g.rules[k]?=some r->it s ⟨k,0⟩
 fv:∀{s:Nat} {x:Lr} {k:Nat} {r:bY} {t u:Nat},it s x->la s x u->bw g x=some ⟨false,r.left⟩->g.rules[k]?=some r->(eu g (dn g x) t\/(fI g (dn g x)/\la s x t))->la s ⟨k,0⟩ t
 step:∀{s:Nat} {x:Lr} {y:Sym},it s x->bw g x=some y->∃s',go s y=some s'/\it s' ⟨x.aB,x.dot+1⟩/\∀t,la s x t->la s' ⟨x.aB,x.dot+1⟩ t
 back:∀{s s':Nat} {y:Sym} {k d:Nat},go s y=some s'->it s' ⟨k,d+1⟩->it s ⟨k,d⟩/\bw g ⟨k,d⟩=some y
 fill:∀{s:Nat} {k:Nat} {r:bY},it s ⟨k,0⟩->g.rules[k]?=some r->∃s',go s ⟨false,r.left⟩=some s'
 first:∀{s:Nat},it s ⟨g.rules.length,0⟩->s=0
 zero:∀{s:Nat} {y:Sym},go s y≠some 0
 QT:∀{x:Lr},it 0 x->x.dot=0
inductive Act where
 | no
 | shift (s:Nat)
 | red (k:Nat)
 | acc
deriving DecidableEq
inductive Ap(g:aj)(it:Nat->Lr->Prop)(la:Nat->Lr->Nat->Prop)(go:Nat->Sym->Option Nat)(s t:Nat):Act->Prop
 | shift {s':Nat}:t<g.ae->go s ⟨true,t⟩=some s'->Ap g it la go s t (.shift s')
 | red {k:Nat} {r:bY}:g.rules[k]?=some r->it s ⟨k,r.right.length⟩->la s ⟨k,r.right.length⟩ t->Ap g it la go s t (.red k)
 | acc:it s ⟨g.rules.length,1⟩->la s ⟨g.rules.length,1⟩ t->Ap g it la go s t .acc
structure xK(g:aj)(it:Nat->Lr->Prop)(la:Nat->Lr->Nat->Prop)(go:Nat->Sym->Option Nat)(act:Nat->Nat->Act):Prop where
 all:∀{s t:Nat} {a:Act},Ap g it la go s t a->act s t=a
 one:∀{s t:Nat},act s t≠.no->Ap g it la go s t (act s t)
abbrev lL:=List Nat×List Tree
def dF(σ:List Nat):Nat:=σ.getLast?.getD 0
def mZ(g:aj)(go:Nat->Sym->Option Nat)(act:Nat->Nat->Act)(t:Nat)(c:lL):lL:=match act (dF c.1) t with
 | .red k=>match g.rules[k]? with
  | some r=>(c.1.take (c.1.length-r.right.length)++[(go (dF (c.1.take (c.1.length-r.right.length))) ⟨false,r.left⟩).getD 0],
    c.2.take (c.2.length-r.right.length)++[.mk k 0 (c.2.drop (c.2.length-r.right.length))])
  | none=>c
 | _=>c
def dh(g:aj)(go:Nat->Sym->Option Nat)(act:Nat->Nat->Act)(t:Nat):Nat->lL->lL
 | 0,c=>c
 | n+1,c=>dh g go act t n (mZ g go act t c)
def lookW(g:aj)(w:List Nat)(i:Nat):Nat:=(w[i]?).getD g.ae
inductive fX(g:aj)(go:Nat->Sym->Option Nat)(w:List Nat):List Nat->List Tree->Nat->Prop
 | nil:fX g go w [0] [] 0
 | snoc {σ:List Nat} {τ:List Tree} {i j s s':Nat} {y:Sym} {T:Tree}:fX g go w (σ++[s]) τ i->go s y=some s'->aI g w y T i j->fX g go w (σ++[s]++[s']) (τ++[T]) j
theorem gJ(σ:List Nat)(s:Nat):dF (σ++[s])=s:=by unfold dF;rw[List.getLast?_append];rfl
theorem fX.len{g:aj}{go:Nat->Sym->Option Nat}{w:List Nat}{σ:List Nat}{τ:List Tree}{i:Nat}(h:fX g go w σ τ i):σ.length=τ.length+1/\i<=w.length:=by
 induction h with| nil=>{exact⟨rfl,If _⟩}| snoc h1 o l j=>{exact⟨by simp only[sj,Tw] at j ⊢;omega,(aI.le l).2 j.2⟩}
theorem fX.has{g:aj}{go:Nat->Sym->Option Nat}{w:List Nat}{σ:List Nat}{τ:List Tree}{i:Nat}(h:fX g go w σ τ i):∃σ0 s,σ=σ0++[s]:=by
 cases h with| nil=>{exact⟨[],0,rfl⟩}| snoc _ _ _=>{exact⟨_,_,rfl⟩}
section
variable {g:aj}{it:Nat->Lr->Prop}{la:Nat->Lr->Nat->Prop}{go:Nat->Sym->Option Nat}{act:Nat->Nat->Act}{w:List Nat}
theorem fX.under(ok:oO g it la go):∀(d:Nat) {σ:List Nat} {τ:List Tree} {i k:Nat},fX g go w σ τ i->it (dF σ) ⟨k,d⟩->d<=(bL g k).length->
  ∃σ0 t r o i0,σ.take (σ.length-d)=σ0++[t]/\τ=r++o/\o.length=d/\fX g go w (σ0++[t]) r i0/\it t ⟨k,0⟩/\aF g w ((bL g k).take d) o i0 i
 | 0,σ,τ,i,k,h,l,I=>by{obtain⟨σ0,s,rfl⟩:=h.has;rw[gJ] at l;exact⟨σ0,s,τ,[],i,by rw[Nat.sub_zero,Uo],(Tx _).symm,rfl,h,l,by rw[U4];exact .nil⟩}
 | d+1,_,_,_,k,.nil,l,I=>by{exfalso;have J:=ok.QT (show it 0 ⟨k,d+1⟩ from l);exact absurd J (Nat.succ_ne_zero d)}
 | d+1,_,_,_,k,.snoc (σ:=σ) (τ:=τ) (i:=i) (j:=j) (s:=s) (s':=s') (y:=y) (T:=T) h1 P R,l,I=>by{rw[gJ] at l;obtain⟨U,C⟩:=ok.back P l;obtain⟨σ0,t,r,o,i0,e1,e2,e3,e4,e5,e6⟩:=fX.under ok d h1 (by rw[gJ];exact U) zo;rw[cJ] at C;have C:(bL g k)[d]?=some y:=C;refine⟨σ0,t,r,o++[T],i0,?_,by rw[e2,By],by rw[sj,e3];rfl,e4,e5,?_⟩;{rw[<-e1];have hl:=h1.len.1;rw[sj,Tw] at hl;simp only[sj,Tw];rw[T4 (by simp only[sj,Tw];omega)];congr 1;omega};{rw[yo,C];exact aF.snoc R e6}}
theorem BT{σ σ0:List Nat}{i:Nat}{n:Nat}(h:σ.take n=σ0++[i]):dF (σ.take n)=i:=by rw[h,gJ]
theorem fX.red(ok:oO g it la go)(on:xK g it la go act){t:Nat}{c:lL}{i:Nat}(h:fX g go w c.1 c.2 i):fX g go w (mZ g go act t c).1 (mZ g go act t c).2 i:=by
 unfold mZ;split;{rename_i k hk;have h1:=on.one (s:=dF c.1) (t:=t) (by rw[hk];exact Act.noConfusion);rw[hk] at h1;cases h1 with| red o p R=>{rename_i r;rw[o];dsimp only;have j:=eH o;obtain⟨σ0,s0,C,U,i0,I,J,e3,e4,e5,P⟩:=fX.under ok r.right.length h p (by rw[j];exact mc _);obtain⟨s',l⟩:=ok.fill e5 o;rw[BT I,l,I];have e7:c.2.length-r.right.length=C.length:=by{rw[J,sj,e3];omega};rw[e7,J,VO,List.drop_left];rw[j,Uo] at P;exact .snoc e4 l (.node o P)}};{exact h}
theorem fX.dh(ok:oO g it la go)(on:xK g it la go act){t:Nat}:∀(n:Nat) {c:lL} {i:Nat},fX g go w c.1 c.2 i->fX g go w (dh g go act t n c).1 (dh g go act t n c).2 i
 | 0,_,_,h=>h
 | n+1,_,_,h=>fX.dh ok on n (h.red ok on)
theorem fX.shift(ok:oO g it la go)(on:xK g it la go act){t s':Nat}{σ:List Nat}{τ:List Tree}{i:Nat}(h:fX g go w σ τ i)(j:act (dF σ) t=.shift s')(o:w[i]?=some t):fX g go w (σ++[s']) (τ++[.mk (-1) t []]) (i+1):=by
 have h1:=on.one (s:=dF σ) (t:=t) (by rw[j];exact Act.noConfusion);rw[j] at h1;cases h1 with| shift p l=>{obtain⟨σ0,s,rfl⟩:=h.has;rw[gJ] at l;exact .snoc h l (.leaf o)}
theorem fX.PB(ok:oO g it la go){σ0:List Nat}{τ:List Tree}{i:Nat}(h:fX g go w (σ0++[0]) τ i):σ0=[]/\τ=[]/\i=0:=by
 generalize j:σ0++[0]=σ at h;cases h with| nil=>{exact⟨by simpa using j,rfl,rfl⟩}| snoc h1 l o=>{have:=(List.append_inj' j rfl).2;have e:=TR this;subst e;exact absurd l ok.zero}
theorem fX.acc(ok:oO g it la go)(on:xK g it la go act){t:Nat}{σ:List Nat}{τ:List Tree}{i:Nat}(h:fX g go w σ τ i)(p:act (dF σ) t=.acc):∃T,τ=[T]/\aI g w ⟨false,g.start⟩ T 0 i:=by
 have h1:=on.one (s:=dF σ) (t:=t) (by rw[p];exact Act.noConfusion);rw[p] at h1;cases h1 with| acc l r=>{obtain⟨σ0,U,C,o,i0,e1,I,e3,J,P,j⟩:=fX.under ok 1 h l (by rw[dU];exact mc _);obtain rfl:=ok.first P;obtain⟨rfl,rfl,rfl⟩:=J.PB ok;rw[dU] at j;have j:aF g w [⟨false,g.start⟩] o 0 i:=j;cases j with| cons h1 R=>{cases R;exact⟨_,I,h1⟩}}
inductive HV(g:aj)(go:Nat->Sym->Option Nat)(act:Nat->Nat->Act)(w:List Nat)(a:lL×Nat):Nat->lL×Nat->Prop
 | refl:HV g go act w a 0 a
 | red {n:Nat} {c:lL} {i k:Nat}:HV g go act w a n (c,i)->act (dF c.1) (lookW g w i)=.red k->HV g go act w a (n+1) (mZ g go act (lookW g w i) c,i)
 | shift {n:Nat} {c:lL} {i t s':Nat}:HV g go act w a n (c,i)->w[i]?=some t->act (dF c.1) t=.shift s'->HV g go act w a n ((c.1++[s'],c.2++[.mk (-1) t []]),i+1)
theorem HV.trans{a b c:lL×Nat}{n m:Nat}(h1:HV g go act w a n b)(l:HV g go act w b m c):HV g go act w a (n+m) c:=by
 induction l with| refl=>{exact h1}| red o i j=>{exact .red j i}| shift o i p j=>{exact .shift j i p}
def yd(g:aj)(la:Nat->Lr->Nat->Prop)(s:Nat)(x:Lr)(t:Nat):Prop:=eu g (dn g x) t\/(fI g (dn g x)/\la s x t)
theorem EY{i t:Nat}(h:w[i]?=some t):lookW g w i=t:=by unfold lookW;rw[h];rfl
mutual
theorem aI.run(ok:oO g it la go)(on:xK g it la go act)(hw:∀t∈w,t<g.ae):∀{T:Tree} {X:Sym} {i j:Nat},aI g w X T i j->∀{σ:List Nat} {τ:List Tree} {x:Lr},it (dF σ) x->(∃u,la (dF σ) x u)->bw g x=some X->yd g la (dF σ) x (lookW g w j)->
  ∃s' n,go (dF σ) X=some s'/\n<=T.pre.length/\HV g go act w ((σ,τ),i) n ((σ++[s'],τ++[T]),j)
 | .mk _ t _,_,i,_,.leaf h,σ,τ,x,C,_,I,_=>by{obtain⟨s',h1,J,P⟩:=ok.step C I;have l:=on.all (.shift (hw t (gM h)) h1);exact⟨s',0,h1,If _,.shift (c:=(σ,τ)) .refl h l⟩}
 | .mk _ _ ks,_,i,j,.node (k:=k) (r:=r) h J,σ,τ,x,C,⟨u,hu⟩,I,R=>by{obtain⟨s',P,_,_⟩:=ok.step C I;have U:=ok.Bi C I h;have aa:=ok.fv (t:=lookW g w j) C hu I h R;obtain⟨p,n,e1,e2,e3,e4,e5⟩:=aF.run ok on hw J (σ:=σ) (τ:=τ) (k:=k) (d:=0) (r:=r) h U aa (If _) rfl;have l:=on.all (.red h e2 e3);refine⟨s',n+1,P,?_,?_⟩;{show n+1<=((k:Int)::bK ks).length;rw[IT];omega};{have o:=HV.red e5 l;have ab:p.length=r.right.length:=by{rw[e1,aF.len J]};have e:mZ g go act (lookW g w j) (σ++p,τ++ks)=(σ++[s'],τ++[.mk k 0 ks]):=by{unfold mZ;dsimp only;rw[l];dsimp only;rw[h];dsimp only;have e7:(σ++p).length-r.right.length=σ.length:=by{rw[sj,ab];omega};have e8:(τ++ks).length-r.right.length=τ.length:=by{rw[sj,aF.len J];omega};rw[e7,e8,VO,VO,List.drop_left,P];rfl};rw[e] at o;exact o}}
theorem aF.run(ok:oO g it la go)(on:xK g it la go act)(hw:∀t∈w,t<g.ae):∀{ts:List Tree} {l:List Sym} {i j:Nat},aF g w l ts i j->∀{σ:List Nat} {τ:List Tree} {k d:Nat} {r:bY},g.rules[k]?=some r->it (dF σ) ⟨k,d⟩->la (dF σ) ⟨k,d⟩ (lookW g w j)->d<=r.right.length->r.right.drop d=l->
  ∃o n,o.length=ts.length/\it (dF (σ++o)) ⟨k,r.right.length⟩/\la (dF (σ++o)) ⟨k,r.right.length⟩ (lookW g w j)/\n<=(bK ts).length/\HV g go act w ((σ,τ),i) n ((σ++o,τ++ts),j)
 | [],_,i,_,.nil,σ,τ,k,d,r,hk,C,p,ab,hd=>by{obtain rfl:d=r.right.length:=by{have:=List.drop_eq_nil_iff.1 hd;omega};refine⟨[],0,rfl,?_,?_,If _,?_⟩;{rw[Tx];exact C};{rw[Tx];exact p};{rw[Tx,Tx];exact .refl}}
 | T::ts,s::l,i,j,.cons (m:=m) h1 h2,σ,τ,k,d,r,hk,C,p,ab,hd=>by{have J:r.right[d]?=some s:=by{rw[<-List.head?_drop,hd];rfl};have P:r.right.drop (d+1)=l:=by{rw[<-List.tail_drop,hd];rfl};have R:=(gS J).1;have U:bw g ⟨k,d⟩=some s:=by{rw[cJ];show (bL g k)[d]?=_;rw[eH hk];exact J};have I:dn g ⟨k,d⟩=l:=by{unfold dn;show (bL g k).drop (d+1)=_;rw[eH hk];exact P};obtain⟨b1,b2⟩:=aF.begin h2;have hle:=(aF.le h2).1;have ad:yd g la (dF σ) ⟨k,d⟩ (lookW g w m):=by{unfold yd;rw[I];by_cases hm:m<j;{obtain⟨c,hc,h5⟩:=b2 hm;rw[EY hc];exact .inl h5};{obtain rfl:m=j:=by{omega};exact .inr ⟨b1 rfl,p⟩}};obtain⟨s',n1,e1,e2,e3⟩:=aI.run ok on hw h1 C ⟨_,p⟩ U ad;obtain⟨s2,f1,f2,f3⟩:=ok.step C U;rw[e1] at f1;obtain rfl:=aE f1;obtain⟨o,n2,g1,g2,g3,g4,g5⟩:=aF.run ok on hw h2 (σ:=σ++[s']) (τ:=τ++[T]) (k:=k) (d:=d+1) (r:=r) hk (by rw[gJ];exact f2) (by rw[gJ];exact f3 _ p) R P;have e:∀x:List Nat,σ++[s']++x=σ++(s'::x):=λx=>by{simp};have e':∀x:List Tree,τ++[T]++x=τ++(T::x):=λx=>by{simp};rw[e] at g2 g3 g5;rw[e'] at g5;refine⟨s'::o,n1+n2,by rw[IT,g1];rfl,g2,g3,?_,e3.trans g5⟩;show _<=(T.pre++bK ts).length;rw[sj];omega}
end
def eA(g:aj)(go:Nat->Sym->Option Nat)(act:Nat->Nat->Act)(M:Nat):List Nat->Option lL
 | []=>some ([0],[])
 | t::v=>match eA g go act M v with
  | none=>none
  | some c=>match act (dF (dh g go act t M c).1) t with
   | .shift s'=>some ((dh g go act t M c).1++[s'],(dh g go act t M c).2++[.mk (-1) t []])
   | _=>none
theorem yT(t:Nat):∀(n m:Nat) (c:lL),dh g go act t (n+m) c=dh g go act t m (dh g go act t n c)
 | 0,m,c=>by rw[AI];rfl
 | n+1,m,c=>by rw[Nat.succ_add];exact yT t n m _
theorem KK{t:Nat}{c:lL}(h:∀k,act (dF c.1) t≠.red k):mZ g go act t c=c:=by
 unfold mZ;split;{rename_i k hk;exact absurd hk (h k)};{rfl}
theorem BH{t:Nat}{c:lL}(h:∀k,act (dF c.1) t≠.red k):∀n,dh g go act t n c=c
 | 0=>rfl
 | n+1=>by show dh g go act t n (mZ g go act t c)=c;rw[KK h];exact BH h n
theorem AN{t m M:Nat}{c d:lL}(h:dh g go act t m c=d)(hm:m<=M)(i:∀k,act (dF d.1) t≠.red k):dh g go act t M c=d:=by
 obtain⟨n,rfl⟩:=Nat.exists_eq_add_of_le hm;rw[yT,h,BH i]
theorem Bz(t:Nat):∀(n:Nat) (c:lL),dh g go act t (n+1) c=mZ g go act t (dh g go act t n c):=λn c=>by rw[yT];rfl
theorem jR{w:List Nat}{i t:Nat}(h:w[i]?=some t):(w.take (i+1)).reverse=t::(w.take i).reverse:=by
 rw[yo,h,U2];rfl
theorem HV.sB{M n:Nat}{x:lL×Nat}(h:HV g go act w (([0],[]),0) n x)(I:n<=M):∃i m,eA g go act M (w.take x.2).reverse=some i/\m<=n/\dh g go act (lookW g w x.2) m i=x.1:=by
 induction h with| refl=>{exact⟨_,0,rfl,mc _,rfl⟩}| red h1 o r=>{obtain⟨i,m,l,t,j⟩:=r zo;exact⟨i,m+1,l,by omega,by rw[Bz,j]⟩}| shift h1 o C r=>{obtain⟨i,m,l,t,j⟩:=r I;refine⟨_,0,?_,If _,rfl⟩;dsimp only at l t j ⊢;rw[jR o];unfold eA;rw[l];dsimp only;rw[EY o] at j;rw[AN j zo (λk e=>by rw[C] at e;cases e),C]}
theorem rY(ok:oO g it la go)(on:xK g it la go act){M:Nat}:∀(i:Nat) {c:lL},i<=w.length->eA g go act M (w.take i).reverse=some c->fX g go w c.1 c.2 i
 | 0,c,_,h=>by{rw[U4] at h;cases h;exact .nil}
 | i+1,c,hi,h=>by{have l:=gE (show i<w.length by omega);generalize w[i]=t at l;rw[jR l] at h;unfold eA at h;cases o:eA g go act M (w.take i).reverse with| none=>{rw[o] at h;cases h}| some r=>{rw[o] at h;dsimp only at h;have h1:=rY ok on i zo o;have C:=h1.dh ok on (t:=t) M;cases j:act (dF (dh g go act t M r).1) t with| shift s'=>{rw[j] at h;cases h;exact C.shift ok on j l}| no=>{rw[j] at h;cases h}| red k=>{rw[j] at h;cases h}| acc=>{rw[j] at h;cases h}}}
theorem JF(ok:oO g it la go)(on:xK g it la go act)(hw:∀t∈w,t<g.ae){T:Tree}(h:aI g w ⟨false,g.start⟩ T 0 w.length):∃s' n,n<=T.pre.length/\HV g go act w (([0],[]),0) n (([0,s'],[T]),w.length)/\act s' g.ae=.acc:=by
 have j:bw g ⟨g.rules.length,0⟩=some ⟨false,g.start⟩:=by{rw[cJ];show (bL g g.rules.length)[0]?=_;rw[dU];rfl};have o:dn g ⟨g.rules.length,0⟩=[]:=by{unfold dn;show (bL g g.rules.length).drop 1=_;rw[dU];rfl};have i:lookW g w w.length=g.ae:=by{unfold lookW;rw[zE (mc _)];rfl};obtain⟨s',n,l,p,r⟩:=aI.run ok on hw h (σ:=[0]) (τ:=[]) (x:=⟨g.rules.length,0⟩) ok.start ⟨_,ok.DH⟩ j (by{unfold yd;rw[o,i];exact .inr ⟨fI.nil,ok.DH⟩});obtain⟨s2,f1,f2,f3⟩:=ok.step ok.start j;rw[show dF [0]=0 from rfl,f1] at l;obtain rfl:=aE l;exact⟨_,n,p,r,on.all (.acc f2 (f3 _ ok.DH))⟩
theorem Jy:lookW g w w.length=g.ae:=by unfold lookW;rw[zE (mc _)];rfl
theorem pU(ok:oO g it la go)(on:xK g it la go act)(hw:∀t∈w,t<g.ae){T:Tree}(h:aI g w ⟨false,g.start⟩ T 0 w.length){M:Nat}(o:T.pre.length<=M) :
  ∃c,eA g go act M w.reverse=some c/\(dh g go act g.ae M c).2=[T]/\act (dF (dh g go act g.ae M c).1) g.ae=.acc:=by
 obtain⟨s',n,r,j,i⟩:=JF ok on hw h;obtain⟨l,m,f1,f2,f3⟩:=j.sB (M:=M) zo;dsimp only at f1 f3;rw[Uo] at f1;rw[Jy] at f3;have hs:dF [0,s']=s':=rfl;have:=AN (M:=M) f3 zo (λk e=>by rw[show dF ([0,s'],[T]).1=s' from rfl,i] at e;cases e);exact⟨l,f1,by rw[this],by rw[this];exact i⟩
theorem OV(ok:oO g it la go)(on:xK g it la go act)(hw:∀t∈w,t<g.ae){T i:Tree}(h:aI g w ⟨false,g.start⟩ T 0 w.length)(j:aI g w ⟨false,g.start⟩ i 0 w.length):T=i:=by
 obtain⟨c,l,o,_⟩:=pU ok on hw h (M:=T.pre.length+i.pre.length) zo;obtain⟨r,f1,f2,_⟩:=pU ok on hw j (M:=T.pre.length+i.pre.length) zo;rw[l] at f1;obtain rfl:=aE f1;rw[o] at f2;exact TR f2
end
theorem gu.Hs{l:List Lr}(h:gu l):l.Nodup:=
 List.Pairwise.imp (λ{a b} g e=>by subst e;rw[lh] at g;omega) h
theorem Gx{i j:List Lr}(h1:gu i)(g:gu j)(h:∀z,z∈i↔z∈j):i=j:=
 List.Perm.eq_of_pairwise (le:=λx y=>oV x y=true) (λa b _ _ h1 g=>by rw[lh] at h1 g;omega) h1 g ((List.perm_ext_iff_of_nodup h1.Hs g.Hs).2 h)
def wU(g:aj):List Lr:=((List.range (g.rules.length+1)).map λk=>(List.range ((bL g k).length+1)).map λd=>(⟨k,d⟩:Lr)).flatten
theorem Cd{g:aj}{z:Lr}:z∈wU g↔z.aB<=g.rules.length/\z.dot<=(bL g z.aB).length:=by
 unfold wU;rw[VC];constructor;{rintro⟨l,i,j⟩;obtain⟨k,hk,rfl⟩:=x6.1 i;obtain⟨d,o,rfl⟩:=x6.1 j;rw[Tz] at hk o;exact⟨by dsimp only;omega,by dsimp only;omega⟩};{rintro⟨h1,r⟩;exact⟨_,x6.2 ⟨z.aB,Tz.2 zo,rfl⟩,x6.2 ⟨z.dot,Tz.2 zo,rfl⟩⟩}
theorem pV{α:Type}{R:α->α->Prop}{f:Nat->α}:∀{n:Nat},(∀i j,i<j->j<n->R (f i) (f j))->((List.range n).map f).Pairwise R:=by
 intro n h;rw[U0];refine List.Pairwise.imp_of_mem ?_ (V1);intro a b o l g;exact h a b g (Tz.1 l)
theorem DQ(g:aj):gu (wU g):=by
 unfold wU gu;rw[List.pairwise_flatten];refine⟨λl o=>?_,?_⟩;{obtain⟨k,_,rfl⟩:=x6.1 o;exact pV λi j h _=>lh.2 (.inr ⟨rfl,h⟩)};{refine pV λi j h _ x p y r=>?_;obtain⟨_,_,rfl⟩:=x6.1 p;obtain⟨_,_,rfl⟩:=x6.1 r;exact lh.2 (.inl h)}
noncomputable def fv(g:aj)(l:List Lr):List Lr:=(wU g).filter λz=>@decide (iJ g l z) (Classical.propDecidable _)
theorem jk(g:aj)(l:List Lr):gu (fv g l):=List.Pairwise.filter _ (DQ g)
def gj(g:aj)(x:Lr):Prop:=x.aB<=g.rules.length/\x.dot<=(bL g x.aB).length
theorem iJ.SR{g:aj}{l:List Lr}(i:∀x∈l,gj g x){x:Lr}(h:iJ g l x):gj g x:=by
 induction h with| base h=>{exact i _ h}| more _ _ h _ _=>{exact⟨TC (gS h).1,If _⟩}
theorem cV{g:aj}{l:List Lr}(i:∀x∈l,gj g x){z:Lr}:z∈fv g l↔iJ g l z:=by
 unfold fv;rw[Wg,Cd];constructor;{rintro⟨_,h⟩;exact @of_decide_eq_true _ (Classical.propDecidable _) h};{intro h;exact⟨h.SR i,@decide_eq_true _ (Classical.propDecidable _) h⟩}
theorem tC{g:aj}{l zs:List Lr}(i:∀x∈l,gj g x)(h1:gu zs)(j:∀z,z∈zs↔iJ g l z):zs=fv g l:=
 Gx h1 (jk g l) λz=>by rw[j,cV i]
section
variable {α:Type}[DecidableEq α]
def dK(g:List α):Option α->List α×Int
 | none=>(g,-1)
 | some s=>if s∈g then (g,(g.idxOf s:Nat)) else (g++[s],(g.length:Nat))
def cI:List α->List (Option α)->List α×List Int
 | cw,[]=>(cw,[])
 | cw,o::os=>((cI (dK cw o).1 os).1,(dK cw o).2::(cI (dK cw o).1 os).2)
def o9(most:Nat)(step:α->List (Option α)):Nat->Nat->List α->List (List Int)->Option (List α×List (List Int))
 | 0,_,_,_=>none
 | f+1,i,g,rows=>match g[i]? with
  | none=>some (g,rows)
  | some st=>if (cI g (step st)).1.length<=most then o9 most step f (i+1) (cI g (step st)).1 (rows++[(cI g (step st)).2]) else none
structure EJ(cw:List α)(os:List (Option α))(row:List Int):Prop where
 len:row.length=os.length
 no:∀k:Nat,os[k]?=some none->row[k]?=some (-1)
 yes:∀(k:Nat) (s:α),os[k]?=some (some s)->∃j:Nat,row[k]?=some (j:Int)/\cw[j]?=some s
theorem Kq(g:List α)(o:Option α):(∃ex,(dK g o).1=g++ex)/\(g.Nodup->(dK g o).1.Nodup)/\(∀s∈(dK g o).1,s∈g\/o=some s)/\
  (o=none->(dK g o).2=-1)/\(∀s,o=some s->∃j:Nat,(dK g o).2=(j:Int)/\(dK g o).1[j]?=some s):=by
 cases o with| none=>{exact⟨⟨[],(Tx _).symm⟩,λh=>h,λs h=>.inl h,λ_=>rfl,λs h=>by cases h⟩}| some s=>{unfold dK;by_cases h:s∈g;{simp only[n0 h];refine⟨⟨[],(Tx _).symm⟩,λh=>h,λs h=>.inl h,λh=>(by cases h),λs' e=>?_⟩;cases e;exact⟨_,rfl,by rw[gE (U9 h),List.getElem_idxOf]⟩};{simp only[nw h];refine⟨⟨[s],rfl⟩,λl=>?_,λx hx=>?_,λh=>(by cases h),λs' e=>?_⟩;{rw[Uf];exact⟨l,by simp,λa p b i e=>h (by rw[ti] at i;subst i;subst e;exact p)⟩};{rcases D1.1 hx with hx | hx;{exact .inl hx};{exact .inr (by rw[ti.1 hx])}};{cases e;exact⟨_,rfl,by rw[OF (mc _),Ua];rfl⟩}}}
theorem qq:∀(os:List (Option α)) (g:List α),(∃ex,(cI g os).1=g++ex)/\(g.Nodup->(cI g os).1.Nodup)/\(∀s∈(cI g os).1,s∈g\/some s∈os)/\EJ (cI g os).1 os (cI g os).2
 | [],g=>⟨⟨[],(Tx _).symm⟩,λh=>h,λs h=>.inl h,⟨rfl,λk h=>by simp at h,λk s h=>by simp at h⟩⟩
 | o::os,g=>by{obtain⟨⟨l,h1⟩,p,r,t,C⟩:=Kq g o;obtain⟨⟨I,g1⟩,g2,g3,g4⟩:=qq os (dK g o).1;have e:(cI g (o::os))=((cI (dK g o).1 os).1,(dK g o).2::(cI (dK g o).1 os).2):=rfl;rw[e];refine⟨⟨l++I,?_⟩,λJ=>g2 (p J),λs hs=>?_,⟨?_,λk hk=>?_,λk s hk=>?_⟩⟩;{rw[g1,h1,By]};{rcases g3 s hs with hs | hs;{rcases r s hs with hs | hs;{exact .inl hs};{exact .inr (by rw[hs];exact D2 ..)}};{exact .inr (mb _ hs)}};{simp only[IT,g4.len]};{cases k with| zero=>{simp only[UL] at hk ⊢;rw[t (aE hk)]}| succ k=>{simp only[Ug] at hk ⊢;exact g4.no k hk}};{cases k with| zero=>{simp only[UL] at hk ⊢;obtain⟨j,P,i⟩:=C s (aE hk);refine⟨j,by rw[P],?_⟩;show (cI (dK g o).1 os).1[j]?=some s;rw[g1,AT (gS i).1];exact i}| succ k=>{simp only[Ug] at hk ⊢;exact g4.yes k s hk}}}
omit [DecidableEq α] in
theorem EJ.more{g ex:List α}{os:List (Option α)}{row:List Int}(h:EJ g os row):EJ (g++ex) os row:=
 ⟨h.len,h.no,λk s hk=>let ⟨j,h1,i⟩:=h.yes k s hk;⟨j,h1,by rw[AT (gS i).1];exact i⟩⟩
structure sJ(most:Nat)(step:α->List (Option α))(first:α)(i:Nat)(cw:List α)(rows:List (List Int)):Prop where
 first:cw[0]?=some first
 nodup:cw.Nodup
 Eo:cw.length<=most
 len:rows.length=i
 le:i<=cw.length
 row:∀(k:Nat) (st:α) (row:List Int),cw[k]?=some st->rows[k]?=some row->EJ cw (step st) row
 from_:∀(j:Nat) (st:α),0<j->cw[j]?=some st->∃(k:Nat) (sk:α),k<j/\k<i/\cw[k]?=some sk/\some st∈step sk
theorem sJ.next{most:Nat}{step:α->List (Option α)}{first:α}{i:Nat}{l:List α}{rows:List (List Int)}(h:sJ most step first i l rows){st:α}(r:l[i]?=some st)(hm:(cI l (step st)).1.length<=most) :
  sJ most step first (i+1) (cI l (step st)).1 (rows++[(cI l (step st)).2]):=by
 obtain⟨⟨ex,h1⟩,R,U,h4⟩:=qq (step st) l;have hi:=(gS r).1;have g:∀k,k<l.length->(cI l (step st)).1[k]?=l[k]?:=λk hk=>by{rw[h1,AT hk]};refine⟨by rw[g 0 zo];exact h.first,R h.nodup,hm,by rw[sj,h.len];rfl,by rw[h1,sj];omega,λk I row hk C=>?_,λj J hj o=>?_⟩;{by_cases e:k<i;{rw[g k zo] at hk;rw[AT (by rw[h.len];exact e)] at C;have:=h.row k I row hk C;rw[h1];exact this.more};{have t:k=i:=by{have:=(gS C).1;rw[sj,h.len,Tw] at this;omega};subst t;rw[g k hi,r] at hk;obtain rfl:=aE hk;rw[OF (by rw[h.len];exact mc _),h.len,Ua] at C;obtain rfl:=aE C;exact h4}};{by_cases e:j<l.length;{rw[g j e] at o;obtain⟨k,I,g1,g2,g3,g4⟩:=h.from_ j J hj o;exact⟨k,I,g1,by omega,by rw[g k zo];exact g3,g4⟩};{refine⟨i,st,by omega,by omega,by rw[g i hi];exact r,?_⟩;rcases U J (gM o) with h5 | h5;{exfalso;obtain⟨k,hk,t⟩:=VI h5;have P:=R h.nodup;have e1:(cI l (step st)).1[k]?=some J:=by{rw[g k hk,gE hk,t]};have e2:=(gS o).1;have:=(List.getElem?_inj (by rw[h1,sj];omega) P).1 (e1.trans o.symm);omega};{exact h5}}}
omit [DecidableEq α] in
theorem sJ.begin{most:Nat}(step:α->List (Option α))(first:α)(hm:1<=most):sJ most step first 0 [first] []:=
 ⟨rfl,by simp,hm,rfl,If _,λk st row _ h=>by simp at h,λj st g h=>by{have:=(gS h).1;rw[Tw] at this;omega}⟩
theorem CW{most:Nat}{step:α->List (Option α)}{first:α}:∀(f i:Nat) {l:List α} {rows:List (List Int)},sJ most step first i l rows->∀{j g},o9 most step f i l rows=some (j,g)->sJ most step first j.length j g
 | 0,_,_,_,_,_,_,h=>by cases h
 | f+1,i,l,rows,o,j,g,h=>by{unfold o9 at h;split at h;{rename_i r;cases h;have:=UG.1 r;have hle:=o.le;have e:i=l.length:=by{omega};rw[<-e];exact o};{rename_i st p;split at h;{rename_i hm;exact CW f (i+1) (o.next p hm) h};{cases h}}}
end
theorem sJ.all{α:Type}{most:Nat}{step:α->List (Option α)}{first:α}{i:Nat}{l:List α}{rows:List (List Int)}(h:sJ most step first i l rows){P:α->Prop}(r:P first)(hs:∀st s,P st->some s∈step st->P s):∀(j:Nat) (st:α),l[j]?=some st->P st:=by
 intro j;induction j using Nat.strongRecOn with| _ j t=>{intro st g;by_cases e:j=0;{subst e;rw[h.first] at g;obtain rfl:=aE g;exact r};{obtain⟨k,o,h1,_,C,I⟩:=h.from_ j st zo g;exact hs o st (t k h1 o C) I}}
def iM(g:aj)(st:List Lr)(y:Sym):List Lr:=st.filterMap λx=>if bw g x=some y then some ⟨x.aB,x.dot+1⟩ else none
theorem j8{g:aj}{st:List Lr}{y:Sym}{z:Lr}:z∈iM g st y↔∃x∈st,bw g x=some y/\z=⟨x.aB,x.dot+1⟩:=by
 unfold iM;rw[Vp];constructor;{rintro⟨x,i,h⟩;split at h;{rename_i j;exact⟨x,i,j,(aE h).symm⟩};{cases h}};{rintro⟨x,i,j,rfl⟩;exact⟨x,i,by rw[n0 j]⟩}
def cL(g:aj):List Sym:=((List.range g.ae).map λt=>(⟨true,t⟩:Sym))++(List.range g.ay).map λn=>(⟨false,n⟩:Sym)
def H9(g:aj)(y:Sym):Nat:=if y.term=true then y.n else y.n+g.ae
def M7(g:aj)(y:Sym):Bool:=if y.term=true then decide (y.n<g.ae) else decide (y.n<g.ay)
theorem lM{g:aj}{y:Sym}:M7 g y=true↔cP g.ae g.ay y:=by
 unfold M7 cP;split<;>simp
theorem eC(g:aj):(cL g).length=g.ae+g.ay:=by unfold cL;simp
theorem o5{g:aj}{y:Sym}(h:cP g.ae g.ay y):(cL g)[H9 g y]?=some y:=by
 obtain⟨b,n⟩:=y;unfold cL H9;unfold cP at h;cases b with| true=>{have h:n<g.ae:=h;rw[n0 rfl,AT (by simpa using h)];simp[h]}| false=>{have h:n<g.ay:=h;rw[nw (by simp),OF (by simp)];simp[h]}
theorem Gn{g:aj}{k:Nat}{y:Sym}(h:(cL g)[k]?=some y):cP g.ae g.ay y/\H9 g y=k:=by
 unfold cL at h;by_cases hk:k<g.ae;{rw[AT (by simpa using hk)] at h;simp[hk] at h;subst h;exact⟨hk,rfl⟩};{rw[OF (by simp;omega)] at h;rw[tj,T3,zy] at h;cases he:(List.range g.ay)[k-g.ae]? with| none=>{rw[he] at h;cases h}| some n=>{rw[he] at h;obtain rfl:=aE h;have h1:=gS he;obtain⟨h1,i⟩:=h1;rw[VN] at i;rw[T3] at h1;refine⟨show n<g.ay by omega,?_⟩;show n+g.ae=k;omega}}
theorem sE{g:aj}(j:Valid g){x:Lr}{y:Sym}(h:bw g x=some y):cP g.ae g.ay y:=by
 rw[cJ] at h;unfold bL at h;split at h;{have:=gM h;rw[ti.1 this];exact j.range.start};{cases i:g.rules[x.aB]? with| none=>{rw[i] at h;simp at h}| some r=>{rw[i] at h;exact(j.right r (gM i)).2.2 y (gM h)}}
theorem iJ.zero{g:aj}{l:List Lr}{z:Lr}(h:iJ g l z):z∈l\/(z.dot=0/\z.aB<g.rules.length):=by
 cases h with| base h=>{exact .inl h}| more _ _ h _=>{exact .inr ⟨rfl,(gS h).1⟩}
structure mh(g:aj)(I:List (List Lr))(rows:List (List Int)):Prop where
 len:rows.length=I.length
 ok:∀(s:Nat) (st:List Lr),I[s]?=some st->∀x∈st,gj g x
 zero:∃st,I[0]?=some st/\∀z,z∈st↔iJ g [⟨g.rules.length,0⟩] z
 from_:∀(s:Nat) (st:List Lr),0<s->I[s]?=some st->∃l:List Lr,(∀x∈l,0<x.dot)/\l≠[]/\∀z,z∈st↔iJ g l z
 row:∀(s:Nat) (st:List Lr) (row:List Int),I[s]?=some st->rows[s]?=some row->row.length=g.ae+g.ay
 no:∀(s k:Nat) (st:List Lr) (row:List Int) (y:Sym),I[s]?=some st->rows[s]?=some row->(cL g)[k]?=some y->iM g st y=[]->row[k]?=some (-1)
 yes:∀(s k:Nat) (st:List Lr) (row:List Int) (y:Sym),I[s]?=some st->rows[s]?=some row->(cL g)[k]?=some y->iM g st y≠[]->∃(j:Nat) (st':List Lr),row[k]?=some (j:Int)/\I[j]?=some st'/\∀z,z∈st'↔iJ g (iM g st y) z
def th(I:List (List Lr))(s:Nat)(x:Lr):Prop:=∃st,I[s]?=some st/\x∈st
def eZ(g:aj)(rows:List (List Int))(s:Nat)(y:Sym):Option Nat:=if M7 g y=true then (match rows[s]? with
 | some row=>(match row[H9 g y]? with
  | some j=>if 0<=j then some j.toNat else none
  | none=>none)
 | none=>none) else none
section
variable {g:aj}{I:List (List Lr)}{rows:List (List Int)}
theorem mh.rowAt(h:mh g I rows){s:Nat}{st:List Lr}(hs:I[s]?=some st):∃row,rows[s]?=some row:=⟨_,gE (by rw[h.len];exact(gS hs).1)⟩
theorem mh.go(t:Valid g)(h:mh g I rows){s:Nat}{st:List Lr}(hs:I[s]?=some st){y:Sym}(o:cP g.ae g.ay y) :
  (iM g st y=[]->eZ g rows s y=none)/\(iM g st y≠[]->∃j i,eZ g rows s y=some j/\I[j]?=some i/\∀z,z∈i↔iJ g (iM g st y) z):=by
 obtain⟨row,l⟩:=h.rowAt hs;have hk:=o5 o;unfold eZ;rw[n0 (lM.2 o),l];dsimp only;refine⟨λe=>?_,λe=>?_⟩;{rw[h.no s _ st row y hs l hk e];rfl};{obtain⟨j,i,h1,p,r⟩:=h.yes s _ st row y hs l hk e;rw[h1];exact⟨j,i,by simp,p,r⟩}
theorem mh.goes(r:Valid g)(h:mh g I rows){s s':Nat}{y:Sym}(i:eZ g rows s y=some s'):∃st l,I[s]?=some st/\I[s']?=some l/\iM g st y≠[]/\∀z,z∈l↔iJ g (iM g st y) z:=by
 have o:cP g.ae g.ay y:=by{unfold eZ at i;split at i;{rename_i t;exact lM.1 t};{cases i}};obtain⟨st,hs⟩:∃st,I[s]?=some st:=by{unfold eZ at i;rw[n0 (lM.2 o)] at i;split at i;{rename_i row C;exact⟨_,gE (by rw[<-h.len];exact(gS C).1)⟩};{cases i}};obtain⟨h1,J⟩:=h.go r hs o;by_cases e:iM g st y=[];{rw[h1 e] at i;cases i};{obtain⟨j,l,p,P,R⟩:=J e;rw[i] at p;obtain rfl:=aE p;exact⟨st,l,hs,P,e,R⟩}
theorem mh.lr(hg:Valid g)(h:mh g I rows){la:Nat->Lr->Nat->Prop}(h0:la 0 ⟨g.rules.length,0⟩ g.ae)
  (hc:∀{s:Nat} {x:Lr} {k:Nat} {r:bY} {t u:Nat},th I s x->la s x u->bw g x=some ⟨false,r.left⟩->g.rules[k]?=some r->(eu g (dn g x) t\/(fI g (dn g x)/\la s x t))->la s ⟨k,0⟩ t)
  (hs:∀{s s':Nat} {x:Lr} {y:Sym},th I s x->bw g x=some y->eZ g rows s y=some s'->∀t,la s x t->la s' ⟨x.aB,x.dot+1⟩ t):oO g (th I) la (eZ g rows):=by
 obtain⟨ay,o,hz⟩:=h.zero;have C:∀{s:Nat} {st:List Lr},I[s]?=some st->∃l:List Lr,(∀z,z∈st↔iJ g l z)/\((s=0/\l=[⟨g.rules.length,0⟩])\/∀x∈l,0<x.dot):=λ{s st} i=>by
  rcases Ts s with rfl | hp
  ·rw[o] at i;obtain rfl:=aE i;exact⟨_,hz,.inl ⟨rfl,rfl⟩⟩
  ·obtain⟨l,h1,_,p⟩:=h.from_ s st hp i;exact⟨l,p,.inr h1⟩
 exact {
  start:=⟨ay,o,(hz _).2 (.base me)⟩
  DH:=h0
  Bi:=λ{s x k r} ⟨st,i,J⟩ ha hr=>by
   obtain⟨l,hl,_⟩:=C i;exact⟨st,i,(hl _).2 (.more ((hl _).1 J) ha hr rfl)⟩
  fv:=hc
  step:=λ{s x y} ag ha=>by
   obtain⟨st,i,J⟩:=id ag;have hm:(⟨x.aB,x.dot+1⟩:Lr)∈iM g st y:=j8.2 ⟨x,J,ha,rfl⟩;obtain⟨j,R,h1,U,p⟩:=(h.go hg i (sE hg ha)).2 (λe=>by rw[e] at hm;cases hm);exact⟨j,h1,⟨R,U,(p _).2 (.base hm)⟩,hs ag ha h1⟩
  back:=λ{s s' y k d} ac ⟨st2,aa,J⟩=>by
   obtain⟨st,R,h1,U,_,h4⟩:=h.goes hg ac;rw[U] at aa;obtain rfl:=aE aa;rcases ((h4 _).1 J).zero with P | ⟨P,_⟩
   ·obtain⟨z,a0,a1,an⟩:=j8.1 P;obtain⟨Z,zd⟩:=z;simp only[Lr.mk.injEq,Nat.add_right_cancel_iff] at an;obtain⟨rfl,rfl⟩:=an;exact⟨⟨st,h1,a0⟩,a1⟩
   ·exact absurd P (Nat.succ_ne_zero d)
  fill:=λ{s k r} ⟨st,i,J⟩ hr=>by
   obtain⟨l,hl,hl2⟩:=C i;have hk:=(gS hr).1;have hc:=(hl _).1 J;cases hc with
   | base hb=>
    rcases hl2 with ⟨_,rfl⟩ | hl2
    ·have e:=ti.1 hb;simp only[Lr.mk.injEq,Vs] at e;omega
    ·exact absurd (hl2 _ hb) (UC 0)
   | more h1 U p h4=>
    rw[hr] at p;obtain rfl:=aE p;subst h4;have hm:=j8.2 ⟨_,(hl _).2 h1,U,rfl⟩;obtain⟨j,R,g1,_,_⟩:=(h.go hg i (sE hg U)).2 (λe=>by rw[e] at hm;cases hm);exact⟨j,g1⟩
  first:=λ{s} ⟨st,i,J⟩=>by
   obtain⟨l,hl,hl2⟩:=C i;rcases hl2 with ⟨h1,_⟩ | hl2
   ·exact h1
   ·rcases ((hl _).1 J).zero with p | ⟨_,p⟩
    ·exact absurd (hl2 _ p) (UC 0)
    ·exact absurd p (UC _)
  zero:=λ{s y} ac=>by
   obtain⟨st,R,h1,U,p,h4⟩:=h.goes hg ac;rw[o] at U;obtain rfl:=aE U;obtain⟨z,ao⟩:=List.exists_mem_of_ne_nil _ p;have hd:0<z.dot:=by obtain⟨x,_,_,rfl⟩:=j8.1 ao;exact Nat.succ_pos _
   rcases ((hz z).1 ((h4 z).2 (.base ao))).zero with P | ⟨P,_⟩
   ·rw[ti.1 P] at hd;exact absurd hd (UC 0)
   ·omega
  QT:=λ{x} ⟨st,i,J⟩=>by
   rw[o] at i;obtain rfl:=aE i;rcases ((hz x).1 J).zero with P | ⟨P,_⟩
   ·rw[ti.1 P]
   ·exact P }
end
noncomputable def bB(P:Nat->Prop):Nat->Nat
 | 0=>0
 | n+1=>bB P n+(if @decide (P n) (Classical.propDecidable _)=true then 2 ^ n else 0)
theorem iH(P:Nat->Prop):∀n,bB P n<2 ^ n
 | 0=>Nat.one_pos
 | n+1=>by{have:=iH P n;unfold bB;rw[We];split<;>omega}
theorem ei(P:Nat->Prop):∀(n t:Nat),(bB P n).testBit t=true↔t<n/\P t
 | 0,t=>by unfold bB;simp
 | n+1,t=>by{have h1:=iH P n;have j:=ei P n t;unfold bB;by_cases e:t=n;{subst e;have g:(bB P t).testBit t=false:=UD h1;split;{rename_i h;rw[Vi,Nat.testBit_two_pow_add_eq,g];simp only[UK,true_iff];exact⟨TD _,@of_decide_eq_true _ (Classical.propDecidable _) h⟩};{rename_i h;rw[UA,g];simp only[TT,false_iff,not_and];exact λ_ hp=>h (@decide_eq_true _ (Classical.propDecidable _) hp)}};{have l:(t<n+1/\P t)↔(t<n/\P t):=⟨λ⟨a,b⟩=>⟨by omega,b⟩,λ⟨a,b⟩=>⟨by omega,b⟩⟩;rw[l,<-j];split;{by_cases r:t<n;{rw[Vi,Nat.testBit_two_pow_add_gt zo]};{have i:n<t:=by{omega};have o:(bB P n).testBit t=false:=UD (Nat.lt_trans h1 (UZ (by decide) i));have a2:(bB P n+2 ^ n).testBit t=false:=UD (by{have:2 ^ (n+1)<=2 ^ t:=Tt (by decide) i;rw[We] at this;omega});rw[o,a2]}};{rw[UA]}}}
theorem BF{P:Nat->Prop}{n m:Nat}(h1:m<2 ^ n)(g:∀t,m.testBit t=true↔t<n/\P t):m=bB P n:=by
 apply UY;intro t;have:=ei P n t;rw[<-g] at this;cases hm:m.testBit t<;>cases hk:(bB P n).testBit t<;>simp[hm,hk] at this ⊢
structure aS where
 item:Lr
 set:Nat
deriving DecidableEq,Inhabited
def aH(l:List aS):List Lr:=l.map (·.item)
inductive xG(g:aj)(l:List aS):Lr->Nat->Prop
 | base {z:Lr} {m t:Nat}:⟨z,m⟩∈l->m.testBit t=true->t<=g.ae->xG g l z t
 | uU {x:Lr} {k t:Nat} {r:bY}:iJ g (aH l) x->bw g x=some ⟨false,r.left⟩->g.rules[k]?=some r->eu g (dn g x) t->xG g l ⟨k,0⟩ t
 | pass {x:Lr} {k t:Nat} {r:bY}:iJ g (aH l) x->bw g x=some ⟨false,r.left⟩->g.rules[k]?=some r->fI g (dn g x)->xG g l x t->xG g l ⟨k,0⟩ t
noncomputable def bU(g:aj)(l:List aS):List aS:=(fv g (aH l)).map λz=>⟨z,bB (xG g l z) (g.ae+1)⟩
theorem dp(g:aj)(l:List aS):aH (bU g l)=fv g (aH l):=by
 unfold aH bU;rw[Us];have:(λx:aS=>x.item) ∘ (λz=>(⟨z,bB (xG g l z) (g.ae+1)⟩:aS))=id:=rfl;rw[this,List.map_id];rfl
theorem yW{g:aj}{l:List aS}(i:∀x∈aH l,gj g x){z:Lr}{m:Nat}:⟨z,m⟩∈bU g l↔iJ g (aH l) z/\m=bB (xG g l z) (g.ae+1):=by
 unfold bU;rw[x6];constructor;{rintro⟨x,j,e⟩;rw[cV i] at j;simp only[aS.mk.injEq] at e;obtain⟨rfl,rfl⟩:=e;exact⟨j,rfl⟩};{rintro⟨o,rfl⟩;exact⟨z,(cV i).2 o,rfl⟩}
theorem Gz.lt{g:aj}(i:Valid g){n t:Nat}(h:Gz g n t):t<g.ae:=by
 induction h with| term j e _=>{have:=(i.right _ j).2.2 ⟨true,_⟩ (by rw[e];exact Tf _ me);exact this}| HM _ _ _ _ l=>{exact l}
theorem eu.lt{g:aj}(i:Valid g){l:List Sym}(j:∀s∈l,cP g.ae g.ay s){t:Nat}(h:eu g l t):t<g.ae:=by
 obtain⟨pre,s,post,rfl,_,o⟩:=h;rcases o with rfl | ⟨_,p⟩;{exact j _ (Tf _ me)};{exact p.lt i}
theorem Cu{g:aj}(i:Valid g)(k:Nat):∀s∈bL g k,cP g.ae g.ay s:=by
 unfold bL;split;{intro s hs;rw[ti.1 hs];exact i.range.start};{cases h:g.rules[k]? with| none=>{intro s hs;cases hs}| some r=>{exact(i.right r (gM h)).2.2}}
theorem qC{g:aj}(i:Valid g){x:Lr}{t:Nat}(h:eu g (dn g x) t):t<g.ae:=
 h.lt i λs hs=>Cu i _ s (Vf hs)
theorem xG.le{g:aj}(i:Valid g){l:List aS}{z:Lr}{t:Nat}(h:xG g l z t):t<=g.ae:=by
 induction h with| base _ _ h=>{exact h}| uU _ _ _ h=>{exact TC (qC i h)}| pass _ _ _ _ _ j=>{exact j}
theorem xG.Bi{g:aj}{l:List aS}{z:Lr}{t:Nat}(h:xG g l z t):iJ g (aH l) z:=by
 cases h with| base h _ _=>{exact .base (x6.2 ⟨_,h,rfl⟩)}| uU h1 i j _=>{exact .more h1 i j rfl}| pass h1 i j _ _=>{exact .more h1 i j rfl}
theorem wq{g:aj}(j:Valid g){l:List aS}(i:∀x∈aH l,gj g x){z:Lr}{t:Nat}:(∃m,⟨z,m⟩∈bU g l/\m.testBit t=true)↔xG g l z t:=by
 constructor;{rintro⟨m,hm,o⟩;obtain⟨_,rfl⟩:=(yW i).1 hm;exact((ei _ _ _).1 o).2};{intro h;exact⟨_,(yW i).2 ⟨h.Bi,rfl⟩,(ei _ _ _).2 ⟨Nat.lt_succ_of_le (h.le j),h⟩⟩}
noncomputable def Gm(g:aj)(st:List Lr):List (Option (List Lr)):=(cL g).map λy=>if iM g st y=[] then none else some (fv g (iM g st y))
def cR(g:aj)(st:List aS)(y:Sym):List aS:=st.filterMap λx=>if bw g x.item=some y then some ⟨⟨x.item.aB,x.item.dot+1⟩,x.set⟩ else none
noncomputable def CP(g:aj)(st:List aS):List (Option (List aS)):=(cL g).map λy=>if cR g st y=[] then none else some (bU g (cR g st y))
noncomputable def C4(g:aj):List Lr:=fv g [⟨g.rules.length,0⟩]
noncomputable def ez(g:aj):List aS:=bU g [⟨⟨g.rules.length,0⟩,2 ^ g.ae⟩]
noncomputable def iT(g:aj):Option (List (List Lr)×List (List Int)):=o9 400 (Gm g) 401 0 [C4 g] []
noncomputable def Mn(g:aj):Option (List (List aS)×List (List Int)):=o9 400 (CP g) 401 0 [ez g] []
theorem eL(g:aj)(st:List aS)(y:Sym):aH (cR g st y)=iM g (aH st) y:=by
 unfold aH cR iM;induction st with| nil=>{rfl}| cons a st i=>{rw[y2,Vl,Vl];by_cases h:bw g a.item=some y;{rw[n0 h,n0 h];simp only[y2,i]};{rw[nw h,nw h];exact i}}
theorem qQ{g:aj}{st:List aS}{y:Sym}{z:Lr}{m:Nat}:⟨z,m⟩∈cR g st y↔∃x,⟨x,m⟩∈st/\bw g x=some y/\z=⟨x.aB,x.dot+1⟩:=by
 unfold cR;rw[Vp];constructor;{rintro⟨⟨x,n⟩,i,h⟩;split at h;{rename_i j;have:=aE h;simp only[aS.mk.injEq] at this;obtain⟨rfl,rfl⟩:=this;exact⟨x,i,j,rfl⟩};{cases h}};{rintro⟨x,i,j,rfl⟩;exact⟨⟨x,m⟩,i,by rw[n0 j]⟩}
theorem fE{g:aj}{st:List Lr}{y:Sym}:∀z∈iM g st y,gj g z/\0<z.dot:=by
 intro z l;obtain⟨x,_,j,rfl⟩:=j8.1 l;rw[cJ] at j;have i:=(gS j).1;refine⟨⟨?_,i⟩,Nat.succ_pos _⟩;show x.aB<=_;rcases IN g.rules.length x.aB with h | h;{unfold bL at i;rw[nw zo,zE zo] at i;simp at i};{exact h}
theorem iZ{g:aj}:∀z∈[(⟨g.rules.length,0⟩:Lr)],gj g z:=by
 intro z i;rw[ti.1 i];exact⟨mc _,If _⟩
theorem gP{α β:Type}{f:α->β}{l:List α}{k:Nat}{a:α}(h:l[k]?=some a):(l.map f)[k]?=some (f a):=by rw[zy,h];rfl
theorem k8{g:aj}{l:List Lr}:∀x∈fv g l,gj g x:=λx i=>Cd.1 (Wg.1 i).1
theorem fS{g:aj}{I:List (List Lr)}{rows:List (List Int)}(h:iT g=some (I,rows)):mh g I rows/\sJ 400 (Gm g) (C4 g) I.length I rows:=by
 have l:=CW 401 0 (sJ.begin (Gm g) (C4 g) (by decide)) h;refine⟨?_,l⟩;have i:∀(st:List Lr) (k:Nat) (y:Sym),(cL g)[k]?=some y->(Gm g st)[k]?=some (if iM g st y=[] then none else some (fv g (iM g st y))):=λst k y hk=>gP hk;exact {
  len:=l.len
  ok:=l.all (P:=λst=>∀x∈st,gj g x) k8 (λst s _ hs=>by
   obtain⟨y,_,o⟩:=x6.1 hs;split at o
   ·cases o
   ·obtain rfl:=aE o;exact k8)
  zero:=⟨_,l.first,λz=>cV iZ⟩
  from_:=λs st hp hs=>by
   obtain⟨k,R,_,_,U,C⟩:=l.from_ s st hp hs;obtain⟨y,_,o⟩:=x6.1 C;split at o
   ·cases o
   ·rename_i t;obtain rfl:=aE o;exact⟨_,λx p=>(fE x p).2,t,λz=>cV λx p=>(fE x p).1⟩
  row:=λs st row hs r=>by
   rw[(l.row s st row hs r).len];unfold Gm;rw[tj,eC]
  no:=λs k st row y hs r hk he=>(l.row s st row hs r).no k (by rw[i st k y hk,n0 he])
  yes:=λs k st row y hs r hk he=>by
   obtain⟨j,h1,J⟩:=(l.row s st row hs r).yes k _ (by rw[i st k y hk,nw he]);exact⟨j,_,h1,J,λz=>cV λx p=>(fE x p).1⟩ }
theorem qv{g:aj}{st:List aS}{y:Sym}:cR g st y=[]↔iM g (aH st) y=[]:=by
 rw[<-eL];unfold aH;exact List.map_eq_nil_iff.symm
theorem tR{g:aj}{S:List (List aS)}{rows:List (List Int)}(h:Mn g=some (S,rows)):mh g (S.map aH) rows/\sJ 400 (CP g) (ez g) S.length S rows:=by
 have t:=CW 401 0 (sJ.begin (CP g) (ez g) (by decide)) h;refine⟨?_,t⟩;have o:∀(st:List aS) (k:Nat) (y:Sym),(cL g)[k]?=some y->(CP g st)[k]?=some (if cR g st y=[] then none else some (bU g (cR g st y))):=λst k y hk=>gP hk;have p:∀{s:Nat} {st:List Lr},(S.map aH)[s]?=some st->∃J,S[s]?=some J/\st=aH J:=λ{s st} hs=>by
  rw[zy] at hs;cases hk:S[s]? with
  | none=>rw[hk] at hs;cases hs
  | some J=>rw[hk] at hs;exact⟨J,rfl,(aE hs).symm⟩
 have C:∀(st:List aS) (y:Sym) (z:Lr),z∈aH (bU g (cR g st y))↔iJ g (iM g (aH st) y) z:=λst y z=>by
  rw[dp,eL,cV λx r=>(fE x r).1]
 exact {
  len:=by rw[tj];exact t.len
  ok:=λs st hs=>by
   obtain⟨i,l,rfl⟩:=p hs;refine t.all (P:=λst=>∀x∈aH st,gj g x) (λx r=>?_) (λst s _ hs=>?_) s i l
   ·unfold ez at r;rw[dp] at r;exact k8 x r
   ·obtain⟨y,_,I⟩:=x6.1 hs;split at I
    ·cases I
    ·obtain rfl:=aE I;intro x r;rw[dp] at r;exact k8 x r
  zero:=⟨_,gP t.first,λz=>by
   show z∈aH (bU g _)↔_;rw[dp];exact cV iZ⟩
  from_:=λs st hp hs=>by
   obtain⟨i,l,rfl⟩:=p hs;obtain⟨k,J,_,_,h3,h4⟩:=t.from_ s i hp l;obtain⟨y,_,I⟩:=x6.1 h4;split at I
   ·cases I
   ·rename_i U;obtain rfl:=aE I;exact⟨_,λx r=>(fE x r).2,λe=>U (qv.2 e),C J y⟩
  row:=λs st row hs R=>by
   obtain⟨i,l,rfl⟩:=p hs;rw[(t.row s i row l R).len];unfold CP;rw[tj,eC]
  no:=λs k st row y hs R hk he=>by
   obtain⟨i,l,rfl⟩:=p hs;exact(t.row s i row l R).no k (by rw[o i k y hk,n0 (qv.2 he)])
  yes:=λs k st row y hs R hk he=>by
   obtain⟨i,l,rfl⟩:=p hs;obtain⟨j,h1,h2⟩:=(t.row s i row l R).yes k _ (by rw[o i k y hk,nw (λe=>he (qv.1 e))]);exact⟨j,_,h1,gP h2,C i y⟩ }
inductive sG(g:aj):Nat->Prop
 | start:sG g g.start
 | more {r:bY} {m:Nat}:r∈g.rules->sG g r.left->⟨false,m⟩∈r.right->sG g m
inductive xP(g:aj):Nat->Nat->Prop
 | start:xP g g.start g.ae
 | uU {r:bY} {pre post:List Sym} {m t:Nat}:r∈g.rules->sG g r.left->r.right=pre++⟨false,m⟩::post->eu g post t->xP g m t
 | pass {r:bY} {pre post:List Sym} {m t:Nat}:r∈g.rules->sG g r.left->r.right=pre++⟨false,m⟩::post->fI g post->xP g r.left t->xP g m t
def rH(g:aj)(k:Nat):Nat:=((g.rules[k]?).map (·.left)).getD 0
def tQ(g:aj)(x:Lr)(t:Nat):Prop:=if x.aB<g.rules.length then xP g (rH g x.aB) t else t=g.ae
theorem nf{g:aj}{k:Nat}{r:bY}(h:g.rules[k]?=some r):rH g k=r.left:=by unfold rH;rw[h];rfl
inductive ky(g:aj)(I:List (List Lr))(rows:List (List Int)):Nat->Lr->Nat->Prop
 | start:ky g I rows 0 ⟨g.rules.length,0⟩ g.ae
 | goto {s s' t:Nat} {x:Lr} {y:Sym}:ky g I rows s x t->th I s x->bw g x=some y->eZ g rows s y=some s'->ky g I rows s' ⟨x.aB,x.dot+1⟩ t
 | Mg {x:Lr} {k t:Nat} {r:bY}:th I 0 x->bw g x=some ⟨false,r.left⟩->g.rules[k]?=some r->eu g (dn g x) t->ky g I rows 0 ⟨k,0⟩ t
 | uU {s s' u t k:Nat} {v x:Lr} {y:Sym} {r:bY}:ky g I rows s v u->th I s v->eZ g rows s y=some s'->th I s' x->bw g x=some ⟨false,r.left⟩->g.rules[k]?=some r->eu g (dn g x) t->ky g I rows s' ⟨k,0⟩ t
 | pass {s t k:Nat} {x:Lr} {r:bY}:ky g I rows s x t->th I s x->bw g x=some ⟨false,r.left⟩->g.rules[k]?=some r->fI g (dn g x)->ky g I rows s ⟨k,0⟩ t
noncomputable def kG(g:aj)(I:List (List Lr))(la:Nat->Lr->Nat->Prop):List (List aS):=(List.range I.length).map λs=>(I.getD s []).map λx=>⟨x,bB (la s x) (g.ae+1)⟩
def rl(S:List (List aS))(s:Nat)(x:Lr)(t:Nat):Prop:=∃st m,S[s]?=some st/\⟨x,m⟩∈st/\m.testBit t=true
theorem mK{g:aj}{I:List (List Lr)}{la:Nat->Lr->Nat->Prop}{s:Nat}:(kG g I la)[s]?=(I[s]?).map λst=>st.map λx=>⟨x,bB (la s x) (g.ae+1)⟩:=by
 unfold kG;rw[zy];by_cases h:s<I.length;{rw[TN h,gE h,Tq,Tq,pf,gE h];rfl};{rw[zE (by simpa using h),zE zo];rfl}
theorem wA{g:aj}{I:List (List Lr)}{la:Nat->Lr->Nat->Prop}:(kG g I la).map aH=I:=by
 apply Tn;intro s;rw[zy,mK];cases I[s]? with| none=>{rfl}| some st=>{rw[Tq,Tq];congr 1;unfold aH;rw[Us];have:(λx:aS=>x.item) ∘ (λx=>(⟨x,bB (la s x) (g.ae+1)⟩:aS))=id:=rfl;rw[this,List.map_id]}
theorem dM{g:aj}{I:List (List Lr)}{la:Nat->Lr->Nat->Prop}{s:Nat}{x:Lr}{t:Nat}:rl (kG g I la) s x t↔th I s x/\la s x t/\t<=g.ae:=by
 unfold rl th;constructor;{rintro⟨st,m,h1,j,l⟩;rw[mK] at h1;cases o:I[s]? with| none=>{rw[o] at h1;cases h1}| some i=>{rw[o] at h1;obtain rfl:=aE h1;obtain⟨z,p,e⟩:=x6.1 j;simp only[aS.mk.injEq] at e;obtain⟨rfl,rfl⟩:=e;have:=(ei _ _ _).1 l;exact⟨⟨i,rfl,p⟩,this.2,by omega⟩}};{rintro⟨⟨i,h1,j⟩,l,r⟩;exact⟨_,_,by rw[mK,h1];rfl,x6.2 ⟨x,j,rfl⟩,(ei _ _ _).2 ⟨by omega,l⟩⟩}
theorem Dd{g:aj}{I:List (List Lr)}{rows:List (List Int)}(h:iT g=some (I,rows)):∀(s:Nat) (st:List Lr),I[s]?=some st->∀x∈st,x.aB<g.rules.length->sG g (rH g x.aB):=by
 obtain⟨hA,hN⟩:=fS h;have i:∀l:List Lr,(∀x∈l,x.aB<g.rules.length->sG g (rH g x.aB))->∀z,iJ g l z->z.aB<g.rules.length->sG g (rH g z.aB):=by{intro l hl z o;induction o with| base h=>{exact hl _ h}| @more x n k r h1 j h3 h4 ih=>{intro _;show sG g (rH g k);rw[nf h3,h4];rw[cJ] at j;unfold bL at j;split at j;{have:=ti.1 (gM j);simp only[Sym.mk.injEq,Vd] at this;subst this;exact .start};{cases p:g.rules[x.aB]? with| none=>{rw[p] at j;simp at j}| some r2=>{rw[p] at j;have U:=ih (gS p).1;rw[nf p] at U;exact .more (gM p) U (gM j)}}}};refine hN.all (P:=λst=>∀x∈st,x.aB<g.rules.length->sG g (rH g x.aB)) (λx J=>?_) (λst s R hs=>?_);{refine i _ (λy t C=>?_) x ((cV iZ).1 J);rw[ti.1 t] at C;exact absurd C (UC _)};{obtain⟨y,_,t⟩:=x6.1 hs;split at t;{cases t};{obtain rfl:=aE t;intro x J;refine i _ (λz o=>?_) x ((cV λz o=>(fE z o).1).1 J);obtain⟨q,hq,_,rfl⟩:=j8.1 o;exact R q hq}}
theorem Mf{g:aj}{k d:Nat}{r:bY}{y:Sym}(i:g.rules[k]?=some r)(h:bw g ⟨k,d⟩=some y):r.right=r.right.take d++y::dn g ⟨k,d⟩:=by
 rw[cJ] at h;have h:(bL g k)[d]?=some y:=h;have e:dn g ⟨k,d⟩=(bL g k).drop (d+1):=rfl;rw[e,eH i];rw[eH i] at h;obtain⟨h1,j⟩:=gS h;rw[<-j,<-Tl h1,Ut]
theorem GL{g:aj}{d:Nat}{y:Sym}(h:bw g ⟨g.rules.length,d⟩=some y):y=⟨false,g.start⟩/\d=0/\dn g ⟨g.rules.length,d⟩=[]:=by
 rw[cJ] at h;have h:(bL g g.rules.length)[d]?=some y:=h;rw[dU] at h;cases d with| zero=>{refine⟨(aE h).symm,rfl,?_⟩;show (bL g g.rules.length).drop 1=[];rw[dU];rfl}| succ d=>{simp at h}
theorem Px{g:aj}(hg:Valid g){I:List (List Lr)}{rows:List (List Int)}(h:iT g=some (I,rows)):oO g (th I) (rl (kG g I λ_=>tQ g)) (eZ g rows):=by
 obtain⟨hA,hN⟩:=fS h;obtain⟨ay,o,hz⟩:=hA.zero;refine hA.lr hg (dM.2 ⟨⟨ay,o,(hz _).2 (.base me)⟩,?_,mc _⟩) ?_ ?_;{unfold tQ;rw[nw (UC _)]};{intro s x k r t u ab hu ha hr U;rw[dM];obtain⟨st,C,hx⟩:=ab;have hk:=(gS hr).1;obtain⟨xr,xd⟩:=x;have af:th I s ⟨k,0⟩:=by{rcases Ts s with rfl | hp;{rw[o] at C;obtain rfl:=aE C;exact⟨_,o,(hz _).2 (.more ((hz _).1 hx) ha hr rfl)⟩};{obtain⟨l,_,_,h3⟩:=hA.from_ s st hp C;exact⟨st,C,(h3 _).2 (.more ((h3 _).1 hx) ha hr rfl)⟩}};have ag:tQ g ⟨k,0⟩ t:=by{unfold tQ;rw[n0 hk,nf hr];by_cases ad:xr<g.rules.length;{have J:=gE ad;generalize g.rules[xr]=r2 at J;have al:=gM J;have P:=Dd h s st C _ hx ad;have P:sG g (rH g xr):=P;rw[nf J] at P;have an:=Mf J ha;rcases U with U | ⟨a1,R⟩;{exact .uU al P an U};{have j:=(dM.1 R).2.1;unfold tQ at j;rw[n0 ad] at j;have j:xP g (rH g xr) t:=j;rw[nf J] at j;exact .pass al P an a1 j}};{have a2:xr=g.rules.length:=by{have:=(cJ (g:=g) (x:=⟨xr,xd⟩)).symm.trans ha;have h2:(bL g xr)[xd]?=some ⟨false,r.left⟩:=this;rcases IN g.rules.length xr with h3 | h3;{unfold bL at h2;rw[nw zo,zE (l:=g.rules) (i:=xr) zo] at h2;simp at h2};{omega}};subst a2;obtain⟨h1,_,h3⟩:=GL ha;simp only[Sym.mk.injEq,Vd] at h1;rw[h1];rcases U with U | ⟨_,R⟩;{rw[h3] at U;obtain⟨pre,s1,post,e,_⟩:=U;exact absurd (congrArg List.length e) (by simp)};{have j:=(dM.1 R).2.1;unfold tQ at j;rw[nw (UC _)] at j;rw[j];exact .start}}};refine⟨af,ag,?_⟩;rcases U with U | ⟨_,R⟩;{exact TC (qC hg U)};{exact(dM.1 R).2.2}};{intro s s' x y ab ha a3 t ht;obtain⟨_,h2,h3⟩:=dM.1 ht;obtain⟨st,a4,h4,j,_,h6⟩:=hA.goes hg a3;obtain⟨st2,h7,hx⟩:=ab;rw[h4] at h7;obtain rfl:=aE h7;exact dM.2 ⟨⟨a4,j,(h6 _).2 (.base (j8.2 ⟨x,hx,ha,rfl⟩))⟩,h2,h3⟩}
theorem ky.le{g:aj}(j:Valid g){I:List (List Lr)}{rows:List (List Int)}{s:Nat}{x:Lr}{t:Nat}(h:ky g I rows s x t):t<=g.ae:=by
 induction h with| start=>{exact mc _}| goto _ _ _ _ i=>{exact i}| Mg _ _ _ h=>{exact TC (qC j h)}| uU _ _ _ _ _ _ h _=>{exact TC (qC j h)}| pass _ _ _ _ _ i=>{exact i}
theorem Nn{g:aj}(hg:Valid g){I:List (List Lr)}{rows:List (List Int)}(h:iT g=some (I,rows)):oO g (th I) (rl (kG g I (ky g I rows))) (eZ g rows):=by
 obtain⟨hA,hN⟩:=fS h;obtain⟨al,j,hz⟩:=hA.zero;have J:∀{s:Nat} {x:Lr} {k:Nat} {r:bY},th I s x->bw g x=some ⟨false,r.left⟩->g.rules[k]?=some r->th I s ⟨k,0⟩:=λ{s x k r} ⟨st,p,hx⟩ o P=>by{rcases Ts s with rfl | hp;{rw[j] at p;obtain rfl:=aE p;exact⟨_,j,(hz _).2 (.more ((hz _).1 hx) o P rfl)⟩};{obtain⟨l,_,_,C⟩:=hA.from_ s st hp p;exact⟨st,p,(C _).2 (.more ((C _).1 hx) o P rfl)⟩}};refine hA.lr hg (dM.2 ⟨⟨al,j,(hz _).2 (.base me)⟩,.start,mc _⟩) ?_ ?_;{intro s x k r t u i hu o P R;rw[dM];refine⟨J i o P,?_,?_⟩;{rcases R with R | ⟨ao,U⟩;{obtain⟨_,ar,_⟩:=dM.1 hu;have aa:∀{s:Nat} {x:Lr} {u:Nat},ky g I rows s x u->s=0\/∃(q:Nat) (v:Lr) (u2:Nat) (y:Sym),ky g I rows q v u2/\th I q v/\eZ g rows q y=some s:=by{intro s x u h;induction h with| start=>{exact .inl rfl}| goto h1 h2 C h4 _=>{exact .inr ⟨_,_,_,_,h1,h2,h4⟩}| Mg _ _ _ _=>{exact .inl rfl}| uU h1 h2 C _ _ _ _ _=>{exact .inr ⟨_,_,_,_,h1,h2,C⟩}| pass _ _ _ _ _ ih=>{exact ih}};rcases aa ar with rfl | ⟨q,v,u2,y,h1,h2,C⟩;{exact .Mg i o P R};{exact .uU h1 h2 C i o P R}};{exact .pass (dM.1 U).2.1 i o P ao}};{rcases R with R | ⟨_,U⟩;{exact TC (qC hg R)};{exact(dM.1 U).2.2}}};{intro s s' x y i o ac t ht;obtain⟨_,h2,C⟩:=dM.1 ht;obtain⟨st,ax,h4,h5,_,h6⟩:=hA.goes hg ac;have ad:=i;obtain⟨st2,h7,hx⟩:=i;rw[h4] at h7;obtain rfl:=aE h7;exact dM.2 ⟨⟨ax,h5,(h6 _).2 (.base (j8.2 ⟨x,hx,o,rfl⟩))⟩,.goto h2 ad o ac,C⟩}
theorem Pp{g:aj}(hg:Valid g){S:List (List aS)}{rows:List (List Int)}(h:Mn g=some (S,rows)):oO g (th (S.map aH)) (rl S) (eZ g rows):=by
 obtain⟨hA,hN⟩:=tR h;have R:∀(s:Nat) (st:List aS),S[s]?=some st->∃l,st=bU g l/\∀x∈aH l,gj g x:=hN.all (P:=λst=>∃l,st=bU g l/\∀x∈aH l,gj g x) ⟨_,rfl,iZ⟩ (λst s _ hs=>by{obtain⟨y,_,hy⟩:=x6.1 hs;split at hy;{cases hy};{obtain rfl:=aE hy;exact⟨_,rfl,λx C=>by rw[eL] at C;exact(fE x C).1⟩}});have i:∀{s:Nat} {x:Lr},th (S.map aH) s x->∃st l,S[s]?=some st/\st=bU g l/\(∀x∈aH l,gj g x)/\iJ g (aH l) x:=λ{s x} ⟨st,o,C⟩=>by{rw[zy] at o;cases hk:S[s]? with| none=>{rw[hk] at o;cases o}| some sk=>{rw[hk] at o;obtain rfl:=aE o;obtain⟨l,rfl,I⟩:=R s sk hk;rw[dp,cV I] at C;exact⟨_,l,rfl,rfl,I,C⟩}};have p:∀{s:Nat} {l:List aS} {x:Lr} {t:Nat},S[s]?=some (bU g l)->(∀x∈aH l,gj g x)->(rl S s x t↔xG g l x t):=λ{s l x t} hs I=>by{rw[<-wq hg I];unfold rl;constructor;{rintro⟨st,m,h1,h2,h3⟩;rw[hs] at h1;obtain rfl:=aE h1;exact⟨m,h2,h3⟩};{rintro⟨m,h2,h3⟩;exact⟨_,m,hs,h2,h3⟩}};refine hA.lr hg ?_ ?_ ?_;{rw[p (l:=[⟨⟨g.rules.length,0⟩,2 ^ g.ae⟩]) hN.first iZ];exact .base me (by simp) (mc _)};{intro s x k r t u U hu ha hr hb;obtain⟨st,l,h1,rfl,I,C⟩:=i U;rw[p h1 I];rcases hb with hb | ⟨ao,ar⟩;{exact .uU C ha hr hb};{exact .pass C ha hr ao ((p h1 I).1 ar)}};{intro s s' x y U ha av t ht;obtain⟨st,l,h1,rfl,I,C⟩:=i U;have hy:=sE hg ha;have ac:∃m,⟨x,m⟩∈bU g l/\m.testBit t=true:=by{obtain⟨st,m,g1,g2,g3⟩:=ht;rw[h1] at g1;obtain rfl:=aE g1;exact⟨m,g2,g3⟩};obtain⟨m,hm,ax⟩:=ac;have hk:(⟨⟨x.aB,x.dot+1⟩,m⟩:aS)∈cR g (bU g l) y:=qQ.2 ⟨x,hm,ha,rfl⟩;have ay:cR g (bU g l) y≠[]:=λe=>by{rw[e] at hk;cases hk};have a0:∀z∈aH (cR g (bU g l) y),gj g z:=λz hz=>by{rw[eL] at hz;exact(fE z hz).1};obtain⟨row,J⟩:∃row,rows[s]?=some row:=⟨_,gE (by rw[hN.len];exact(gS h1).1)⟩;obtain⟨j,g1,g2⟩:=(hN.row s _ row h1 J).yes (H9 g y) (bU g (cR g (bU g l) y)) (by{unfold CP;rw[gP (o5 hy),nw ay]});have e:eZ g rows s y=some j:=by{unfold eZ;rw[n0 (lM.2 hy),J];dsimp only;rw[g1];simp};rw[av] at e;obtain rfl:=aE e;rw[p g2 a0];exact .base hk ax (by{have:=(p h1 I).1 ht;exact this.le hg})}
def jm(g:aj)(st:List aS)(row:List Int)(t:Nat):List (Nat×Nat):=
 (if t<g.ae then (match row[t]? with | some j=>if 0<=j then [(1,j.toNat)] else [] | none=>[]) else [])++
 st.filterMap λlk=>if bw g lk.item=none/\lk.set.testBit t=true then some (if lk.item.aB<g.rules.length then (2,lk.item.aB) else (3,0)) else none
structure Ef where
 act:List (List (Nat×Nat))
 go:List (List Int)
 sB:List (Nat×Nat×List (Nat×Nat))
def ed(g:aj)(S:List (List aS))(rows:List (List Int)):List (List (List (Nat×Nat))):=(List.range S.length).map λs=>(List.range (g.ae+1)).map λt=>jm g (S.getD s []) (rows.getD s []) t
def eJ(s:Nat)(all:List (List (Nat×Nat)))(n:Nat):List (Nat×Nat×List (Nat×Nat)):=(List.range n).filterMap λt=>if 1<(all.getD t []).length then some (s,t,all.getD t []) else none
def CU(all:List (List (List (Nat×Nat))))(go:List (List Int)):Ef where
 act:=all.map λr=>r.map λl=>l.head?.getD (0,0)
 go:=go
 sB:=((List.range all.length).map λs=>eJ s (all.getD s []) (all.getD s []).length).flatten
noncomputable def dG(g:aj)(method:Nat):Option (List (List aS)×List (List Int)):=
 if method=3 then Mn g else (iT g).map λa=>(kG g a.1 (if method=1 then λ_=>tQ g else ky g a.1 a.2),a.2)
noncomputable def kg(g:aj)(method:Nat):Option Ef:=(dG g method).map λa=>CU (ed g a.1 a.2) (a.2.map (·.drop g.ae))
theorem nH{g:aj}(j:Valid g){method:Nat}{S:List (List aS)}{rows:List (List Int)}(h:dG g method=some (S,rows)):mh g (S.map aH) rows/\oO g (th (S.map aH)) (rl S) (eZ g rows):=by
 unfold dG at h;split at h;{exact⟨(tR h).1,Pp j h⟩};{cases i:iT g with| none=>{rw[i] at h;cases h}| some a=>{obtain⟨I,l⟩:=a;rw[i] at h;have e:=aE h;simp only[Tk] at e;obtain⟨rfl,rfl⟩:=e;rw[wA];refine⟨(fS i).1,?_⟩;split;{exact Px j i};{exact Nn j i}}}
def my:Nat×Nat->Act
 | (1,j)=>.shift j
 | (2,k)=>.red k
 | (3,_)=>.acc
 | _=>.no
def dg(T:Ef)(s t:Nat):Act:=my ((T.act.getD s []).getD t (0,0))
theorem getD_some{α:Type}{l:List α}{i:Nat}{a d:α}(h:l[i]?=some a):l.getD i d=a:=by rw[pf,h];rfl
theorem Ig{g:aj}{S:List (List aS)}{rows go:List (List Int)}{s t:Nat}:dg (CU (ed g S rows) go) s t=if s<S.length/\t<=g.ae then my ((jm g (S.getD s []) (rows.getD s []) t).head?.getD (0,0)) else .no:=by
 unfold dg CU ed;dsimp only;by_cases hs:s<S.length;{have i : (((List.range S.length).map λs => (List.range (g.ae + 1)).map λt => jm g (S.getD s []) (rows.getD s []) t).map λr => r.map λl => l.head?.getD (0, 0))[s]? = some (((List.range (g.ae+1)).map λt=>jm g (S.getD s []) (rows.getD s []) t).map λl=>l.head?.getD (0,0)):=gP (gP (TN hs));rw[getD_some i];by_cases j:t<=g.ae;{rw[n0 ⟨hs,j⟩];rw[getD_some (gP (gP (TN (show t<g.ae+1 by omega))))]};{rw[nw (λh=>j h.2),pf,zE (by simp;omega)];rfl}};{rw[nw (λh=>hs h.1)];have i:∀(L:List (List (Nat×Nat))),L.length=S.length->L.getD s []=[]:=λL o=>by{rw[pf,zE zo];rfl};rw[i _ (by simp)];rfl}
theorem KH{g:aj}{S:List (List aS)}{rows go:List (List Int)}(h:(CU (ed g S rows) go).sB=[]){s t:Nat}(hs:s<S.length)(p:t<=g.ae):(jm g (S.getD s []) (rows.getD s []) t).length<=1:=by
 unfold CU at h;dsimp only at h;have j:(ed g S rows).length=S.length:=by{unfold ed;simp};have o:(ed g S rows).getD s []=(List.range (g.ae+1)).map λt=>jm g (S.getD s []) (rows.getD s []) t:=getD_some (gP (TN hs));rw[List.flatten_eq_nil_iff] at h;have i:=h _ (x6.2 ⟨s,Tz.2 (by rw[j];exact hs),rfl⟩);rw[o] at i;unfold eJ at i;rw[List.filterMap_eq_nil_iff] at i;have l:=i t (Tz.2 (by simp;omega));rw[getD_some (gP (TN (show t<g.ae+1 by omega)))] at l;split at l;{cases l};{omega}
theorem Gw{g:aj}{S:List (List aS)}{rows:List (List Int)}(hA:mh g (S.map aH) rows){s t:Nat}(hs:s<S.length)(ht:t<=g.ae)(p:Nat×Nat) :
  p∈jm g (S.getD s []) (rows.getD s []) t↔(my p≠.no/\(p.1=3->p.2=0))/\Ap g (th (S.map aH)) (rl S) (eZ g rows) s t (my p):=by
 have U:=gE hs;generalize S[s]=st at U;have R:(S.map aH)[s]?=some (aH st):=gP U;obtain⟨row,J⟩:=hA.rowAt R;rw[getD_some U,getD_some J];unfold jm;rw[D1,Vp];have ab:∀j,t<g.ae->(eZ g rows s ⟨true,t⟩=some j↔row[t]?=some (j:Int)):=λj i=>by{unfold eZ;rw[n0 (lM.2 (show cP g.ae g.ay ⟨true,t⟩ from i)),J];dsimp only;rw[show H9 g ⟨true,t⟩=t from rfl];cases hx:row[t]? with| none=>{simp}| some z=>{dsimp only;split;{rename_i hz;constructor;{intro e;have:=aE e;congr 1;omega};{intro e;have:=aE e;congr 1;omega}};{rename_i hz;constructor;{intro e;cases e};{intro e;have:=aE e;omega}}}};constructor;{rintro(h | ⟨⟨z,m⟩,hz,h⟩);{split at h;{rename_i i;split at h;{rename_i j hj;split at h;{rename_i a0;rw[ti.1 h];refine⟨⟨Act.noConfusion,λe=>by cases e⟩,.shift i ((ab _ i).2 (by rw[hj];congr 1;omega))⟩};{cases h}};{cases h}};{cases h}};{dsimp only at h;split at h;{rename_i hc;obtain⟨ac,an⟩:=hc;have ad:z∈aH st:=x6.2 ⟨_,hz,rfl⟩;have af:=hA.ok s _ R z ad;have I:th (S.map aH) s z:=⟨_,R,ad⟩;have o:rl S s z t:=⟨st,m,U,hz,an⟩;rw[cJ,UG] at ac;have l:z.dot=(bL g z.aB).length:=Nat.le_antisymm af.2 ac;obtain⟨Z,zd⟩:=z;dsimp only at l;split at h;{rename_i C;obtain rfl:=aE h;have C:Z<g.rules.length:=C;have hr:=gE C;refine⟨⟨Act.noConfusion,λe=>by cases e⟩,?_⟩;rw[eH hr] at l;subst l;exact .red hr I o};{rename_i C;obtain rfl:=aE h;have ao:Z=g.rules.length:=by{have:=af.1;dsimp only at this C;omega};subst ao;rw[dU] at l;have l:zd=1:=l;subst l;exact⟨⟨Act.noConfusion,λ_=>rfl⟩,.acc I o⟩}};{cases h}}};{rintro⟨⟨ar,h3⟩,h⟩;obtain⟨a,b⟩:=p;generalize hd:my (a,b)=q at h ar;cases h with| @shift s' i P=>{left;rw[n0 i];rw[ab _ i] at P;rw[P];dsimp only;rw[n0 zo];unfold my at hd;split at hd<;>simp_all}| @red k r hr I o=>{right;obtain⟨st2,m,g1,g2,g3⟩:=o;rw[U] at g1;obtain rfl:=aE g1;have hk:=(gS hr).1;refine⟨_,g2,?_⟩;dsimp only;rw[n0 ⟨by rw[cJ];show (bL g k)[r.right.length]?=none;rw[eH hr];exact zE (mc _),g3⟩,n0 hk];unfold my at hd;split at hd<;>simp_all}| acc I o=>{right;obtain⟨st2,m,g1,g2,g3⟩:=o;rw[U] at g1;obtain rfl:=aE g1;refine⟨_,g2,?_⟩;dsimp only;rw[n0 ⟨by rw[cJ];show (bL g g.rules.length)[1]?=none;rw[dU];rfl,g3⟩,nw (UC _)];unfold my at hd;split at hd<;>simp_all}}
theorem Na{g:aj}(hg:Valid g){S:List (List aS)}{rows go:List (List Int)}(hA:mh g (S.map aH) rows)(J:∀s x t,rl S s x t->t<=g.ae)(h:(CU (ed g S rows) go).sB=[]) :
  xK g (th (S.map aH)) (rl S) (eZ g rows) (dg (CU (ed g S rows) go)):=by
 have r:∀a:Act,a≠.no->∃p,my p=a/\(p.1=3->p.2=0):=λa I=>by{cases a with| no=>{exact absurd rfl I}| shift j=>{exact⟨(1,j),rfl,λe=>by cases e⟩}| red k=>{exact⟨(2,k),rfl,λe=>by cases e⟩}| acc=>{exact⟨(3,0),rfl,λ_=>rfl⟩}};have o:∀{s t:Nat} {a:Act},Ap g (th (S.map aH)) (rl S) (eZ g rows) s t a->s<S.length/\t<=g.ae/\a≠.no:=λ{s t a} I=>by{have P:∀{x:Lr},th (S.map aH) s x->s<S.length:=λ{x} ⟨st,l,_⟩=>by{have:=(gS l).1;rw[tj] at this;exact this};cases I with| shift h1 R=>{obtain⟨st,ad,C,_⟩:=hA.goes hg R;have:=(gS C).1;rw[tj] at this;exact⟨this,TC h1,Act.noConfusion⟩}| red h1 R C=>{exact⟨P R,J _ _ _ C,Act.noConfusion⟩}| acc R C=>{exact⟨P R,J _ _ _ C,Act.noConfusion⟩}};constructor;{intro s t a I;obtain⟨hs,ht,i⟩:=o I;obtain⟨p,rfl,C⟩:=r a i;have hm:=(Gw hA hs ht p).2 ⟨⟨i,C⟩,I⟩;have U:=KH h hs ht;rw[Ig,n0 ⟨hs,ht⟩];generalize jm g (S.getD s []) (rows.getD s []) t=L at hm U;match L,hm,U with| [q],hm,_=>{rw[ti.1 hm];rfl}| _::_::_,_,U=>{simp at U}};{intro s t i;rw[Ig] at i ⊢;split at i;{rename_i l;rw[n0 l];have hm:=Gw hA l.1 l.2;generalize jm g (S.getD s []) (rows.getD s []) t=L at hm i;cases L with| nil=>{exact absurd rfl i}| cons q L=>{exact((hm q).1 me).2}};{exact absurd rfl i}}
def Min(g:aj)(w:List Nat)(s:Sym)(T:Tree)(i j:Nat):Prop:=aI g w s T i j/\∀l,aI g w s l i j->T.pre.length<=l.pre.length
inductive PC(g:aj)(w:List Nat):List Sym->List Tree->Nat->Nat->Prop
 | nil {i:Nat}:PC g w [] [] i i
 | cons {s:Sym} {l:List Sym} {t:Tree} {ts:List Tree} {i m j:Nat}:Min g w s t i m->PC g w l ts m j->PC g w (s::l) (t::ts) i j
section
variable {g:aj}{w:List Nat}
theorem PC.of:∀{ts:List Tree} {l:List Sym} {i j:Nat},PC g w l ts i j->aF g w l ts i j
 | _,_,_,_,.nil=>.nil
 | _,_,_,_,.cons h1 o=>.cons h1.1 (PC.of o)
end
mutual
theorem aI.ends{g:aj}{w:List Nat}:∀{t:Tree} {s s':Sym} {i j l:Nat},aI g w s t i j->aI g w s' t i l->j=l
 | .mk _ _ _,_,_,_,_,_,.leaf _,h=>by{generalize p:(-1:Int)=r at h;cases h with| leaf _=>{rfl}| node _ _=>{omega}}
 | .mk _ _ ks,_,_,_,_,_,.node (k:=k) h C,o=>by{generalize p:(k:Int)=r at o;cases o with| leaf _=>{omega}| node _ I=>{exact aF.ends C I}}
theorem aF.ends{g:aj}{w:List Nat}:∀{ts:List Tree} {l p:List Sym} {i j o:Nat},aF g w l ts i j->aF g w p ts i o->j=o
 | [],_,_,_,_,_,.nil,h=>by cases h;rfl
 | t::ts,_,_,_,_,_,.cons h1 r,h=>by{cases h with| cons C I=>{obtain rfl:=aI.ends h1 C;exact aF.ends r I}}
end
mutual
theorem aI.Em{g:aj}{w:List Nat}:∀{t:Tree} {s:Sym} {i j:Nat},aI g w s t i j->vu g w s i j
 | .mk _ _ _,_,_,_,.leaf h=>.term h
 | .mk _ _ ks,_,_,_,.node h l=>.HM (gM h) (aF.Em l)
theorem aF.Em{g:aj}{w:List Nat}:∀{ts:List Tree} {l:List Sym} {i j:Nat},aF g w l ts i j->v7 g w l i j
 | [],_,_,_,.nil=>.nil
 | t::ts,_,_,_,.cons h1 o=>.cons (aI.Em h1) (aF.Em o)
end
theorem Dm:∀{l:List Nat},2<=l.sum->(∃(a:Nat) (x:Nat),l[a]?=some x/\2<=x)\/∃(a b x y:Nat),a<b/\l[a]?=some x/\l[b]?=some y/\1<=x/\1<=y
 | [],h=>by simp at h
 | z::l,h=>by{rw[TL] at h;by_cases o:2<=z;{exact .inl ⟨0,z,rfl,o⟩};{by_cases P:z=0;{rcases Dm (l:=l) zo with ⟨a,x,g,i⟩ | ⟨a,b,x,y,g,i,r,t,C⟩;{exact .inl ⟨a+1,x,g,i⟩};{exact .inr ⟨a+1,b+1,x,y,by omega,i,r,t,C⟩}};{obtain⟨y,I,g⟩:=tN (l:=l) zo;obtain⟨b,J,j⟩:=VI I;exact .inr ⟨0,b+1,z,y,by omega,rfl,by rw[Ug,gE J,j],by omega,g⟩}}}
theorem uH{a b:Nat}(h:1<=a*b):1<=a/\1<=b:=by
 constructor;{rcases Ts a with e | e;{rw[e,Wa] at h;omega};{exact e}};{rcases Ts b with e | e;{rw[e,Nat.mul_zero] at h;omega};{exact e}}
theorem mul_two{a b:Nat}(h:2<=a*b):(2<=a/\1<=b)\/(1<=a/\2<=b):=by
 obtain⟨h1,g⟩:=uH (a:=a) (b:=b) zo;by_cases e:2<=a;{exact .inl ⟨e,g⟩};{obtain rfl:a=1:=by{omega};exact .inr ⟨mc _,by omega⟩}
section
variable {g:aj}{w:List Nat}
theorem wI{f:Sym->Nat->Nat->Nat}(h1:∀s i j,1<=f s i j->∃T,aI g w s T i j)(h2:∀s i j,2<=f s i j->∃T U,T≠U/\aI g w s T i j/\aI g w s U i j) :
  ∀(l:List Sym) (i j:Nat),(1<=fw f l i j->∃ts,aF g w l ts i j)/\(2<=fw f l i j->∃ts p,ts≠p/\aF g w l ts i j/\aF g w l p i j)
 | [],i,j=>by{unfold fw;split;{rename_i e;subst e;exact⟨λ_=>⟨[],.nil⟩,λh=>by omega⟩};{exact⟨λh=>by omega,λh=>by omega⟩}}
 | s::l,i,j=>by{have ih:=wI h1 h2 l;unfold fw;have I:∀{a x:Nat},((List.range (j+1)).map λm=>f s i m*fw f l m j)[a]?=some x->x=f s i a*fw f l a j:=λ{a x} h=>by{rw[zy] at h;cases hm:(List.range (j+1))[a]? with| none=>{rw[hm] at h;cases h}| some m=>{rw[hm] at h;have J:=gS hm;obtain⟨J,t⟩:=J;rw[VN] at t;subst t;exact(aE h).symm}};constructor;{intro h;obtain⟨x,hx,J⟩:=tN h;obtain⟨m,_,rfl⟩:=x6.1 hx;obtain⟨t,P⟩:=uH J;obtain⟨T,hT⟩:=h1 _ _ _ t;obtain⟨ts,o⟩:=(ih m j).1 P;exact⟨T::ts,.cons hT o⟩};{intro h;rcases Dm h with ⟨a,x,J,t⟩ | ⟨a,b,x,y,J,t,P,h6,h7⟩;{rw[I J] at t;rcases mul_two t with ⟨P,h6⟩ | ⟨P,h6⟩;{obtain⟨T,U,R,hT,C⟩:=h2 _ _ _ P;obtain⟨ts,o⟩:=(ih a j).1 h6;exact⟨T::ts,U::ts,λe=>R (TR e),.cons hT o,.cons C o⟩};{obtain⟨T,hT⟩:=h1 _ _ _ P;obtain⟨ts,p,R,o,r⟩:=(ih a j).2 h6;exact⟨T::ts,T::p,λe=>R (Vm e),.cons hT o,.cons hT r⟩}};{rw[I t] at h6;rw[I P] at h7;obtain⟨a1,a2⟩:=uH h6;obtain⟨b1,b2⟩:=uH h7;obtain⟨T,hT⟩:=h1 _ _ _ a1;obtain⟨ts,o⟩:=(ih a j).1 a2;obtain⟨U,C⟩:=h1 _ _ _ b1;obtain⟨p,r⟩:=(ih b j).1 b2;refine⟨T::ts,U::p,λe=>?_,.cons hT o,.cons C r⟩;have e:=TR e;subst e;have:=hT.ends C;omega}}}
theorem oD:∀(d:Nat) (s:Sym) (i j:Nat),(1<=fm g w d s i j->∃T,aI g w s T i j)/\(2<=fm g w d s i j->∃T T',T≠T'/\aI g w s T i j/\aI g w s T' i j)
 | 0,s,i,j=>⟨λh=>absurd h (by show ¬1<=0;omega),λh=>absurd h (by show ¬2<=0;omega)⟩
 | d+1,⟨b,n⟩,i,j=>by{have J:=wI (g:=g) (w:=w) (f:=fm g w d) (λs i j=>(oD d s i j).1) (λs i j=>(oD d s i j).2);unfold fm;cases b with| true=>{rw[n0 rfl];split;{rename_i h;obtain⟨h,rfl⟩:=h;exact⟨λ_=>⟨_,.leaf h⟩,λh=>by omega⟩};{exact⟨λh=>by omega,λh=>by omega⟩}}| false=>{rw[nw (by simp)];have t:∀{a x:Nat},(g.rules.map λr=>if r.left=n then fw (fm g w d) r.right i j else 0)[a]?=some x->1<=x->∃r,g.rules[a]?=some r/\r.left=n/\x=fw (fm g w d) r.right i j:=λ{a x} h hx=>by{rw[zy] at h;cases hm:g.rules[a]? with| none=>{rw[hm] at h;cases h}| some r=>{rw[hm] at h;have h:=aE h;dsimp only at h;split at h;{rename_i P;exact⟨r,rfl,P,h.symm⟩};{omega}}};constructor;{intro h;obtain⟨x,hx,I⟩:=tN h;obtain⟨a,ha,R⟩:=VI hx;obtain⟨r,C,rfl,rfl⟩:=t (by rw[gE ha,R]) I;obtain⟨ts,l⟩:=(J r.right i j).1 I;exact⟨_,.node C l⟩};{intro h;rcases Dm h with ⟨a,x,I,U⟩ | ⟨a,b,x,y,I,U,h5,h6,h7⟩;{obtain⟨r,C,rfl,rfl⟩:=t I zo;obtain⟨ts,aa,ab,l,o⟩:=(J r.right i j).2 U;exact⟨_,_,λe=>ab (by simpa using e),.node C l,.node C o⟩};{obtain⟨r,C,P,rfl⟩:=t U h6;obtain⟨r',ac,ad,rfl⟩:=t h5 h7;obtain⟨ts,l⟩:=(J r.right i j).1 h6;obtain⟨aa,o⟩:=(J r'.right i j).1 h7;have t1:=aI.node C l;have t2:=aI.node ac o;rw[P] at t1;rw[ad] at t2;refine⟨_,_,λe=>?_,t1,t2⟩;simp only[Tree.mk.injEq] at e;omega}}}}
theorem zI{c:Int}(I:j7 (λd=>fm g w d ⟨false,g.start⟩ 0 w.length) c)(hu:∀T i,aI g w ⟨false,g.start⟩ T 0 w.length->aI g w ⟨false,g.start⟩ i 0 w.length->T=i) :
  ((∃T,aI g w ⟨false,g.start⟩ T 0 w.length)->c=1)/\((¬∃T,aI g w ⟨false,g.start⟩ T 0 w.length)->c=0):=by
 have hle:∀d,fm g w d ⟨false,g.start⟩ 0 w.length<=1:=λd=>by{rcases IN 1 (fm g w d ⟨false,g.start⟩ 0 w.length) with h | h;{obtain⟨T,i,j,h1,o⟩:=(oD d _ _ _).2 h;exact absurd (hu T i h1 o) j};{exact h}};have r:dV=1000000000:=rfl;rcases I with ⟨n,⟨D,t⟩,rfl⟩ | ⟨J,_⟩;{have P:=t D (mc _);dsimp only at P;have R:=hle D;constructor;{rintro⟨T,hT⟩;obtain⟨d,C⟩:=Ew hT.Em;have h1:=t (max D d) zo;dsimp only at h1;have o:=DX g w (show d<=max D d by omega) ⟨false,g.start⟩ 0 w.length;have:n=1:=by{omega};subst this;rw[r];decide};{intro l;have:n=0:=by{rcases Ts n with e | e;{exact e};{exact absurd ((oD (g:=g) (w:=w) D _ _ _).1 zo) l}};subst this;rw[r];decide}};{obtain⟨d,C⟩:=J 2;have:=hle d;dsimp only at C;omega}
end
end Go.Proofs.D