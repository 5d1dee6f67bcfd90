/-
  Walks: what functions of the program do, over the abstract machine.
-/
import Derived.Test.YtmbdmfjijofmmaaGreatDoorWk5
set_option linter.unusedVariables false
set_option maxRecDepth 20000
set_option maxHeartbeats 0
open Go Go.Abs Go.Proofs Go.Proofs.D
set_option linter.unusedVariables false
namespace Bd
section
variable {R:List Ru}{s0:Nat}{ws:List (List Nat)}
def dB(R:List Ru)(s0:Nat)(Q:List Nat->Prop)(φ:List Nat->List Nat)(L:List Nat)(K:Nat):Prop:=
 ∃c:List Nat->Nat,(∀u,Q u->c u<K)/\∀u v,Q u->Q v->c u=c v->∀n∈L,(Pd R s0 (φ u) n↔Pd R s0 (φ v) n)
theorem dB.mono{Q:List Nat->Prop}{φ:List Nat->List Nat}{L:List Nat}{K J:Nat}(h:dB R s0 Q φ L K)(hk:K<=J):dB R s0 Q φ L J:=by
 obtain⟨c,h1,h2⟩:=h;exact⟨c,λw hw=>Sc (h1 w hw) hk,h2⟩
theorem dB.inf{Q:List Nat->Prop}{φ:List Nat->List Nat}{L:List Nat}{K J:Nat}(h:dB R s0 Q φ L K)(h':dB R s0 Q φ L J):dB R s0 Q φ L (min K J):=by
 rcases Tw K J with e | e
 ·rw[Se e];exact h
 ·rw[Tc e];exact h'
theorem kF.at{Q Q':List Nat->Prop}{φ:List Nat->List Nat}{L:List Nat}{K:Nat}(h:kF R s0 Q' L K)(hq:∀u,Q u->Q' (φ u)):dB R s0 Q φ L K:=by
 obtain⟨c,h1,h2⟩:=h;exact⟨λu=>c (φ u),λu hu=>h1 _ (hq u hu),λu v hu hv e=>h2 _ _ (hq u hu) (hq v hv) e⟩
theorem er(Q:List Nat->Prop)(φ:List Nat->List Nat)(L:List Nat):dB R s0 Q φ L (2 ^ L.length):=
 (rq (λ_=>True) L).at λ_ _=>trivial
theorem kz{Q:List Nat->Prop}{φ:List Nat->List Nat}{L:List Nat}(h:∀u,Q u->Ne R s0 L (φ u)):dB R s0 Q φ L (2 ^ L.length-1):=
 (jZ (Q:=λw=>Ne R s0 L w) λ_ h=>h).at h
theorem oC{Q:List Nat->Prop}{φ:List Nat->List Nat}{L M:List Nat}(hM:M.Nodup)(hL:L.Nodup)(hs:∀n∈M,n∈L)(h:∀u,Q u->Ne R s0 M (φ u)) :
  dB R s0 Q φ L ((2 ^ M.length-1)*2 ^ (L.length-M.length)):=
 (vx (Q:=λw=>Ne R s0 M w) hM hL hs λ_ h=>h).at h
def Dy(s:Nat):Bool:=Nat.ble 3 s
def FT(R:List Ru)(y:Nat):List Ru:=R.filter λr=>match r.2 with | a::b::_=>a==y&&Dy b | _=>false
def Fm(R:List Ru)(x y:Nat):List Ru:=R.filter λr=>match r.2 with | a::b::c::_=>a==x&&(b==y&&Dy c) | _=>false
def GC(R:List Ru)(y:Nat):List Ru:=R.filter λr=>match r.2 with | _::b::c::_=>b==y&&Dy c | _=>false
theorem HP(m:Nat):Dy (3+m)=true:=by unfold Dy;rw[SQ];omega
theorem Jn{y m:Nat}{l:List Nat}{r:Ru}(h:r∈R)(e:r.2=y::(3+m)::l):r∈FT R y:=by
 unfold FT;rw[Ra,e];exact⟨h,by simp[HP]⟩
theorem Mo{x y m:Nat}{l:List Nat}{r:Ru}(h:r∈R)(e:r.2=x::y::(3+m)::l):r∈Fm R x y:=by
 unfold Fm;rw[Ra,e];exact⟨h,by simp[HP]⟩
theorem Md{x y m:Nat}{l:List Nat}{r:Ru}(h:r∈R)(e:r.2=x::y::(3+m)::l):r∈GC R y:=by
 unfold GC;rw[Ra,e];exact⟨h,by simp[HP]⟩
theorem EZ{y x:Nat}{u v:List Nat}(hF:∀r∈FT R y,Pd R s0 (x::u) r.1->Pd R s0 (x::v) r.1)
  (hG:∀r∈Fm R x y,Pd R s0 u r.1->Pd R s0 v r.1):∀m,Pd R s0 (y::x::u) m->Pd R s0 (y::x::v) m:=by
 intro m h;generalize e:y::x::u=W at h
 induction h with
 | start=>cases e
 | one hr e2 hp _=>
  simp only[Rv] at e;obtain⟨rfl,rfl⟩:=e;exact .one hr e2 (hF _ (Jn hr e2) hp)
 | two hr e2 hp _=>
  simp only[Rv] at e;obtain⟨rfl,rfl,rfl⟩:=e;exact .two hr e2 (hG _ (Mo hr e2) hp)
 | wM hp hr e2 ih=>exact .wM (ih e) hr e2
theorem rV(Q:List Nat->Prop)(x y:Nat)(L:List Nat):dB R s0 Q (λu=>y::x::u) L (2 ^ ((FT R y).length+(Fm R x y).length)):=by
 refine⟨λu=>bits (λr=>Pd R s0 (x::u) r.1) (FT R y)*2 ^ (Fm R x y).length+bits (λr=>Pd R s0 u r.1) (Fm R x y),λu _=>?_,λu v _ _ e n _=>?_⟩
 ·rw[Tj];exact eX (cN _ _) (cN _ _)
 ·obtain⟨e1,e2⟩:=dR (cN _ _) (cN _ _) e;have k1:=eE e1;have k2:=eE e2;exact⟨EZ (λr hr=>(k1 r hr).1) (λr hr=>(k2 r hr).1) n,EZ (λr hr=>(k1 r hr).2) (λr hr=>(k2 r hr).2) n⟩
theorem AV{x:Nat}{u v:List Nat}(hF:∀r∈FT R x,Pd R s0 v r.1)
  (hG:∀r∈GC R x,FB R s0 (x::u) r->FB R s0 (x::v) r):∀m,Pd R s0 (x::u) m->Pd R s0 (x::v) m:=by
 intro m h;generalize e:x::u=W at h
 induction h with
 | start=>cases e
 | one hr e2 hp _=>
  simp only[Rv] at e;obtain⟨rfl,rfl⟩:=e;exact .one hr e2 (hF _ (Jn hr e2))
 | two hr e2 hp _=>
  simp only[Rv] at e;obtain⟨rfl,rfl⟩:=e;have k:=hG _ (Md hr e2) ⟨⟨_,e2⟩,hp⟩
  match v,k with
  | y'::v,⟨⟨l',e3⟩,hp'⟩=>
   rw[e2] at e3;simp only[Rv] at e3;obtain⟨rfl,_⟩:=e3;exact .two hr e2 hp'
 | wM hp hr e2 ih=>exact .wM (ih e) hr e2
theorem wH{Q:List Nat->Prop}{x:Nat}(hF:∀u,Q u->∀r∈FT R x,Pd R s0 u r.1)(L:List Nat):dB R s0 Q (λu=>x::u) L (2 ^ (GC R x).length):=by
 refine⟨λu=>bits (FB R s0 (x::u)) (GC R x),λu _=>cN _ _,λu v hu hv e n _=>?_⟩;have k:=eE e;exact⟨AV (hF v hv) (λr hr=>(k r hr).1) n,AV (hF u hu) (λr hr=>(k r hr).2) n⟩
def Cr(y M:Nat)(r:Ru):Bool:=match r.2 with | a::b::_=>a==y&&b==3+M | _=>false
def M5(y M:Nat)(r:Ru):Bool:=match r.2 with | _::b::c::_=>b==y&&c==3+M | _=>false
def sG(y M:Nat)(r:Ru):Bool:=match r.2 with | a::b::c::_=>!Dy a&&(b==y&&c==3+M) | _=>false
def Sd(R:List Ru)(y:Nat):List Nat:=(List.range 4).filter λM=>R.any λr=>Cr y M r||M5 y M r
def lF(R:List Ru)(y:Nat):List Nat:=(List.range 4).filter λM=>R.any λr=>Cr y M r||sG y M r
theorem Ec(ok:lQ R){y n:Nat}{u:List Nat}(h:Pd R s0 (y::u) n):∃m∈Sd R y,Pd R s0 (y::u) m/\∀w,Pd R s0 w m->Pd R s0 w n:=by
 generalize e:y::u=W at h
 induction h with
 | start=>cases e
 | @one z m w l r hr e2 hp _=>
  simp only[Rv] at e;obtain⟨rfl,rfl⟩:=e;refine⟨m,?_,.one hr e2 hp,λw h=>h⟩;unfold Sd;rw[Ra,Rm];have:=ok.sym r hr (3+m) (by rw[e2];simp);refine⟨by omega,?_⟩;rw[RZ];exact⟨r,hr,by unfold Cr;rw[e2];simp⟩
 | @two y' z m w l r hr e2 hp _=>
  simp only[Rv] at e;obtain⟨rfl,rfl⟩:=e;refine⟨m,?_,.two hr e2 hp,λw h=>h⟩;unfold Sd;rw[Ra,Rm];have:=ok.sym r hr (3+m) (by rw[e2];simp);refine⟨by omega,?_⟩;rw[RZ];exact⟨r,hr,by unfold M5;rw[e2];simp⟩
 | wM hp hr e2 ih=>
  obtain⟨m,h1,h2,h3⟩:=ih e;exact⟨m,h1,h2,λw h=>.wM (h3 w h) hr e2⟩
theorem Im(ok:lQ R){y x n:Nat}(hx:x<3){u:List Nat}(h:Pd R s0 (y::x::u) n):∃m∈lF R y,Pd R s0 (y::x::u) m/\∀w,Pd R s0 w m->Pd R s0 w n:=by
 generalize e:y::x::u=W at h
 induction h with
 | start=>cases e
 | @one z m w l r hr e2 hp _=>
  simp only[Rv] at e;obtain⟨rfl,rfl⟩:=e;refine⟨m,?_,.one hr e2 hp,λw h=>h⟩;unfold lF;rw[Ra,Rm];have:=ok.sym r hr (3+m) (by rw[e2];simp);refine⟨by omega,?_⟩;rw[RZ];exact⟨r,hr,by unfold Cr;rw[e2];simp⟩
 | @two y' z m w l r hr e2 hp _=>
  simp only[Rv] at e;obtain⟨rfl,rfl,rfl⟩:=e;refine⟨m,?_,.two hr e2 hp,λw h=>h⟩;unfold lF;rw[Ra,Rm];have:=ok.sym r hr (3+m) (by rw[e2];simp);refine⟨by omega,?_⟩;rw[RZ];refine⟨r,hr,?_⟩;unfold sG;rw[e2];have:Dy x=false:=by
   unfold Dy;rw[Sn];intro h;rw[SQ] at h;omega
  simp[this]
 | wM hp hr e2 ih=>
  obtain⟨m,h1,h2,h3⟩:=ih e;exact⟨m,h1,h2,λw h=>.wM (h3 w h) hr e2⟩
theorem yE{Q:List Nat->Prop}{φ:List Nat->List Nat}(T L:List Nat)(h:∀u,Q u->∀n,Pd R s0 (φ u) n->∃m∈T,Pd R s0 (φ u) m/\∀w,Pd R s0 w m->Pd R s0 w n) :
  dB R s0 Q φ L (2 ^ T.length):=by
 refine⟨λu=>bits (Pd R s0 (φ u)) T,λu _=>cN _ _,λu v hu hv e n _=>?_⟩;have k:=eE e;constructor
 ·intro hn;obtain⟨m,h1,h2,h3⟩:=h u hu n hn;exact h3 _ ((k m h1).1 h2)
 ·intro hn;obtain⟨m,h1,h2,h3⟩:=h v hv n hn;exact h3 _ ((k m h1).2 h2)
theorem DK{Q:List Nat->Prop}{φ:List Nat->List Nat}(T L:List Nat)(h:∀u,Q u->∀n,Pd R s0 (φ u) n->∃m∈T,Pd R s0 (φ u) m/\∀w,Pd R s0 w m->Pd R s0 w n)
  (hq:∀u,Q u->∃n,Pd R s0 (φ u) n):dB R s0 Q φ L (2 ^ T.length-1):=by
 have pos:∀u,Q u->0<bits (Pd R s0 (φ u)) T:=λu hu=>by
  obtain⟨n,hn⟩:=hq u hu;obtain⟨m,h1,h2,_⟩:=h u hu n hn;exact gW h1 h2
 refine⟨λu=>bits (Pd R s0 (φ u)) T-1,λu hu=>?_,λu v hu hv e n _=>?_⟩
 ·have:=pos u hu;have:=cN (Pd R s0 (φ u)) T;show bits (Pd R s0 (φ u)) T-1<_;omega
 ·have e:bits (Pd R s0 (φ u)) T-1=bits (Pd R s0 (φ v)) T-1:=e;have:=pos u hu;have:=pos v hv;have k:=eE (show bits (Pd R s0 (φ u)) T=bits (Pd R s0 (φ v)) T by omega);constructor
  ·intro hn;obtain⟨m,h1,h2,h3⟩:=h u hu n hn;exact h3 _ ((k m h1).1 h2)
  ·intro hn;obtain⟨m,h1,h2,h3⟩:=h v hv n hn;exact h3 _ ((k m h1).2 h2)
theorem Ah(ok:lQ R)(Q:List Nat->Prop)(ψ:List Nat->List Nat)(y:Nat)(L:List Nat):dB R s0 Q (λu=>y::ψ u) L (2 ^ (Sd R y).length):=
 yE _ _ λu _ n hn=>Ec ok hn
theorem Kv(ok:lQ R){Q:List Nat->Prop}(ψ:List Nat->List Nat)(y:Nat)(L:List Nat)(hq:∀u,Q u->∃n,Pd R s0 (y::ψ u) n):dB R s0 Q (λu=>y::ψ u) L (2 ^ (Sd R y).length-1):=
 DK _ _ (λu _ n hn=>Ec ok hn) hq
theorem Ei(ok:lQ R)(Q:List Nat->Prop)(ψ:List Nat->List Nat){x:Nat}(hx:x<3)(y:Nat)(L:List Nat):dB R s0 Q (λu=>y::x::ψ u) L (2 ^ (lF R y).length):=
 yE _ _ λu _ n hn=>Im ok hx hn
def Q2(R:List Ru)(s0 z y:Nat)(u:List Nat):Prop:=∃r∈R,I2 R s0 (z::y::u) r
def Q3(R:List Ru)(s0 z y x:Nat)(u:List Nat):Prop:=∃r∈R,I3 R s0 (z::y::x::u) r
theorem bJ.c2(G:bJ R s0 ws){z y K J:Nat}(h:dB R s0 (Q2 R s0 z y) (λu=>u) (Lf R [y,z]) K)(h':dB R s0 (Q2 R s0 z y) (λu=>y::u) (Lf R [z]) J) :
  (dw R s0 ws [z,y]).length<=K*J:=by
 obtain⟨c,c1,c2⟩:=h;obtain⟨d,d1,d2⟩:=h';refine G.HY (λu=>c u*J+d u) (λu hu=>eX (c1 u hu) (d1 u hu)) (λu v hu hv e=>?_);obtain⟨e1,e2⟩:=dR (d1 u hu) (d1 v hv) e;exact⟨d2 u v hu hv e2,c2 u v hu hv e1⟩
theorem bJ.c3(G:bJ R s0 ws){z y x K J I:Nat}(h:dB R s0 (Q3 R s0 z y x) (λu=>u) (Lf R [x,y,z]) K)
  (h1:dB R s0 (Q3 R s0 z y x) (λu=>x::u) (Lf R [y,z]) J) (h2:dB R s0 (Q3 R s0 z y x) (λu=>y::x::u) (Lf R [z]) I):(dw R s0 ws [z,y,x]).length<=K*J*I:=by
 obtain⟨c,c1,c2⟩:=h;obtain⟨d,d1,d2⟩:=h1;obtain⟨f,f1,f2⟩:=h2;refine G.zL (λu=>(c u*J+d u)*I+f u) (λu hu=>eX (eX (c1 u hu) (d1 u hu)) (f1 u hu)) (λu v hu hv e=>?_);obtain⟨e1,e2⟩:=dR (f1 u hu) (f1 v hv) e;obtain⟨e3,e4⟩:=dR (d1 u hu) (d1 v hv) e1;exact⟨f2 u v hu hv e2,d2 u v hu hv e4,c2 u v hu hv e3⟩
theorem bJ.OI(G:bJ R s0 ws){z y x K J:Nat}(h:dB R s0 (Q3 R s0 z y x) (λu=>u) (Lf R [x,y]) K)
  (h1:dB R s0 (Q3 R s0 z y x) (λu=>x::u) (Lf R [y]) J):(dw R s0 ws [z,y,x]).length<=K*J:=by
 obtain⟨c,c1,c2⟩:=h;obtain⟨d,d1,d2⟩:=h1;refine G.zL (λu=>c u*J+d u) (λu hu=>eX (c1 u hu) (d1 u hu)) (λu v hu hv e=>?_);obtain⟨e1,e2⟩:=dR (d1 u hu) (d1 v hv) e;have a0:=c2 u v hu hv e1;have a1:=d2 u v hu hv e2;exact⟨λn _=>yW G.ok a1 a0 n,λn hn=>a1 n (fq (p:=[y]) (q:=[z]) hn),λn hn=>a0 n (fq (p:=[x,y]) (q:=[z]) hn)⟩
theorem Om(ok:lQ R){v n:Nat}{t:List Nat}(h:Pd R s0 (v::t) n):v<7:=by
 generalize e:v::t=W at h
 induction h with
 | start=>cases e
 | one hr e2 hp _=>
  simp only[Rv] at e;obtain⟨rfl,rfl⟩:=e;exact ok.sym _ hr _ (by rw[e2];simp)
 | two hr e2 hp _=>
  simp only[Rv] at e;obtain⟨rfl,rfl⟩:=e;exact ok.sym _ hr _ (by rw[e2];simp)
 | wM hp hr e2 ih=>exact ih e
theorem bJ.QF(G:bJ R s0 ws){z y:Nat}{K J:Nat->Nat}(h:∀v,v<7->dB R s0 (λt=>Q2 R s0 z y (v::t)) (λt=>v::t) (Lf R [y,z]) (K v))
  (h':∀v,v<7->dB R s0 (λt=>Q2 R s0 z y (v::t)) (λt=>y::v::t) (Lf R [z]) (J v)) :
  (dw R s0 ws [z,y]).length<=1+sm λv=>K v*J v:=by
 have key:∀w∈dw R s0 ws [z,y],∃u,w=z::y::u/\(∀r∈R,¬I3 R s0 w r)/\Q2 R s0 z y u:=by
  intro w hw;obtain⟨h1,h2⟩:=iZ.1 hw;obtain⟨⟨u,rfl⟩,h3,h4⟩:=uC (G.live _ h1) h2;exact⟨u,rfl,h3,h4⟩
 have hp:=parts (λw:List Nat=>w.tail.tail.take 1) mK (dw R s0 ws [z,y]) (λw hw=>by
  obtain⟨u,rfl,_,r,hr,hi⟩:=key w hw;unfold mK
  match u,hi with
  | [],_=>exact Rl ..
  | v::t,⟨_,hi⟩=>exact I9 _ (Rg.2 ⟨v,Rm.2 (Om G.ok hi),by simp⟩))
 refine AI hp ?_;unfold mK;rw[Na,Sy,S3,gD];have hd:(dw R s0 ws [z,y]).Pairwise λa b=>¬o6 R s0 a b:=R1 _ G.diff;refine Rr ?_ (gf λv hv=>?_)
 ·refine nJ (P:=o6 R s0) (λ_=>0) 1 _ (R1 _ hd) (λw hw=>by simp) (λa ha b hb _=>?_);have e:∀w,w∈(dw R s0 ws [z,y]).filter (λw=>w.tail.tail.take 1=[])->w=[z,y]:=λw hw=>by
   rw[Ra] at hw;obtain⟨u,rfl,_⟩:=key w hw.1;have:=hw.2;cases u with
   | nil=>rfl
   | cons v t=>simp at this
  rw[e a ha,e b hb];exact λr _=>⟨Iff.rfl,Iff.rfl,Iff.rfl⟩
 ·obtain⟨c,c1,c2⟩:=h v hv;obtain⟨d,d1,d2⟩:=h' v hv;have key2:∀w,w∈(dw R s0 ws [z,y]).filter (λw=>w.tail.tail.take 1=[v])->∃t,w=z::y::v::t/\(∀r∈R,¬I3 R s0 w r)/\Q2 R s0 z y (v::t):=λw hw=>by
   rw[Ra] at hw;obtain⟨u,rfl,h3,h4⟩:=key w hw.1;have e:=hw.2;cases u with
   | nil=>simp at e
   | cons v' t=>
    simp only[List.tail_cons,List.take,RS,Rv,Ui] at e;subst e;exact⟨t,rfl,h3,h4⟩
  refine nJ (P:=o6 R s0) (λw=>c w.tail.tail.tail*J v+d w.tail.tail.tail) (K v*J v) _ (R1 _ hd) (λw hw=>?_) (λa ha b hb e=>?_)
  ·obtain⟨t,rfl,_,hq⟩:=key2 w hw;exact eX (c1 t hq) (d1 t hq)
  ·obtain⟨t,rfl,a3,hq⟩:=key2 a ha;obtain⟨t',rfl,b3,hq'⟩:=key2 b hb;obtain⟨e1,e2⟩:=dR (d1 t hq) (d1 t' hq') e;exact Hl G.ok (d2 t t' hq hq' e2) (c2 t t' hq hq' e1) a3 b3
theorem bJ.M1(G:bJ R s0 ws)(z y:Nat){K:Nat}{A B:Nat->Nat}(h1:kF R s0 (QE R s0 y (Lf R [y])) (Lf R [y]) K)
  (h2:∀x,x<7->dB R s0 (Q2 R s0 y x) (λu=>u) (Lf R [x,y]) (A x)) (h3:∀x,x<7->dB R s0 (Q2 R s0 y x) (λu=>x::u) (Lf R [y]) (B x)) :
  (EH R s0 ws z y).length<=K+sm λx=>A x*B x:=by
 have hp:=parts (ahead R s0) mK (EH R s0 ws z y) (λw hw=>by
  obtain⟨_,⟨u,rfl⟩,_⟩:=qy hw;unfold ahead mK;split
  ·rename_i h;obtain⟨r,hr,hi⟩:=h
   match u,hi with
   | x::u,⟨⟨l,e⟩,_⟩=>
    exact I9 _ (Rg.2 ⟨x,Rm.2 (G.ok.sym r hr x (by rw[e];simp)),by simp⟩)
  ·exact Rl ..)
 refine AI hp ?_;unfold mK;rw[Na,Sy,S3,gD];have hd:(EH R s0 ws z y).Pairwise λa b=>¬o6 R s0 a b:=R1 _ G.diff;refine Rr ?_ (gf λx hx=>?_)
 ·exact NU
 ·obtain⟨c,c1,c2⟩:=h2 x hx;obtain⟨d,d1,d2⟩:=h3 x hx;have key:∀w∈(EH R s0 ws z y).filter (λw=>ahead R s0 w=[x]),∃u,w=z::y::x::u/\Q2 R s0 y x u:=by
   intro w hw;rw[Ra] at hw;obtain⟨hw,ha⟩:=hw;obtain⟨_,⟨u,rfl⟩,hi⟩:=qy hw;have ha:ahead R s0 (z::y::u)=[x]:=by simpa using ha
   unfold ahead at ha;split at ha
   ·rename_i h;obtain⟨r,hr,hi2⟩:=h
    match u,hi2 with
    | x'::u,hi2=>
     simp only[List.tail_cons,List.take,Rv,Ui] at ha;subst ha;exact⟨u,rfl,r,hr,hi2⟩
   ·cases ha
  refine nJ (P:=o6 R s0) (λw=>c w.tail.tail.tail*B x+d w.tail.tail.tail) (A x*B x) _ (R1 _ hd) (λw hw=>?_) (λa ha b hb e=>?_)
  ·obtain⟨u,rfl,hq⟩:=key w hw;exact eX (c1 u hq) (d1 u hq)
  ·obtain⟨u,rfl,hq⟩:=key a ha;obtain⟨v,rfl,hq'⟩:=key b hb;obtain⟨e1,e2⟩:=dR (d1 u hq) (d1 v hq') e;have a0:=c2 u v hq hq' e1;have a1:=d2 u v hq hq' e2;exact JG G.ok (λn _=>yW G.ok a1 a0 n) (λn hn=>a1 n (fq (p:=[y]) (q:=[z]) hn)) (λn hn=>a0 n (fq (p:=[x,y]) (q:=[z]) hn))
end
end Bd
set_option linter.unusedVariables false
namespace Bd
def kC(K C H:Nat)(p:Nat->Nat)(z:Nat):Nat:=if z=H then min (min (2 ^ min 4 (p z)) K) C else min (2 ^ min 4 (p z)) K
def mR(K:Nat)(n:Nat):Nat:=min (2 ^ min 4 n-1) (K-1)
def nh(K C H:Nat)(p:Nat->Nat)(z:Nat):Nat:=if z=H then min (mR K (p z)) C else mR K (p z)
def gR(K C H:Nat)(p:Nat->Nat)(b:Nat->Nat->Nat)(x y:Nat):Nat:=min (kC K C H p y) (2 ^ (p x-b x y+sm λw=>b w x))
def kV(K C H:Nat)(b:Nat->Nat->Nat)(y z:Nat):Nat:=if y=H then min (min (2 ^ min 4 (b y z)) K) C else min (2 ^ min 4 (b y z)) K
def Ln(K:Nat)(b t:Nat):Nat:=min (2 ^ min 4 b-2 ^ (min 4 b-min 4 t)) (K-1)
def vN(K C H:Nat)(p:Nat->Nat)(b:Nat->Nat->Nat)(t:Nat->Nat->Nat->Nat)(x y z:Nat):Nat:=
 min (mR K (t x y z)*kV K C H b y z*kC K C H p z) (Ln K (b x y) (t x y z)*gR K C H p b x y)
def vX(K C H:Nat)(p:Nat->Nat)(b:Nat->Nat->Nat)(y:Nat):Nat:=nh K C H p y+sm λx=>mR K (b x y)*gR K C H p b x y
def dF(K C H:Nat)(p:Nat->Nat)(b:Nat->Nat->Nat)(t:Nat->Nat->Nat->Nat):Nat:=
 sm (nh K C H p)+sm λy=>sm λz=>min (mR K (b y z)*gR K C H p b y z+sm λx=>vN K C H p b t x y z) (vX K C H p b y)
section
variable {R:List Ru}{s0:Nat}{ws:List (List Nat)}
theorem Dw(R:List Ru)(p:List Nat):2 ^ (Lf R p).length<=2 ^ min 4 (cn R p):=
 Rz zo (by have:=de R p;have:=dV R p;omega)
theorem EV:∀l,l<5->∀t,t<5->t<=l->(2 ^ t-1)*2 ^ (l-t)=2 ^ l-2 ^ (l-t):=by decide
theorem E8:∀l t l' t':Fin 5,t.1<=l.1->t'.1<=l'.1->l.1<=l'.1->t.1<=t'.1->2 ^ l.1-2 ^ (l.1-t.1)<=2 ^ l'.1-2 ^ (l'.1-t'.1):=by decide
theorem Bg(l:Nat)(h1:l<5)(t:Nat)(h2:t<5)(l':Nat)(h3:l'<5)(t':Nat)(h4:t'<5)(h5:t<=l)(h6:t'<=l')(h7:l<=l')(h8:t<=t') :
  2 ^ l-2 ^ (l-t)<=2 ^ l'-2 ^ (l'-t'):=E8 ⟨l,h1⟩ ⟨t,h2⟩ ⟨l',h3⟩ ⟨t',h4⟩ h5 h6 h7 h8
theorem KA(R:List Ru)(x y:Nat):(wV R x y).length<=cn R [x]-cn R [x,y]:=by
 have h:(wV R x y).length+cn R [x,y]=cn R [x]:=by
  unfold wV cn;rw[RR,RR]
  induction R with
  | nil=>simp
  | cons r R ih=>
   simp only[Ud];have himp:[x,y].isPrefixOf r.2=true->[x].isPrefixOf r.2=true:=by
    rw[RW,RW];exact λh=>(T3 [x] [y]).trans h
   cases h1:[x].isPrefixOf r.2<;>cases h2:[x,y].isPrefixOf r.2<;>simp at ih ⊢<;>simp[h1,h2] at himp<;>omega
 omega
theorem EK(ok:lQ R)(x:Nat):(xg R x).length<=sm λw=>cn R [w,x]:=by
 have h:∀(R:List Ru),(∀r∈R,∀s∈r.2,s<7)->(xg R x).length<=sm λw=>cn R [w,x]:=by
  intro R hs;unfold xg
  induction R with
  | nil=>simp
  | cons r R ih=>
   have ih:=ih (λr hr=>hs r (I9 _ hr));have e:∀w,cn (r::R) [w,x]=cn R [w,x]+if [w,x].isPrefixOf r.2 then 1 else 0:=λw=>by
    unfold cn;rw[Tm]
   simp only[e,pV,Ud];split
   ·rename_i h1;rw[RW] at h1;have:1<=sm λw=>if [w,x].isPrefixOf r.2 then 1 else 0:=by
     obtain⟨l,e2⟩:=h1;cases hr2:r.2 with
     | nil=>rw[hr2] at e2;simp at e2
     | cons w l'=>
      have hw:w<7:=hs r me w (by rw[hr2];exact Rl ..);rw[hr2] at e2;simp only[List.tail_cons] at e2;have e3:[w,x].isPrefixOf (w::l')=true:=by
       rw[RW,<-e2];exact⟨l,rfl⟩
      have:w=0\/w=1\/w=2\/w=3\/w=4\/w=5\/w=6:=by omega
      simp only[sm];rcases this with rfl | rfl | rfl | rfl | rfl | rfl | rfl<;>rw[If e3]<;>omega
    simp only[RG];omega
   ·omega
 exact h R ok.sym
theorem bJ.dF(G:bJ R s0 ws){M K C:Nat}(hM:M<4)(hK:8+2 ^ (Ot R M).length<=K)(hC:2 ^ (Pr R M).length<=C) :
  ws.length<=dF K C (3+M) (λz=>cn R [z]) (λy z=>cn R [y,z]) (λx y z=>cn R [x,y,z]):=by
 have hl:∀p,∀n∈Lf R p,n<4:=λp n h=>Ix h;have hne:∀p,∀w,Ne R s0 (Lf R p) w->∃n,n<4/\Pd R s0 w n:=λp w ⟨n,h1,h2⟩=>⟨n,Ix h1,h2⟩;have cE:∀(z:Nat) (p:List Nat),kF R s0 (QE R s0 z (Lf R p)) (Lf R p) (mR K (cn R p)):=λz p=>by
  unfold mR;refine kF.inf ((jZ λw h=>h.2).mono ?_) ((tu hM (hl p) λw h=>hne p w h.2).mono zo);have:=Dw R p;omega
 have c1:∀z,kF R s0 (QE R s0 z (Lf R [z])) (Lf R [z]) (nh K C (3+M) (λz=>cn R [z]) z):=λz=>by
  unfold nh;split
  ·rename_i e;subst e;exact kF.inf (cE _ _) ((vU (λw h=>h.1) λn h=>h).mono hC)
  ·exact cE _ _
 have cV:∀z y,kF R s0 (QV R s0 z y) (Lf R [z]) (kC K C (3+M) (λz=>cn R [z]) z):=λz y=>by
  have h0:kF R s0 (QV R s0 z y) (Lf R [z]) (min (2 ^ min 4 (cn R [z])) K):=
   kF.inf ((rq _ _).mono (Dw R [z])) ((vB _ hM (hl _)).mono hK)
  unfold kC;split
  ·rename_i e;subst e;exact kF.inf h0 ((vU (λw h=>h.1) λn h=>h).mono hC)
  ·exact h0
 have cL:∀x y,kF R s0 (QV R s0 y x) (Lf R [y]) (gR K C (3+M) (λz=>cn R [z]) (λy z=>cn R [y,z]) x y):=λx y=>by
  unfold gR;refine kF.inf (cV y x) ((HH x y _).mono (Rz zo ?_));exact Rr (KA R x y) (EK G.ok x)
 have c2:∀y z x,kF R s0 (QV R s0 y x) (Lf R [y,z]) (kV K C (3+M) (λy z=>cn R [y,z]) y z):=λy z x=>by
  have h0:kF R s0 (QV R s0 y x) (Lf R [y,z]) (min (2 ^ min 4 (cn R [y,z])) K):=
   kF.inf ((rq _ _).mono (Dw R [y,z])) ((vB _ hM (hl _)).mono hK)
  unfold kV;split
  ·rename_i e;subst e;exact kF.inf h0 ((vU (λw h=>h.1) λn h=>fq (p:=[3+M]) (q:=[z]) h).mono hC)
  ·exact h0
 have cM:∀x y z,kF R s0 (QE R s0 x (Lf R [x,y,z])) (Lf R [x,y]) (Ln K (cn R [x,y]) (cn R [x,y,z])):=λx y z=>by
  unfold Ln;refine kF.inf ((vx (dk [x,y,z]) (dk [x,y]) (λn hn=>fq (p:=[x,y]) (q:=[z]) hn) (λw h=>h.2)).mono ?_)
   ((tu hM (hl _) λw h=>hne _ w h.2).mono zo)
  have m:(Lf R [x,y,z]).length<=(Lf R [x,y]).length:=iX R [x,y] [z];have a1:=dV R [x,y];have a2:=de R [x,y];have a3:=de R [x,y,z];have a4:cn R [x,y,z]<=cn R [x,y]:=by
   unfold cn;apply TR;intro r _ h;rw[RW] at h ⊢;exact(T3 [x,y] [z]).trans h
  rw[EV _ zo _ zo m];exact Bg _ zo _ zo _ zo _ zo m zo zo zo
 have h:=oM G.ok G.live;rw[rL] at h;have e3:sm (λx=>sm λy=>sm λz=>(dw R s0 ws [z,y,x]).length)=sm λy=>sm λz=>sm λx=>(dw R s0 ws [z,y,x]).length:=by
  simp only[sm];omega
 rw[e3,<-pV] at h;refine AI h ?_;unfold Bd.dF;refine Rr (gf λz _=>G.n1 (c1 z)) (gf λy _=>?_);rw[<-pV];refine gf λz _=>?_;refine T4.2 ⟨Rr (G.n2 (cE y [y,z]) ?_) (gf λx _=>?_),?_⟩
 ·exact cL y z
 ·unfold vN;exact T4.2 ⟨G.n3 (cE x _) (c2 y z x) (cV z y),G.h3 (cM x y z) (cL x y)⟩
 ·refine AI (ED G.ok z y) ?_;unfold vX;exact G.types z y (c1 y) (λx _=>cE x _) (λx _=>cL x y)
end
end Bd
set_option linter.unusedVariables false
namespace Bd
def mn(a b:Nat):Nat:=bif Nat.ble a b then a else b
def mx(a b:Nat):Nat:=bif Nat.ble a b then b else a
def kW(k:Nat):Nat:=2 ^ mn 4 k
def E4(k:Nat):Nat:=kW k-1
def fA(n lump D1 D2 gs g1 g2 d0 d B lz:Nat):Nat:=
 mn (E4 B*kW (mn lz d)) (1+lump+(E4 (mn B d)*kW (mn (mn lz d0) (n+gs))+E4 (mn B D1)*kW (mn (mn lz d0) (n+g1))+E4 (mn B D2)*kW (mn (mn lz d0) (n+g2))))
def fT(n l d0 bx Bz lz Dx gx t:Nat):Nat:=
 mn (E4 t*kW (mn Bz Dx)*kW (mn (mn lz d0) (n+gx))) ((kW bx-2 ^ (mn 4 bx-mn 4 t))*kW (mn l Dx))
def GR(f g:Nat->Nat)(k:Nat):Nat->Nat
 | 0=>f 0+g k
 | i+1=>mx (f (i+1)+g (k-(i+1))) (GR f g k i)
def fV(l Vl bs b1 b2 d D1 D2:Nat):Nat:=E4 l+Vl+(E4 bs*kW (mn l d)+E4 b1*kW (mn l D1)+E4 b2*kW (mn l D2))
def fC(bs b1 b2 o1 o2 n l l1 l2 D1 D2 lump Vl kap gs g1 g2 ts t1 t2 d0 d W:Nat):Nat:=
 mn (fA n lump D1 D2 gs g1 g2 d0 d bs l+(fT n l d0 bs bs l d gs ts+fT n l d0 b1 bs l D1 g1 t1+fT n l d0 b2 bs l D2 g2 t2)) (fV l Vl bs b1 b2 d D1 D2)
 + (fA n lump D1 D2 gs g1 g2 d0 d o1 l1+fA n lump D1 D2 gs g1 g2 d0 d o2 l2)
 + (GR (fT n l d0 bs o1 l1 d gs) (fT n l d0 bs o2 l2 d gs) ts ts+GR (fT n l d0 b1 o1 l1 D1 g1) (fT n l d0 b1 o2 l2 D1 g1) t1 t1+GR (fT n l d0 b2 o1 l1 D2 g2) (fT n l d0 b2 o2 l2 D2 g2) t2 t2)
 + W*kap
def fW(n G:Nat):Nat->Nat
 | 0=>0
 | e+1=>2 ^ (mn n (4*(e+1))+G-e)+e-1
def EP(f:Nat->Nat):Nat->Nat
 | 0=>f 0
 | i+1=>mx (f (i+1)) (EP f i)
def fQ(bs b1 b2 o1 o2 n l l1 l2 D1 D2 lump Vl kap r:Nat):Nat:=
 fC bs b1 b2 o1 o2 n l l1 l2 D1 D2 lump Vl kap bs b1 b2 bs b1 b2 (mn 4 (n+(bs+b1+b2))) (mn 4 (mn 4 (n+(bs+b1+b2))+r)) (EP (fW n (bs+b1+b2)) (mn 4 (n+(bs+b1+b2))))
def fF(bs b1 b2 o1 o2 n l l1 l2 D1 D2 lump Vl kap r:Nat):Nat:=
 EP (λgs=>EP (λg1=>EP (λg2=>EP (λd0=>
  fC bs b1 b2 o1 o2 n l l1 l2 D1 D2 lump Vl kap gs g1 g2 (bs-gs) (b1-g1) (b2-g2) d0 (mn 4 (d0+r)) (fW n (gs+g1+g2) d0))
  (mn 4 (n+(gs+g1+g2)))) b2) b1) bs
def xe(n:Nat):Nat:=n*2 ^ (mn 4 n-1)
def fS(F:Nat->Nat->Nat->Nat->Nat->Nat->Nat->Nat->Nat->Nat->Nat->Nat->Nat->Nat->Nat->Nat)(b00 b01 b02 n0 b10 b11 b12 n1 b20 b21 b22 n2 r:Nat):Nat:=
 let l0:=b00+b01+b02+n0;let l1:=b10+b11+b12+n1;let l2:=b20+b21+b22+n2;let D0:=mn 4 (n0+(b00+b10+b20)+r);let D1:=mn 4 (n1+(b11+b01+b21)+r);let D2:=mn 4 (n2+(b22+b02+b12)+r);let nn:=n0+n1+n2;let lump:=2 ^ (nn+2*r)-1;let Vl:=bif Nat.beq r 0 then 0 else mn (2 ^ (nn+r-1)) (16*r);let kap:=bif Nat.beq r 0 then 1 else 2
 F b00 b10 b20 b01 b02 n0 l0 l1 l2 D1 D2 (lump*2 ^ n0) Vl kap r+F b11 b01 b21 b10 b12 n1 l1 l0 l2 D0 D2 (lump*2 ^ n1) Vl kap r+F b22 b02 b12 b20 b21 n2 l2 l0 l1 D0 D1 (lump*2 ^ n2) Vl kap r
def fO(b00 b01 b02 n0 b10 b11 b12 n1 b20 b21 b22 n2 r:Nat):Nat:=
 let nn:=n0+n1+n2;let kap:=bif Nat.beq r 0 then 1 else 2
 E4 (b00+b01+b02+n0)+E4 (b10+b11+b12+n1)+E4 (b20+b21+b22+n2)+r+(xe n0+xe n1+xe n2)*kap
 + (bif Nat.beq r 0 then 0 else mn (2 ^ (nn+r)) (32*r)+4*r)
def Pm(b00 b01 b02 n0 b10 b11 b12 n1 b20 b21 b22 n2 r:Nat):Bool:=
 Nat.ble (fO b00 b01 b02 n0 b10 b11 b12 n1 b20 b21 b22 n2 r+fS fQ b00 b01 b02 n0 b10 b11 b12 n1 b20 b21 b22 n2 r) 398 ||
 Nat.ble (fO b00 b01 b02 n0 b10 b11 b12 n1 b20 b21 b22 n2 r+fS fF b00 b01 b02 n0 b10 b11 b12 n1 b20 b21 b22 n2 r) 398
def Gj(f:Nat->Bool):Nat->Bool
 | 0=>f 0
 | i+1=>f (i+1)&&Gj f i
def Hn(s:Nat)(f:Nat->Nat->Nat->Nat->Bool):Bool:=Gj (λa=>Gj (λb=>Gj (λc=>f a b c (s-a-b-c)) (s-a-b)) (s-a)) s
def uF(s0 s1 s2:Nat):Bool:=Hn s0 λb00 b01 b02 n0=>Hn s1 λb10 b11 b12 n1=>Hn s2 λb20 b21 b22 n2=>
 Nat.beq (n0+n1+n2+(8-s0-s1-s2)) 0||Pm b00 b01 b02 n0 b10 b11 b12 n1 b20 b21 b22 n2 (8-s0-s1-s2)
end Bd
set_option linter.unusedVariables false
namespace Bd
def u3(f:Nat->Nat):Nat:=f 0+f 1+f 2
def u4(f:Nat->Nat):Nat:=f 0+f 1+f 2+f 3
theorem mZ(f:Nat->Nat):sm f=u3 f+u4 λM=>f (3+M):=by simp only[sm,u3,u4,Nat.reduceAdd];omega
theorem xU{f g:Nat->Nat}(h:∀i,i<3->f i<=g i):u3 f<=u3 g:=by
 have h0:=h 0 zo;have h1:=h 1 zo;have h2:=h 2 zo;simp only[u3];omega
theorem gh{f g:Nat->Nat}(h:∀i,i<4->f i<=g i):u4 f<=u4 g:=by
 have h0:=h 0 zo;have h1:=h 1 zo;have h2:=h 2 zo;have h3:=h 3 zo;simp only[u4];omega
theorem HI(f g:Nat->Nat):u3 (λi=>f i+g i)=u3 f+u3 g:=by simp only[u3];omega
theorem jx(f g:Nat->Nat):u4 (λi=>f i+g i)=u4 f+u4 g:=by simp only[u4];omega
theorem CT(f:Nat->Nat)(c:Nat):u3 (λi=>f i*c)=u3 f*c:=by simp only[u3,R3]
theorem qb(f:Nat->Nat)(c:Nat):u4 (λi=>f i*c)=u4 f*c:=by simp only[u4,R3]
theorem Py(f:Nat->Nat->Nat):u4 (λM=>u3 λx=>f x M)=u3 λx=>u4 λM=>f x M:=by simp only[u3,u4];omega
theorem P7(f:Nat->Nat->Nat):u4 (λM=>u4 λx=>f x M)=u4 λx=>u4 λM=>f x M:=by simp only[u4];omega
theorem ve(f:Nat->Nat){i:Nat}(h:i<3):f i<=u3 f:=by
 have:i=0\/i=1\/i=2:=by omega
 rcases this with rfl | rfl | rfl<;>simp only[u3]<;>omega
theorem nB(f:Nat->Nat){i:Nat}(h:i<4):f i<=u4 f:=by
 have:i=0\/i=1\/i=2\/i=3:=by omega
 rcases this with rfl | rfl | rfl | rfl<;>simp only[u4]<;>omega
theorem LB(f:Nat->Nat){i:Nat}(h:i<7):f i<=sm f:=by
 have:i=0\/i=1\/i=2\/i=3\/i=4\/i=5\/i=6:=by omega
 rcases this with rfl | rfl | rfl | rfl | rfl | rfl | rfl<;>simp only[sm]<;>omega
theorem OA(f:Nat->Nat->Nat):sm (λv=>u4 λM=>f v M)=u4 λM=>sm λv=>f v M:=by simp only[sm,u4];omega
theorem dN(a b:Nat):mn a b=min a b:=by
 unfold mn;cases h:Nat.ble a b with
 | true=>have:=Sw h;simp only[OF];omega
 | false=>
  have:¬a<=b:=λh2=>by rw[<-SQ] at h2;rw[h2] at h;cases h
  simp only[Ri];omega
theorem Ik(a b:Nat):mx a b=max a b:=by
 unfold mx;cases h:Nat.ble a b with
 | true=>have:=Sw h;simp only[OF];omega
 | false=>
  have:¬a<=b:=λh2=>by rw[<-SQ] at h2;rw[h2] at h;cases h
  simp only[Ri];omega
theorem dG{a b:Nat}(h:a<=b):2 ^ a<=2 ^ b:=Rz zo h
theorem uR{a b:Nat}(h:a<=b)(h4:a<=4):2 ^ a<=kW b:=by
 unfold kW;rw[dN];exact dG zo
theorem oj{a b:Nat}(h:a<=b)(h4:a<=4):2 ^ a-1<=E4 b:=by
 unfold E4;have:=uR h h4;omega
theorem jL{a b:Nat}(h:a<=b):kW a<=kW b:=by unfold kW;rw[dN,dN];exact dG zo
theorem E6{a b:Nat}(h:a<=b):E4 a<=E4 b:=by unfold E4;have:=jL h;omega
theorem iA(a:Nat):1<=2 ^ a:=TK zo
theorem CF{a b:Nat}:2 ^ (a+1)+2 ^ (b+1)<=2 ^ (a+b+1)+2:=by
 have h1:=iA a;have h2:=iA b;rw[Tv,Tv,Tv,Tj];obtain⟨A,hA⟩:∃A,2 ^ a=A+1:=⟨2 ^ a-1,by omega⟩;obtain⟨B,hB⟩:∃B,2 ^ b=B+1:=⟨2 ^ b-1,by omega⟩;have:(A+1)*(B+1)=A*B+A+B+1:=by rw[R3,Uo];omega
 rw[hA,hB,this];omega
theorem rj{a b:Nat}:(2 ^ a-1)+(2 ^ b-1)<=2 ^ (a+b)-1:=by
 have h1:=iA a;have h2:=iA b;rw[Tj];obtain⟨A,hA⟩:∃A,2 ^ a=A+1:=⟨2 ^ a-1,by omega⟩;obtain⟨B,hB⟩:∃B,2 ^ b=B+1:=⟨2 ^ b-1,by omega⟩;rw[hA,hB,R3,Uo,RQ,SW];omega
theorem pow_left{a g:Nat}:(2 ^ a-1)*2 ^ g<=2 ^ (a+g)-1:=by
 have h1:=iA g;rw[Nat.sub_mul,SW,Tj];omega
theorem MB(a:Nat->Nat):u4 (λX=>2 ^ a X-1)<=2 ^ u4 a-1:=by
 simp only[u4];have h1:=rj (a:=a 0) (b:=a 1);have h2:=rj (a:=a 0+a 1) (b:=a 2);have h3:=rj (a:=a 0+a 1+a 2) (b:=a 3);omega
theorem JB:∀(l:List Nat),(l.map λs=>2 ^ s-1).sum+(if (l.countP λs=>0<s)=0 then 0 else 2)<=
  (if (l.countP λs=>0<s)=0 then 0 else 2 ^ (l.sum+1-l.countP λs=>0<s)+l.countP λs=>0<s)/\(l.countP λs=>0<s)<=l.sum:=by
 intro l
 induction l with
 | nil=>simp
 | cons s l ih=>
  obtain⟨ih,hc⟩:=ih;simp only[Na,Sy,Tm];cases s with
  | zero=>
   have hp:(if decide (0<0)=true then 1 else 0)=0:=by simp
   rw[hp];simp only[Nat.pow_zero,SV,Rn,SJ];exact⟨ih,hc⟩
  | succ s=>
   have hp:(if decide (0<s+1)=true then 1 else 0)=1:=by simp
   rw[hp];refine⟨?_,by omega⟩;rw[By zo,By zo];generalize hd:(l.countP λs=>decide (0<s))=d at ih hc ⊢;generalize hk:l.sum=k at ih hc ⊢;cases d with
   | zero=>
    rw[If rfl,If rfl] at ih;have:2 ^ (s+1)<=2 ^ (s+1+k+1-(0+1)):=dG zo;have:=iA (s+1);omega
   | succ d=>
    rw[By zo,By zo] at ih;have h2:=CF (a:=s) (b:=k-d-1);have e1:k+1-(d+1)=k-d-1+1:=by omega
    have e2:s+1+k+1-(d+1+1)=s+(k-d-1)+1:=by omega
    rw[e1] at ih;rw[e2];have:=iA (s+1);omega
variable {R:List Ru}
theorem Ed(q:Nat->List Nat)(p:Ru->Bool)(h:∀r:Ru,(∀s∈r.2,s<7)->p r=true->∃M,M<4/\(q M).isPrefixOf r.2=true) :
  ∀R:List Ru,(∀r∈R,∀s∈r.2,s<7)->(R.filter p).length<=u4 λM=>cn R (q M):=by
 intro R
 induction R with
 | nil=>intro _;simp[cn,u4]
 | cons r R ih=>
  intro hs;have ih:=ih λr hr=>hs r (I9 _ hr);have e:∀M,cn (r::R) (q M)=cn R (q M)+if (q M).isPrefixOf r.2 then 1 else 0:=λM=>by
   unfold cn;rw[Tm]
  simp only[e,jx,Ud];by_cases hp:p r=true
  ·rw[If hp,RG];obtain⟨M,hM,h1⟩:=h r (hs r me) hp;have:=nB (λM=>if (q M).isPrefixOf r.2 then 1 else 0) hM;simp only[h1,Sv] at this;omega
  ·rw[By hp];omega
theorem LQ{b:Nat}(h:Dy b=true)(h7:b<7):∃M,M<4/\b=3+M:=by
 unfold Dy at h;have:=Sw h;exact⟨b-3,by omega,by omega⟩
theorem D4(ok:lQ R)(y:Nat):(FT R y).length<=u4 λM=>cn R [y,3+M]:=by
 refine Ed _ _ (λr hs h=>?_) R ok.sym;rcases hr:r.2 with _ | ⟨a,_ | ⟨b,l⟩⟩<;>simp only[hr] at h<;>try cases h
 simp only[IN,Sb] at h;obtain⟨rfl,h⟩:=h;obtain⟨M,h1,rfl⟩:=LQ h (hs b (by rw[hr];simp));exact⟨M,h1,by simp⟩
theorem Cy(ok:lQ R)(x y:Nat):(Fm R x y).length<=u4 λM=>cn R [x,y,3+M]:=by
 refine Ed _ _ (λr hs h=>?_) R ok.sym;rcases hr:r.2 with _ | ⟨a,_ | ⟨b,_ | ⟨c,l⟩⟩⟩<;>simp only[hr] at h<;>try cases h
 simp only[IN,Sb] at h;obtain⟨rfl,rfl,h⟩:=h;obtain⟨M,h1,rfl⟩:=LQ h (hs c (by rw[hr];simp));exact⟨M,h1,by simp⟩
theorem L8(ok:lQ R)(y:Nat):(GC R y).length<=sm λv=>cn R [v,y]:=by
 refine AI ?_ (EK ok y);unfold GC xg;rw[<-RR,<-RR];apply TR;intro r _ h;rcases hr:r.2 with _ | ⟨a,_ | ⟨b,_ | ⟨c,l⟩⟩⟩<;>simp only[hr] at h<;>try cases h
 simp only[IN,Sb] at h;obtain⟨rfl,_⟩:=h;simp
theorem NF(p:Nat->Bool):((List.range 4).filter p).length=u4 λM=>if p M then 1 else 0:=by
 have:List.range 4=[0,1,2,3]:=rfl;rw[this];simp only[Ud,List.filter_nil,u4];cases p 0<;>cases p 1<;>cases p 2<;>cases p 3<;>rfl
theorem pS{p l:List Nat}{r:Ru}(hr:r∈R)(e:r.2=p++l):1<=cn R p:=by
 unfold cn;rw[Nat.succ_le_iff,List.countP_pos_iff];exact⟨r,hr,by rw[e];simp⟩
theorem Iw(R:List Ru)(y:Nat):(Sd R y).length<=4:=by
 have:=S9 (λM=>R.any λr=>Cr y M r||M5 y M r) (List.range 4)
 rw[S7] at this;exact this
theorem KN(R:List Ru)(y:Nat):(lF R y).length<=4:=by
 have:=S9 (λM=>R.any λr=>Cr y M r||sG y M r) (List.range 4)
 rw[S7] at this;exact this
theorem D7{y M:Nat}{r:Ru}(h:Cr y M r=true):∃l,r.2=[y,3+M]++l:=by
 unfold Cr at h;rcases hr:r.2 with _ | ⟨a,_ | ⟨b,l⟩⟩<;>simp only[hr] at h<;>try cases h
 simp only[IN,Sb] at h;obtain⟨rfl,rfl⟩:=h;exact⟨l,rfl⟩
theorem HB{y M:Nat}{r:Ru}(h:M5 y M r=true):∃a l,r.2=[a,y,3+M]++l:=by
 unfold M5 at h;rcases hr:r.2 with _ | ⟨a,_ | ⟨b,_ | ⟨c,l⟩⟩⟩<;>simp only[hr] at h<;>try cases h
 simp only[IN,Sb] at h;obtain⟨rfl,rfl⟩:=h;exact⟨a,l,rfl⟩
theorem Eg{y M:Nat}{r:Ru}(h:sG y M r=true):∃a l,a<3/\r.2=[a,y,3+M]++l:=by
 unfold sG at h;rcases hr:r.2 with _ | ⟨a,_ | ⟨b,_ | ⟨c,l⟩⟩⟩<;>simp only[hr] at h<;>try cases h
 simp only[IN,Sb,SR] at h;obtain⟨h0,rfl,rfl⟩:=h;refine⟨a,l,?_,rfl⟩;have:¬3<=a:=λh=>by unfold Dy at h0;rw[<-SQ] at h;rw[h] at h0;cases h0
 omega
theorem Oq(ok:lQ R){y M:Nat}(h:R.any (λr=>Cr y M r||M5 y M r)=true):1<=cn R [y,3+M]+sm λv=>cn R [v,y,3+M]:=by
 rw[RZ] at h;obtain⟨r,hr,h⟩:=h;rw[Sr] at h;rcases h with h | h
 ·obtain⟨l,e⟩:=D7 h;have:=pS hr e;omega
 ·obtain⟨a,l,e⟩:=HB h;have:=pS hr e;have h7:=ok.sym r hr a (by rw[e];simp);have:=LB (λv=>cn R [v,y,3+M]) h7;omega
theorem I4(ok:lQ R)(y:Nat):(Sd R y).length<=u4 (λM=>cn R [y,3+M])+sm λv=>u4 λM=>cn R [v,y,3+M]:=by
 unfold Sd;rw[NF,OA,<-jx];refine gh λM _=>?_;split
 ·rename_i h;exact Oq ok h
 ·omega
theorem KE(ok:lQ R)(y:Nat):(Sd R y).length<=(lF R y).length+u4 λX=>u4 λM=>cn R [3+X,y,3+M]:=by
 unfold Sd lF;rw[NF,NF,<-P7,<-jx];refine gh λM _=>?_;split
 ·rename_i h;rw[RZ] at h;obtain⟨r,hr,h⟩:=h;rw[Sr] at h;by_cases h0:R.any (λr=>Cr y M r||sG y M r)=true
  ·rw[If h0];omega
  ·have h0':∀r∈R,(Cr y M r||sG y M r)=false:=by
    intro r hr;cases h:(Cr y M r||sG y M r) with
    | false=>rfl
    | true=>exact absurd (RZ.2 ⟨r,hr,h⟩) h0
   have h1:=h0' r hr;rw[Tt] at h1;rcases h with h | h
   ·rw[h1.1] at h;cases h
   ·obtain⟨a,l,e⟩:=HB h;have hg:=h1.2;have h7:=ok.sym r hr a (by rw[e];simp);have h3:3<=a:=by
     apply Classical.byContradiction;intro h3;have:Dy a=false:=by
      unfold Dy;rw[Sn];intro k;rw[SQ] at k;omega
     unfold sG at hg;rw[e] at hg;simp[this] at hg
    have ea:a=3+(a-3):=by omega
    rw[ea] at e;have:=pS hr e;have h5:=nB (λX=>cn R [3+X,y,3+M]) (show a-3<4 by omega);omega
 ·omega
theorem Ki(ok:lQ R)(y:Nat):(lF R y).length<=u4 (λM=>cn R [y,3+M])+u3 λv=>u4 λM=>cn R [v,y,3+M]:=by
 unfold lF;rw[NF,<-Py,<-jx];refine gh λM _=>?_;split
 ·rename_i h;rw[RZ] at h;obtain⟨r,hr,h⟩:=h;rw[Sr] at h;rcases h with h | h
  ·obtain⟨l,e⟩:=D7 h;have:=pS hr e;omega
  ·obtain⟨a,l,h3,e⟩:=Eg h;have:=pS hr e;have:=ve (λv=>cn R [v,y,3+M]) h3;omega
 ·omega
end Bd
set_option linter.unusedVariables false
namespace Bd
section
variable {R:List Ru}
def nT(R:List Ru)(i:Nat):Nat:=cn R [i]-u3 λj=>cn R [i,j]
def gT(R:List Ru)(x y:Nat):Nat:=u4 λM=>cn R [x,y,3+M]
def rT(R:List Ru):Nat:=8-u3 λi=>cn R [i]
def oO(R:List Ru):Nat:=u3 (nT R)
def DT(R:List Ru)(v:Nat):Nat:=mn 4 (nT R v+u3 (λx=>cn R [x,v])+rT R)
def aT(R:List Ru):Nat:=u4 λX=>u3 λj=>cn R [3+X,j]
def bT(R:List Ru):Nat:=u4 λX=>u4 λM=>cn R [3+X,3+M]
theorem MW(R:List Ru)(i:Nat):u3 (λj=>cn R [i,j])+u4 (λM=>cn R [i,3+M])<=cn R [i]:=by
 have h:=gj R [i];rw[mZ] at h;exact h
theorem Ob(R:List Ru)(x y:Nat):u3 (λz=>cn R [x,y,z])+gT R x y<=cn R [x,y]:=by
 have h:=gj R [x,y];rw[mZ] at h;exact h
theorem ND(ok:lQ R):u3 (λj=>cn R [j])+u4 (λM=>cn R [3+M])<=8:=by
 have h:=AI (gj R []) (uU ok []);rw[mZ] at h;exact h
theorem HW(R:List Ru)(i:Nat):u3 (λj=>cn R [i,j])+nT R i=cn R [i]:=by
 have:=MW R i;unfold nT;omega
theorem nr(R:List Ru)(i:Nat):u4 (λM=>cn R [i,3+M])<=nT R i:=by
 have:=MW R i;unfold nT;omega
theorem Nb(ok:lQ R):u3 (λi=>cn R [i])+rT R=8:=by
 have:=ND ok;unfold rT;omega
theorem Br(ok:lQ R):u4 (λM=>cn R [3+M])<=rT R:=by
 have:=ND ok;unfold rT;omega
theorem Jt(ok:lQ R):aT R+bT R<=rT R:=by
 refine AI ?_ (Br ok);unfold aT bT;rw[<-jx];exact gh λX _=>MW R (3+X)
theorem fe(R:List Ru)(x y:Nat):gT R x y<=cn R [x,y]:=by have:=Ob R x y;omega
theorem Lu(ok:lQ R)(v:Nat)(hv:v<7):u4 (λX=>cn R [3+X,v])<=rT R:=by
 refine AI (gh λX _=>?_) (Br ok);have h:=gj R [3+X];exact AI (LB (λv=>cn R [3+X,v]) hv) h
theorem Gv(ok:lQ R){v:Nat}(hv:v<7):(Sd R v).length<=DT R v:=by
 have h1:=I4 ok v;have h4:=Iw R v;have e:sm (λx=>u4 λM=>cn R [x,v,3+M])<=u3 (λx=>cn R [x,v])+u4 λX=>cn R [3+X,v]:=by
  rw[mZ];exact Rr (xU λx _=>fe R x v) (gh λX _=>fe R (3+X) v)
 have e2:=Lu ok v hv;have e3:=nr R v;unfold DT;rw[dN];omega
theorem Lg(ok:lQ R){y:Nat}(hy:y<7):(Sd R y).length<=mn 4 ((lF R y).length+rT R):=by
 have h1:=KE ok y;have h4:=Iw R y;have e:u4 (λX=>u4 λM=>cn R [3+X,y,3+M])<=u4 λX=>cn R [3+X,y]:=gh λX _=>fe R (3+X) y;have e2:=Lu ok y hy;rw[dN];omega
theorem NP(ok:lQ R)(y:Nat):(lF R y).length<=min 4 (nT R y+u3 λx=>gT R x y):=by
 have h1:=Ki ok y;have h4:=KN R y;have e3:=nr R y;unfold gT;omega
theorem KW(ok:lQ R){y:Nat}(hy:y<3):u4 (λX=>(Sd R (3+X)).length+(Fm R (3+X) y).length)<=oO R+2*rT R:=by
 have h1:u4 (λX=>(Sd R (3+X)).length)<=bT R+(oO R+bT R):=by
  refine AI (gh λX _=>I4 ok (3+X)) ?_;rw[jx];refine Rr (AS _) ?_;have e:u4 (λX=>sm λv=>u4 λM=>cn R [v,3+X,3+M])<=u4 (λX=>u3 (λv=>cn R [v,3+X])+u4 λv=>cn R [3+v,3+X]):=by
   refine gh λX _=>?_;rw[mZ];exact Rr (xU λx _=>fe R x (3+X)) (gh λx _=>fe R (3+x) (3+X))
  refine AI e ?_;rw[jx];refine Rr ?_ ?_
  ·rw[Py];exact xU λx _=>nr R x
  ·rw[P7];exact AS _
 have h2:u4 (λX=>(Fm R (3+X) y).length)<=aT R:=by
  unfold aT;refine gh λX _=>AI (Cy ok (3+X) y) (AI (fe R (3+X) y) ?_);exact ve (λj=>cn R [3+X,j]) hy
 have h3:=Jt ok;rw[jx];omega
theorem LA(ok:lQ R){X:Nat}(hX:X<4):(GC R (3+X)).length<=oO R+bT R:=by
 refine AI (L8 ok (3+X)) ?_;rw[mZ];unfold oO bT;refine Rr (xU λv _=>?_) (gh λv _=>?_)
 ·exact AI (nB (λM=>cn R [v,3+M]) hX) (nr R v)
 ·exact nB (λM=>cn R [3+v,3+M]) hX
theorem Lw{a b n r:Nat}(h:a+b<=r):a*kW (n+b)<=(bif Nat.beq r 0 then 0 else mn (2 ^ (n+r-1)) (16*r)):=by
 cases r with
 | zero=>
  have:a=0:=by omega
  subst this;simp
 | succ r=>
  have e:Nat.beq (r+1) 0=false:=rfl;rw[e,Ri,dN];refine T4.2 ⟨?_,?_⟩
  ·cases a with
   | zero=>rw[Ua];exact RC _
   | succ a=>
    have h1:kW (n+b)<=2 ^ (n+b):=by unfold kW;rw[dN];exact dG zo
    have h2:a+1<=2 ^ a:=Nat.lt_two_pow_self;have h3:2 ^ a*2 ^ (n+b)<=2 ^ (n+(r+1)-1):=by rw[<-Tj];exact dG zo
    exact AI (RN h2 h1) h3
  ·have h1:kW (n+b)<=16:=by
    have:kW (n+b)<=2 ^ 4:=by unfold kW;rw[dN];exact dG zo
    simpa using this
   refine AI (RN (show a<=r+1 by omega) h1) zo
end
end Bd
set_option linter.unusedVariables false
namespace Bd
theorem sD{a b l d:Nat}(h1:a<=l)(h2:b<=d)(h4:a<=4):min (2 ^ a) (2 ^ b)<=kW (mn l d):=by
 rcases Tw a b with h | h
 ·rw[Se (dG h)];exact uR (by rw[dN];omega) h4
 ·rw[Tc (dG h)];exact uR (by rw[dN];omega) zo
theorem uH(a b:Nat):min (2 ^ a) (2 ^ b)=2 ^ min a b:=by
 rcases Tw a b with h | h
 ·rw[Se (dG h),Se h]
 ·rw[Tc (dG h),Tc h]
theorem HS(a b:Nat):min (2 ^ a-1) (2 ^ b-1)=2 ^ min a b-1:=by
 rcases Tw a b with h | h
 ·have:=dG h;rw[Se zo,Se h]
 ·have:=dG h;rw[Tc zo,Tc h]
section
variable {R:List Ru}{s0:Nat}{ws:List (List Nat)}
theorem Q2.ne(ok:lQ R){z y:Nat}{u:List Nat}(h:Q2 R s0 z y u):Ne R s0 (Lf R [y,z]) u:=by
 obtain⟨r,hr,⟨l,e⟩,hp⟩:=h;exact⟨r.1,cY ok hr (p:=[y,z]) e,hp⟩
theorem Q3.ne(ok:lQ R){z y x:Nat}{u:List Nat}(h:Q3 R s0 z y x u):Ne R s0 (Lf R [x,y,z]) u:=by
 obtain⟨r,hr,⟨l,e⟩,hp⟩:=h;exact⟨r.1,cY ok hr (p:=[x,y,z]) e,hp⟩
theorem bJ.PL(G:bJ R s0 ws){y z z1 z2:Nat}(hy:y<3)(h1:z1<3)(h2:z2<3)(h12:∀f:Nat->Nat,u3 f=f y+f z1+f z2) :
  (dw R s0 ws [z,y]).length<=fA (nT R y) ((2 ^ (oO R+2*rT R)-1)*2 ^ nT R y) (DT R z1) (DT R z2) (gT R y y) (gT R z1 y) (gT R z2 y)
   (lF R y).length (mn 4 ((lF R y).length+rT R)) (cn R [y,z]) (cn R [z]):=by
 have l4:=dV R [y,z];have lc:=de R [y,z];have m4:=dV R [z];have mc:=de R [z];unfold fA;rw[dN (E4 _*_)];refine T4.2 ⟨?_,?_⟩
 ·refine AI (G.c2 (kz λu h=>h.ne G.ok) (dB.inf (er _ _ _) (Ah G.ok _ (λu=>u) y _))) ?_;exact RN (oj lc l4) (sD mc (Lg G.ok zo) m4)
 ·let a:=λv=>(Sd R v).length;let g:=λv=>(FT R y).length+(Fm R v y).length;have hJ:∀v,v<7->dB R s0 (λt=>Q2 R s0 z y (v::t)) (λt=>y::v::t) (Lf R [z])
    (if v<3 then min (min (2 ^ (Lf R [z]).length) (2 ^ (lF R y).length)) (2 ^ g v) else 2 ^ g v):=λv hv=>by
   split
   ·rename_i h;exact dB.inf (dB.inf (er _ _ _) (Ei G.ok _ (λt=>t) h y _)) (rV _ v y _)
   ·exact rV _ v y _
  have hK:∀v,v<7->dB R s0 (λt=>Q2 R s0 z y (v::t)) (λt=>v::t) (Lf R [y,z]) (2 ^ min (Lf R [y,z]).length (a v)-1):=λv hv=>by
   rw[<-HS];refine dB.inf (kz λu h=>h.ne G.ok) (Kv G.ok (λt=>t) v _ λt h=>?_);obtain⟨n,_,hn⟩:=h.ne G.ok;exact⟨n,hn⟩
  refine AI (G.QF hK hJ) ?_;rw[mZ,h12];have hs:∀v,v<3->∀D,a v<=D->(2 ^ min (Lf R [y,z]).length (a v)-1)*(if v<3 then min (min (2 ^ (Lf R [z]).length) (2 ^ (lF R y).length)) (2 ^ g v) else 2 ^ g v)<=
    E4 (mn (cn R [y,z]) D)*kW (mn (mn (cn R [z]) (lF R y).length) (nT R y+gT R v y)):=λv hv D hD=>by
   rw[If hv];refine RN (oj (by rw[dN];omega) zo) ?_;rw[uH];refine sD (by rw[dN];omega) ?_ zo;exact Rr (AI (D4 G.ok y) (nr R y)) (Cy G.ok v y)
  have b0:=hs y hy _ (Lg G.ok zo);have b1:=hs z1 h1 _ (Gv G.ok zo);have b2:=hs z2 h2 _ (Gv G.ok zo);have b4:u4 (λX=>(2 ^ min (Lf R [y,z]).length (a (3+X))-1)*(if 3+X<3 then min (min (2 ^ (Lf R [z]).length) (2 ^ (lF R y).length)) (2 ^ g (3+X)) else 2 ^ g (3+X)))<=
    (2 ^ (oO R+2*rT R)-1)*2 ^ nT R y:=by
   refine AI (gh (g:=λX=>(2 ^ (a (3+X)+(Fm R (3+X) y).length)-1)*2 ^ nT R y) λX _=>?_) ?_
   ·rw[By zo];have e:2 ^ g (3+X)=2 ^ (Fm R (3+X) y).length*2 ^ (FT R y).length:=by
     show 2 ^ ((FT R y).length+(Fm R (3+X) y).length)=_;rw[Tj,SU]
    rw[e,<-S5];refine RN (AI (Rb _ ?_) pow_left) (dG (AI (D4 G.ok y) (nr R y)));exact Nat.sub_le_sub_right (dG (TH _ _)) 1
   ·rw[qb];refine Rb _ (AI (MB _) ?_);exact Nat.sub_le_sub_right (dG (KW G.ok hy)) 1
  omega
theorem bJ.Mn(G:bJ R s0 ws){x y z:Nat}(hx:x<3)(hy:y<3){D:Nat}(hD:(Sd R x).length<=D) :
  (dw R s0 ws [z,y,x]).length<=fT (nT R y) (cn R [y]) (lF R y).length (cn R [x,y]) (cn R [y,z]) (cn R [z]) D (gT R x y) (cn R [x,y,z]):=by
 have t4:=dV R [x,y,z];have tc:=de R [x,y,z];have b4:=dV R [x,y];have bc:=de R [x,y];have o4:=dV R [y,z];have oc:=de R [y,z];have l4:=dV R [y];have lc:=de R [y];have z4:=dV R [z];have zc:=de R [z];have hm:(Lf R [x,y,z]).length<=(Lf R [x,y]).length:=iX R [x,y] [z];have hcm:cn R [x,y,z]<=cn R [x,y]:=by
  unfold cn;apply TR;intro r _ h;rw[RW] at h ⊢;exact(T3 [x,y] [z]).trans h
 unfold fT;rw[dN (E4 _*_*_)];refine T4.2 ⟨?_,?_⟩
 ·refine AI (G.c3 (kz λu h=>h.ne G.ok) (dB.inf (er _ _ _) (Ah G.ok _ (λu=>u) x _))
   (dB.inf (dB.inf (er _ _ _) (Ei G.ok _ (λt=>t) hx y _)) (rV _ x y _))) ?_
  refine RN (RN (oj tc t4) (sD oc hD o4)) ?_;rw[uH];refine sD (by rw[dN];omega) ?_ zo;exact Rr (AI (D4 G.ok y) (nr R y)) (Cy G.ok x y)
 ·refine AI (G.OI (oC (dk [x,y,z]) (dk [x,y]) (λn hn=>fq (p:=[x,y]) (q:=[z]) hn) λu h=>h.ne G.ok)
   (dB.inf (er _ _ _) (Ah G.ok _ (λu=>u) x _))) ?_
  refine RN ?_ (sD lc hD l4);rw[EV _ zo _ zo hm];unfold kW;rw[dN,dN];exact Bg _ zo _ zo _ zo _ zo hm zo zo zo
theorem A8(ok:lQ R){X:Nat}(h1:(Lf R [3+X]).length<=1){r r':Ru}(hr:r∈R)(hr':r'∈R){l l':List Nat}(e:r.2=(3+X)::l)(e':r'.2=(3+X)::l'):r.1=r'.1:=by
 have m1:=cY ok hr (p:=[3+X]) e;have m2:=cY ok hr' (p:=[3+X]) e';generalize Lf R [3+X]=L at h1 m1 m2
 match L,h1,m1,m2 with
 | [a],_,m1,m2=>
  rw[Rh] at m1 m2;rw[m1,m2]
theorem LU{y:Nat}{r:Ru}(h:r∈FT R y):r∈R/\∃l,r.2=y::l:=by
 unfold FT at h;rw[Ra] at h;obtain⟨hr,h⟩:=h;refine⟨hr,?_⟩;rcases e:r.2 with _ | ⟨a,_ | ⟨b,l⟩⟩<;>simp only[e] at h<;>try cases h
 simp only[IN,Sb] at h;exact⟨b::l,by rw[h.1]⟩
theorem one_pow{l c:Nat}(h:l<=1)(hc:l<=c):2 ^ l-1<=c:=by
 have:l=0\/l=1:=by omega
 rcases this with rfl | rfl
 ·simp
 ·simpa using hc
theorem bJ.OX(G:bJ R s0 ws)(hE:∀M,M<4->(Lf R [3+M]).length<=1){y z1 z2:Nat}(z:Nat)(hy:y<3)(h1:z1<3)(h2:z2<3)(h12:∀f:Nat->Nat,u3 f=f y+f z1+f z2) :
  (EH R s0 ws z y).length<=fV (cn R [y]) (bif Nat.beq (rT R) 0 then 0 else mn (2 ^ (oO R+rT R-1)) (16*rT R)) (cn R [y,y]) (cn R [z1,y]) (cn R [z2,y])
   (mn 4 ((lF R y).length+rT R)) (DT R z1) (DT R z2):=by
 have l4:=dV R [y];have lc:=de R [y];have hB:∀x,x<7->dB R s0 (Q2 R s0 y x) (λu=>x::u) (Lf R [y]) (if x<3 then min (2 ^ (Lf R [y]).length) (2 ^ (Sd R x).length) else min (2 ^ (Lf R [y]).length) (2 ^ (GC R x).length)):=λx hx=>by
  split
  ·exact dB.inf (er _ _ _) (Ah G.ok _ (λu=>u) x _)
  ·rename_i h3;refine dB.inf (er _ _ _) (wH (λu hu r hf=>?_) _);obtain⟨r',hr',⟨l,e⟩,hp⟩:=hu;obtain⟨hr,l',e'⟩:=LU hf;obtain⟨X,rfl⟩:∃X,x=3+X:=⟨x-3,by omega⟩;rw[A8 G.ok (hE X zo) hr hr' e' e];exact hp
 refine AI (G.M1 z y (jZ λw h=>h.2) (λx _=>kz λu h=>h.ne G.ok) hB) ?_;unfold fV;rw[mZ,h12];have hs:∀x,x<3->∀D,(Sd R x).length<=D->(2 ^ (Lf R [x,y]).length-1)*(if x<3 then min (2 ^ (Lf R [y]).length) (2 ^ (Sd R x).length) else min (2 ^ (Lf R [y]).length) (2 ^ (GC R x).length))<=E4 (cn R [x,y])*kW (mn (cn R [y]) D):=λx hx D hD=>by
  rw[If hx];exact RN (oj (de R [x,y]) (dV R [x,y])) (sD lc hD l4)
 have b0:=hs y hy _ (Lg G.ok zo);have b1:=hs z1 h1 _ (Gv G.ok zo);have b2:=hs z2 h2 _ (Gv G.ok zo);have b3:u4 (λX=>(2 ^ (Lf R [3+X,y]).length-1)*(if 3+X<3 then min (2 ^ (Lf R [y]).length) (2 ^ (Sd R (3+X)).length) else min (2 ^ (Lf R [y]).length) (2 ^ (GC R (3+X)).length)))<=
   (bif Nat.beq (rT R) 0 then 0 else mn (2 ^ (oO R+rT R-1)) (16*rT R)):=by
  refine AI (gh (g:=λX=>cn R [3+X,y]*kW (oO R+bT R)) λX hX=>?_) ?_
  ·rw[By zo];refine RN (one_pow (AI (iX R [3+X] [y]) (hE X hX)) (de R [3+X,y])) ?_;rw[uH];exact uR (AI (TH _ _) (LA G.ok hX)) zo
  ·rw[qb];refine AI (Rb _ (gh λX _=>ve (λj=>cn R [3+X,j]) hy)) (Lw (Jt G.ok))
 have:=oj lc l4;omega
theorem bJ.Pj(G:bJ R s0 ws){κ:Nat}(hκ:∀M,M<4->2 ^ (Lf R [3+M]).length<=κ){y:Nat}(hy:y<3) :
  u4 (λM=>(dw R s0 ws [3+M,y]).length+u3 λx=>(dw R s0 ws [3+M,y,x]).length)<=fW (nT R y) (u3 λx=>gT R x y) (lF R y).length*κ:=by
 let s:Nat->Nat:=λM=>(Lf R [y,3+M]).length+u3 λx=>(Lf R [x,y,3+M]).length;have a1:∀M,M<4->(dw R s0 ws [3+M,y]).length+(u3 λx=>(dw R s0 ws [3+M,y,x]).length)<=(2 ^ s M-1)*κ:=λM hM=>by
  have h2:(dw R s0 ws [3+M,y]).length<=(2 ^ (Lf R [y,3+M]).length-1)*κ:=
   G.c2 (kz λu h=>h.ne G.ok) ((er _ _ _).mono (hκ M hM))
  have h3:∀x,(dw R s0 ws [3+M,y,x]).length<=(2 ^ (Lf R [x,y,3+M]).length-1)*2 ^ (Lf R [y,3+M]).length*κ:=λx=>
   G.c3 (kz λu h=>h.ne G.ok) (er _ _ _) ((er _ _ _).mono (hκ M hM))
  refine AI (Rr h2 (xU λx _=>h3 x)) ?_;rw[CT,CT,<-R3];refine Rb _ ?_;have e:u3 (λx=>2 ^ (Lf R [x,y,3+M]).length-1)<=2 ^ (u3 λx=>(Lf R [x,y,3+M]).length)-1:=by
   simp only[u3];have h1:=rj (a:=(Lf R [0,y,3+M]).length) (b:=(Lf R [1,y,3+M]).length);have h2:=rj (a:=(Lf R [0,y,3+M]).length+(Lf R [1,y,3+M]).length) (b:=(Lf R [2,y,3+M]).length);omega
  refine AI (Sj (Rb _ e) _) ?_;show _<=2 ^ ((Lf R [y,3+M]).length+u3 λx=>(Lf R [x,y,3+M]).length)-1;rw[Nat.sub_mul,SW,Tj,SU (2 ^ (Lf R [y,3+M]).length)];have p1:=iA (Lf R [y,3+M]).length;have p2:1*2 ^ (Lf R [y,3+M]).length<=(2 ^ u3 λx=>(Lf R [x,y,3+M]).length)*2 ^ (Lf R [y,3+M]).length:=Rb _ (iA _);omega
 refine AI (gh a1) ?_;rw[qb];refine Rb _ ?_;have hpos:∀M,M<4->(0<s M↔M∈lF R y):=λM hM=>by
  constructor
  ·intro h;have:0<(Lf R [y,3+M]).length\/∃x,x<3/\0<(Lf R [x,y,3+M]).length:=by
    apply Classical.byContradiction;intro hn;have n1:(Lf R [y,3+M]).length=0:=by
     have h:¬0<(Lf R [y,3+M]).length:=λh=>hn (.inl h);omega
    have n2:∀x,x<3->(Lf R [x,y,3+M]).length=0:=λx hx=>by
     have h:¬0<(Lf R [x,y,3+M]).length:=λh=>hn (.inr ⟨x,hx,h⟩);omega
    have e0:=n2 0 zo;have e1:=n2 1 zo;have e2:=n2 2 zo;have:s M=0:=by
     show (Lf R [y,3+M]).length+((Lf R [0,y,3+M]).length+(Lf R [1,y,3+M]).length+(Lf R [2,y,3+M]).length)=0;omega
    omega
   unfold lF;rw[Ra,Rm];refine⟨hM,?_⟩;rw[RZ];rcases this with h | ⟨x,hx,h⟩
   ·obtain⟨n,hn⟩:=T6 h;unfold Lf at hn;rw[Ra,RZ] at hn;obtain⟨_,r,hr,e⟩:=hn;simp only[IN,RW] at e;obtain⟨_,l,e⟩:=e;exact⟨r,hr,by unfold Cr;rw[<-e];simp⟩
   ·obtain⟨n,hn⟩:=T6 h;unfold Lf at hn;rw[Ra,RZ] at hn;obtain⟨_,r,hr,e⟩:=hn;simp only[IN,RW] at e;obtain⟨_,l,e⟩:=e;refine⟨r,hr,?_⟩;have:Dy x=false:=by
     unfold Dy;rw[Sn];intro k;rw[SQ] at k;omega
    unfold sG;rw[<-e];simp[this]
  ·intro h;unfold lF at h;rw[Ra,RZ] at h;obtain⟨_,r,hr,h⟩:=h;rw[Sr] at h;rcases h with h | h
   ·obtain⟨l,e⟩:=D7 h;have:=TJ (cY G.ok hr e);show 0<(Lf R [y,3+M]).length+_;omega
   ·obtain⟨a,l,h3,e⟩:=Eg h;have h5:=TJ (cY G.ok hr e);have h6:=ve (λx=>(Lf R [x,y,3+M]).length) h3;show 0<_+u3 λx=>(Lf R [x,y,3+M]).length;omega
 have hd:(lF R y).length=([s 0,s 1,s 2,s 3].countP λs=>0<s):=by
  have e:(lF R y).length=u4 λM=>if 0<s M then 1 else 0:=by
   have h:=NF λM=>R.any λr=>Cr y M r||sG y M r
   show ((List.range 4).filter λM=>R.any λr=>Cr y M r||sG y M r).length=_
   rw[h];have e:∀M,M<4->(if R.any (λr=>Cr y M r||sG y M r)=true then 1 else 0)=if 0<s M then 1 else 0:=λM hM=>by
    have:=hpos M hM;unfold lF at this;rw[Ra,Rm] at this;by_cases h:0<s M
    ·rw[If h,If (this.1 h).2]
    ·rw[By h,By λk=>h (this.2 ⟨hM,k⟩)]
   simp only[u4];rw[e 0 zo,e 1 zo,e 2 zo,e 3 zo]
  rw[e];simp only[u4,Tm,List.countP_nil,RS];omega
 have hm:=JB [s 0,s 1,s 2,s 3];rw[<-hd] at hm;simp only[Na,Sg,Sy,Uw,SJ] at hm;have hsum:u4 s<=mn (nT R y) (4*(lF R y).length)+u3 λx=>gT R x y:=by
  have e:u4 s=u4 (λM=>(Lf R [y,3+M]).length)+u3 λx=>u4 λM=>(Lf R [x,y,3+M]).length:=by
   rw[<-Py,<-jx]
  rw[e,dN];refine Rr (T4.2 ⟨?_,?_⟩) (xU λx _=>gh λM _=>de R _)
  ·exact AI (gh λM _=>de R [y,3+M]) (nr R y)
  ·have h4:∀M,M<4->(Lf R [y,3+M]).length<=4*if 0<s M then 1 else 0:=λM hM=>by
    have:=dV R [y,3+M];by_cases h:0<s M
    ·rw[If h];omega
    ·rw[By h];have h:¬0<(Lf R [y,3+M]).length+u3 λx=>(Lf R [x,y,3+M]).length:=h;omega
   refine AI (gh h4) ?_;rw[hd];simp only[u4,Tm,List.countP_nil,RS];omega
 have hs4:u4 s=s 0+(s 1+(s 2+s 3)):=by simp only[u4];omega
 have hsp:u4 (λM=>2 ^ s M-1)=2 ^ s 0-1+(2 ^ s 1-1+(2 ^ s 2-1+(2 ^ s 3-1))):=by simp only[u4];omega
 rw[hsp];generalize (lF R y).length=d at hm hsum ⊢;cases d with
 | zero=>
  obtain⟨hm,_⟩:=hm;rw[If rfl,If rfl] at hm;unfold fW;omega
 | succ e=>
  obtain⟨hm,hc⟩:=hm;rw[By zo,By zo] at hm;show _<=2 ^ (mn (nT R y) (4*(e+1))+(u3 λx=>gT R x y)-e)+e-1;have:=dG (show s 0+(s 1+(s 2+s 3))+1-(e+1)<=mn (nT R y) (4*(e+1))+(u3 λx=>gT R x y)-e by omega);omega
end
end Bd
set_option linter.unusedVariables false
namespace Bd
theorem vk{f g:Nat->Nat}(hg:∀i j,i<=j->g i<=g j){k i j:Nat}(hk:i+j<=k):∀m,i<=m->f i+g j<=GR f g k m
 | 0,h=>by
  have:i=0:=by omega
  subst this;unfold GR;have:=hg j k zo;omega
 | m+1,h=>by
  unfold GR;rw[Ik];by_cases e:i=m+1
  ·subst e;have:=hg j (k-(m+1)) zo;omega
  ·have:=vk (f:=f) hg hk m zo;omega
theorem gw{n l d0 bx Bz lz Dx gx t t':Nat}(h:t<=t'):fT n l d0 bx Bz lz Dx gx t<=fT n l d0 bx Bz lz Dx gx t':=by
 unfold fT;rw[dN (E4 _*_*_),dN (E4 _*_*_)];have h1:=Rb (kW (mn (mn lz d0) (n+gx))) (Rb (kW (mn Bz Dx)) (E6 h));have h2:kW bx-2 ^ (mn 4 bx-mn 4 t)<=kW bx-2 ^ (mn 4 bx-mn 4 t'):=by
  have:2 ^ (mn 4 bx-mn 4 t')<=2 ^ (mn 4 bx-mn 4 t):=dG (by rw[dN,dN,dN];omega);omega
 have h3:=Rb (kW (mn l Dx)) h2;omega
section
variable {R:List Ru}{s0:Nat}{ws:List (List Nat)}
def HU(R:List Ru):Nat:=2 ^ (oO R+2*rT R)-1
def Qc(R:List Ru):Nat:=bif Nat.beq (rT R) 0 then 0 else mn (2 ^ (oO R+rT R-1)) (16*rT R)
def M9(R:List Ru)(κ y z1 z2:Nat):Nat:=
 fC (cn R [y,y]) (cn R [z1,y]) (cn R [z2,y]) (cn R [y,z1]) (cn R [y,z2]) (nT R y) (cn R [y]) (cn R [z1]) (cn R [z2]) (DT R z1) (DT R z2) (HU R*2 ^ nT R y) (Qc R) κ
  (gT R y y) (gT R z1 y) (gT R z2 y) (cn R [y,y]-gT R y y) (cn R [z1,y]-gT R z1 y) (cn R [z2,y]-gT R z2 y)
  (lF R y).length (mn 4 ((lF R y).length+rT R)) (fW (nT R y) (gT R y y+gT R z1 y+gT R z2 y) (lF R y).length)
theorem bJ.Pn(G:bJ R s0 ws)(hE:∀M,M<4->(Lf R [3+M]).length<=1){κ:Nat}(hκ:∀M,M<4->2 ^ (Lf R [3+M]).length<=κ)
  {y z1 z2:Nat} (hy:y<3) (h1:z1<3) (h2:z2<3) (h12:∀f:Nat->Nat,u3 f=f y+f z1+f z2) :
  u3 (λz=>(dw R s0 ws [z,y]).length+u3 λx=>(dw R s0 ws [z,y,x]).length)+u4 (λM=>(dw R s0 ws [3+M,y]).length+u3 λx=>(dw R s0 ws [3+M,y,x]).length)
   <=M9 R κ y z1 z2:=by
 have hA:=λz=>G.PL (z:=z) hy h1 h2 h12;have hT0:=λz=>G.Mn (z:=z) hy hy (Lg G.ok (y:=y) zo);have hT1:=λz=>G.Mn (z:=z) h1 hy (Gv G.ok (v:=z1) zo);have hT2:=λz=>G.Mn (z:=z) h2 hy (Gv G.ok (v:=z2) zo);have hV:=G.OX hE y hy h1 h2 h12;have hN:=G.Pj hκ hy;have hI:=ED (R:=R) (s0:=s0) (ws:=ws) G.ok y y;rw[mZ,h12] at hI;have hs:∀x,cn R [x,y,y]+cn R [x,y,z1]+cn R [x,y,z2]<=cn R [x,y]-gT R x y:=λx=>by
  have:=Ob R x y;rw[h12] at this;omega
 unfold M9 fC;rw[dN (fA _ _ _ _ _ _ _ _ _ _ _+_),h12,h12 (λx=>(dw R s0 ws [y,y,x]).length),h12 (λx=>(dw R s0 ws [z1,y,x]).length),h12 (λx=>(dw R s0 ws [z2,y,x]).length)];rw[h12 (λx=>gT R x y)] at hN;have e0:=AI (hT0 y) (gw (show cn R [y,y,y]<=cn R [y,y]-gT R y y by have:=hs y;omega));have e1:=AI (hT1 y) (gw (show cn R [z1,y,y]<=cn R [z1,y]-gT R z1 y by have:=hs z1;omega));have e2:=AI (hT2 y) (gw (show cn R [z2,y,y]<=cn R [z2,y]-gT R z2 y by have:=hs z2;omega))
 have m0:=AI (Rr (hT0 z1) (hT0 z2)) (vk (g:=fT _ _ _ _ _ _ _ _) (λi j h=>gw h) (show cn R [y,y,z1]+cn R [y,y,z2]<=cn R [y,y]-gT R y y by have:=hs y;omega) (cn R [y,y]-gT R y y) (by have:=hs y;omega));have m1:=AI (Rr (hT1 z1) (hT1 z2)) (vk (g:=fT _ _ _ _ _ _ _ _) (λi j h=>gw h) (show cn R [z1,y,z1]+cn R [z1,y,z2]<=cn R [z1,y]-gT R z1 y by have:=hs z1;omega) (cn R [z1,y]-gT R z1 y) (by have:=hs z1;omega))
 have m2:=AI (Rr (hT2 z1) (hT2 z2)) (vk (g:=fT _ _ _ _ _ _ _ _) (λi j h=>gw h) (show cn R [z2,y,z1]+cn R [z2,y,z2]<=cn R [z2,y]-gT R z2 y by have:=hs z2;omega) (cn R [z2,y]-gT R z2 y) (by have:=hs z2;omega));have a0:=hA y;have a1:=hA z1;have a2:=hA z2;have hyy:(dw R s0 ws [y,y]).length+((dw R s0 ws [y,y,y]).length+(dw R s0 ws [y,y,z1]).length+(dw R s0 ws [y,y,z2]).length)<=
   min (fA (nT R y) (HU R*2 ^ nT R y) (DT R z1) (DT R z2) (gT R y y) (gT R z1 y) (gT R z2 y) (lF R y).length (mn 4 ((lF R y).length+rT R)) (cn R [y,y]) (cn R [y]) +
    (fT (nT R y) (cn R [y]) (lF R y).length (cn R [y,y]) (cn R [y,y]) (cn R [y]) (mn 4 ((lF R y).length+rT R)) (gT R y y) (cn R [y,y]-gT R y y) +
     fT (nT R y) (cn R [y]) (lF R y).length (cn R [z1,y]) (cn R [y,y]) (cn R [y]) (DT R z1) (gT R z1 y) (cn R [z1,y]-gT R z1 y) +
     fT (nT R y) (cn R [y]) (lF R y).length (cn R [z2,y]) (cn R [y,y]) (cn R [y]) (DT R z2) (gT R z2 y) (cn R [z2,y]-gT R z2 y)))
   (fV (cn R [y]) (Qc R) (cn R [y,y]) (cn R [z1,y]) (cn R [z2,y]) (mn 4 ((lF R y).length+rT R)) (DT R z1) (DT R z2)):=by
  refine T4.2 ⟨?_,?_⟩
  ·exact Rr a0 (Rr (Rr e0 e1) e2)
  ·refine AI ?_ hV;omega
 have hz:∀z,(dw R s0 ws [z,y]).length<=fA (nT R y) (HU R*2 ^ nT R y) (DT R z1) (DT R z2) (gT R y y) (gT R z1 y) (gT R z2 y) (lF R y).length (mn 4 ((lF R y).length+rT R)) (cn R [y,z]) (cn R [z]):=hA;have b1:=hz z1;have b2:=hz z2;clear hA hT0 hT1 hT2 hV hI hs e0 e1 e2 a0 a1 a2 hz;omega
theorem Is(G:bJ R s0 ws){κ:Nat}(hκ:∀M,M<4->2 ^ (Lf R [3+M]).length<=κ)(x:Nat) :
  u4 (λM=>sm λz=>(dw R s0 ws [z,3+M,x]).length)<=xe (nT R x)*κ:=by
 have h:∀M,M<4->sm (λz=>(dw R s0 ws [z,3+M,x]).length)<=cn R [x,3+M]*(2 ^ (mn 4 (nT R x)-1)*κ):=λM hM=>by
  have h1:∀z,z<7->(dw R s0 ws [z,3+M,x]).length<=cn R [x,3+M,z]*(2 ^ (mn 4 (nT R x)-1)*κ):=λz _=>by
   refine AI (G.OI (oC (dk [x,3+M,z]) (dk [x,3+M]) (λn hn=>fq (p:=[x,3+M]) (q:=[z]) hn) λu h=>h.ne G.ok) ((er _ _ _).mono (hκ M hM))) ?_;rw[<-S5];refine Rb _ ?_;have hm:(Lf R [x,3+M,z]).length<=(Lf R [x,3+M]).length:=iX R [x,3+M] [z];have b4:=dV R [x,3+M];have bc:=de R [x,3+M];have hn:=AI (nB (λM=>cn R [x,3+M]) hM) (nr R x);refine AI (half (Lf R [x,3+M]).length zo (Lf R [x,3+M,z]).length zo hm) ?_;rw[SU];exact RN (de R _) (dG (by rw[dN];omega))
  refine AI (gf h1) ?_;rw[jY];exact Rb _ (gj R [x,3+M])
 refine AI (gh h) ?_;rw[qb,<-S5];exact Rb _ (Rb _ (nr R x))
theorem G1{l m c:Nat}(hl:l<=1)(hm:m<=l)(hc:m<=c):(2 ^ m-1)*2 ^ (l-m)<=c:=by
 have:m=0\/m=1:=by omega
 rcases this with rfl | rfl
 ·simp
 ·have:l=1:=by omega
  subst this;simpa using hc
theorem M6(G:bJ R s0 ws)(hE:∀M,M<4->(Lf R [3+M]).length<=1) :
  u4 (λX=>sm (λz=>(dw R s0 ws [z,3+X]).length)+sm λy=>sm λz=>(dw R s0 ws [z,y,3+X]).length)<=
   (bif Nat.beq (rT R) 0 then 0 else mn (2 ^ (oO R+rT R)) (32*rT R)+4*rT R):=by
 let J:Nat->Nat:=λy=>if y<3 then kW (oO R+bT R) else 2;have hJ:∀X,X<4->∀(Q:List Nat->Prop),(∀u,Q u->∃r∈R,(∃l,r.2=(3+X)::l)/\Pd R s0 u r.1)->∀y,y<7->dB R s0 Q (λu=>(3+X)::u) (Lf R [y]) (J y):=λX hX Q hQ y hy=>by
  show dB R s0 Q (λu=>(3+X)::u) (Lf R [y]) (if y<3 then kW (oO R+bT R) else 2);split
  ·refine(dB.inf (er _ _ _) (wH (λu hu r hf=>?_) _)).mono (J:=kW (oO R+bT R)) ?_
   ·obtain⟨r',hr',⟨l,e⟩,hp⟩:=hQ u hu;obtain⟨hr,l',e'⟩:=LU hf;rw[A8 G.ok (hE X hX) hr hr' e' e];exact hp
   ·rw[uH];have:=dV R [y];exact uR (AI (TH _ _) (LA G.ok hX)) zo
  ·refine(er _ _ _).mono ?_;have h:=hE (y-3) zo;rw[show 3+(y-3)=y by omega] at h;exact dG h
 have h2:∀X,X<4->∀z,z<7->(dw R s0 ws [z,3+X]).length<=cn R [3+X,z]*J z:=λX hX z hz=>by
  refine AI (G.c2 (kz λu h=>h.ne G.ok) (hJ X hX _ (λu hu=>?_) z hz)) (Rb _ ?_)
  ·obtain⟨r,hr,⟨l,e⟩,hp⟩:=hu;exact⟨r,hr,⟨_,e⟩,hp⟩
  ·exact one_pow (AI (iX R [3+X] [z]) (hE X hX)) (de R _)
 have h3:∀X,X<4->∀y,y<7->sm (λz=>(dw R s0 ws [z,y,3+X]).length)<=cn R [3+X,y]*J y:=λX hX y hy=>by
  have h1:∀z,z<7->(dw R s0 ws [z,y,3+X]).length<=cn R [3+X,y,z]*J y:=λz _=>by
   refine AI (G.OI (oC (dk [3+X,y,z]) (dk [3+X,y]) (λn hn=>fq (p:=[3+X,y]) (q:=[z]) hn) λu h=>h.ne G.ok)
    (hJ X hX _ (λu hu=>?_) y hy)) (Rb _ ?_)
   ·obtain⟨r,hr,⟨l,e⟩,hp⟩:=hu;exact⟨r,hr,⟨_,e⟩,hp⟩
   ·exact G1 (AI (iX R [3+X] [y]) (hE X hX)) (iX R [3+X,y] [z]) (de R _)
  refine AI (gf h1) ?_;rw[jY];exact Rb _ (gj R [3+X,y])
 have h4:∀X,X<4->sm (λz=>(dw R s0 ws [z,3+X]).length)+sm (λy=>sm λz=>(dw R s0 ws [z,y,3+X]).length)<=
   (u3 λy=>cn R [3+X,y])*(2*kW (oO R+bT R))+(u4 λM=>cn R [3+X,3+M])*4:=λX hX=>by
  have e:∀c,sm (λy=>c y*J y)=u3 c*kW (oO R+bT R)+u4 (λM=>c (3+M))*2:=λc=>by
   rw[mZ,<-CT,<-qb];have e1:u3 (λi=>c i*J i)=u3 λi=>c i*kW (oO R+bT R):=rfl;have e2:u4 (λM=>c (3+M)*J (3+M))=u4 λM=>c (3+M)*2:=rfl;rw[e1,e2]
  have a:=gf (h2 X hX);have b:=gf (h3 X hX);rw[e λy=>cn R [3+X,y]] at a b;have:(u3 λy=>cn R [3+X,y])*(2*kW (oO R+bT R))=2*((u3 λy=>cn R [3+X,y])*kW (oO R+bT R)):=by
   rw[Nat.mul_left_comm]
  omega
 refine AI (gh h4) ?_;rw[jx,qb,qb];show aT R*(2*kW (oO R+bT R))+bT R*4<=_;have hab:=Jt G.ok;have hl:=Lw (n:=oO R) hab;rw[Nat.mul_left_comm];cases hr:rT R with
 | zero=>
  rw[hr] at hl hab;have e0:Nat.beq 0 0=true:=rfl;rw[e0,OF] at hl ⊢;omega
 | succ r=>
  rw[hr] at hl hab;have e0:Nat.beq (r+1) 0=false:=rfl;rw[e0,Ri,dN] at hl ⊢;have e1:2 ^ (oO R+(r+1))=2*2 ^ (oO R+(r+1)-1):=by
   rw[show oO R+(r+1)=oO R+(r+1)-1+1 by omega,Tv];simp only[SY];omega
  omega
theorem bJ.M0(G:bJ R s0 ws)(hE:∀M,M<4->(Lf R [3+M]).length<=1){κ:Nat}(hκ:∀M,M<4->2 ^ (Lf R [3+M]).length<=κ){a b c:Nat}(ha:a<3)(hb:b<3)(hc:c<3)
  (h0:∀f:Nat->Nat,u3 f=f a+f b+f c) (h1:∀f:Nat->Nat,u3 f=f b+f a+f c) (h2:∀f:Nat->Nat,u3 f=f c+f a+f b) :
  ws.length<=E4 (cn R [a])+E4 (cn R [b])+E4 (cn R [c])+rT R+(xe (nT R a)+xe (nT R b)+xe (nT R c))*κ +
   (bif Nat.beq (rT R) 0 then 0 else mn (2 ^ (oO R+rT R)) (32*rT R)+4*rT R)+(M9 R κ a b c+M9 R κ b a c+M9 R κ c a b):=by
 have h:=oM G.ok G.live;rw[rL] at h;have g1:sm (λz=>(dw R s0 ws [z]).length)<=E4 (cn R [a])+E4 (cn R [b])+E4 (cn R [c])+rT R:=by
  rw[mZ,h0];have e:∀z,(dw R s0 ws [z]).length<=2 ^ (Lf R [z]).length-1:=λz=>G.n1 (jZ λw h=>h.2);have ea:=AI (e a) (oj (de R [a]) (dV R [a]));have eb:=AI (e b) (oj (de R [b]) (dV R [b]));have ec:=AI (e c) (oj (de R [c]) (dV R [c]));have e4:u4 (λM=>(dw R s0 ws [3+M]).length)<=rT R:=
   AI (gh λM hM=>AI (e (3+M)) (one_pow (hE M hM) (de R _))) (Br G.ok)
  omega
 have ka:=G.Pn hE hκ ha hb hc h0;have kb:=G.Pn hE hκ hb ha hc h1;have kc:=G.Pn hE hκ hc ha hb h2;have ra:=Is G hκ a;have rb:=Is G hκ b;have rc:=Is G hκ c;have r5:=M6 G hE;have e2:sm (λy=>sm λz=>(dw R s0 ws [z,y]).length) =
   u3 (λy=>u3 (λz=>(dw R s0 ws [z,y]).length)+u4 λM=>(dw R s0 ws [3+M,y]).length)+u4 λX=>sm λz=>(dw R s0 ws [z,3+X]).length:=by
  rw[mZ];congr 1;simp only[mZ]
 have e3:sm (λx=>sm λy=>sm λz=>(dw R s0 ws [z,y,x]).length) =
   u3 (λx=>u3 (λy=>u3 (λz=>(dw R s0 ws [z,y,x]).length)+u4 λM=>(dw R s0 ws [3+M,y,x]).length)+u4 λM=>sm λz=>(dw R s0 ws [z,3+M,x]).length) +
    u4 λX=>sm λy=>sm λz=>(dw R s0 ws [z,y,3+X]).length:=by
  rw[mZ];congr 1;simp only[u3];rw[mZ,mZ,mZ];simp only[mZ,u3]
 have e4:u3 (λx=>u3 (λy=>u3 (λz=>(dw R s0 ws [z,y,x]).length)+u4 λM=>(dw R s0 ws [3+M,y,x]).length)+u4 λM=>sm λz=>(dw R s0 ws [z,3+M,x]).length) =
   u3 (λy=>u3 (λz=>u3 λx=>(dw R s0 ws [z,y,x]).length)+u4 λM=>u3 λx=>(dw R s0 ws [3+M,y,x]).length)+u3 λx=>u4 λM=>sm λz=>(dw R s0 ws [z,3+M,x]).length:=by
  rw[HI];congr 1;simp only[u3,u4];omega
 rw[e2,e3,e4] at h;have e5:∀y,u3 (λz=>(dw R s0 ws [z,y]).length+u3 λx=>(dw R s0 ws [z,y,x]).length)=u3 (λz=>(dw R s0 ws [z,y]).length)+u3 λz=>u3 λx=>(dw R s0 ws [z,y,x]).length:=λy=>HI _ _;have e6:∀y,u4 (λM=>(dw R s0 ws [3+M,y]).length+u3 λx=>(dw R s0 ws [3+M,y,x]).length)=u4 (λM=>(dw R s0 ws [3+M,y]).length)+u4 λM=>u3 λx=>(dw R s0 ws [3+M,y,x]).length:=λy=>jx _ _;rw[e5,e6] at ka kb kc;rw[jx] at r5;rw[h0 (λy=>u3 (λz=>(dw R s0 ws [z,y]).length)+u4 λM=>(dw R s0 ws [3+M,y]).length),
  h0 (λy=>u3 (λz=>u3 λx=>(dw R s0 ws [z,y,x]).length)+u4 λM=>u3 λx=>(dw R s0 ws [3+M,y,x]).length),
  h0 (λx=>u4 λM=>sm λz=>(dw R s0 ws [z,3+M,x]).length)] at h
 rw[R3,R3];clear e2 e3 e4 e5 e6;omega
end
end Bd
namespace Bd
theorem O5:uF 4 0 0=true:=by decide +kernel
theorem Pa:uF 4 1 0=true:=by decide +kernel
theorem Pl:uF 4 1 1=true:=by decide +kernel
theorem Pt:uF 4 2 0=true:=by decide +kernel
theorem Pg:uF 4 2 1=true:=by decide +kernel
theorem Pp:uF 4 2 2=true:=by decide +kernel
theorem OV:uF 4 3 0=true:=by decide +kernel
theorem PJ:uF 4 3 1=true:=by decide +kernel
theorem Pu:uF 4 4 0=true:=by decide +kernel
theorem OP:uF 5 0 0=true:=by decide +kernel
theorem PQ:uF 5 1 0=true:=by decide +kernel
theorem Px:uF 5 1 1=true:=by decide +kernel
theorem PC:uF 5 2 0=true:=by decide +kernel
theorem O7:uF 5 2 1=true:=by decide +kernel
theorem PF:uF 5 3 0=true:=by decide +kernel
theorem OO:uF 6 0 0=true:=by decide +kernel
theorem PA:uF 6 1 0=true:=by decide +kernel
theorem OZ:uF 6 1 1=true:=by decide +kernel
theorem Pq:uF 6 2 0=true:=by decide +kernel
theorem Pz:uF 7 0 0=true:=by decide +kernel
theorem O2:uF 7 1 0=true:=by decide +kernel
theorem OQ:uF 8 0 0=true:=by decide +kernel
theorem JS{a b c:Nat}(h4:4<=a)(hc:c<=b)(h8:a+b+c<=8):uF a b c=true:=by
 have ha:a=4\/a=5\/a=6\/a=7\/a=8:=by omega
 have hb:b=0\/b=1\/b=2\/b=3\/b=4:=by omega
 have hc2:c=0\/c=1\/c=2:=by omega
 rcases ha with rfl | rfl | rfl | rfl | rfl<;>rcases hb with rfl | rfl | rfl | rfl | rfl<;>rcases hc2 with rfl | rfl | rfl
 ·exact O5
 ·omega
 ·omega
 ·exact Pa
 ·exact Pl
 ·omega
 ·exact Pt
 ·exact Pg
 ·exact Pp
 ·exact OV
 ·exact PJ
 ·omega
 ·exact Pu
 ·omega
 ·omega
 ·exact OP
 ·omega
 ·omega
 ·exact PQ
 ·exact Px
 ·omega
 ·exact PC
 ·exact O7
 ·omega
 ·exact PF
 ·omega
 ·omega
 ·omega
 ·omega
 ·omega
 ·exact OO
 ·omega
 ·omega
 ·exact PA
 ·exact OZ
 ·omega
 ·exact Pq
 ·omega
 ·omega
 ·omega
 ·omega
 ·omega
 ·omega
 ·omega
 ·omega
 ·exact Pz
 ·omega
 ·omega
 ·exact O2
 ·omega
 ·omega
 ·omega
 ·omega
 ·omega
 ·omega
 ·omega
 ·omega
 ·omega
 ·omega
 ·omega
 ·exact OQ
 ·omega
 ·omega
 ·omega
 ·omega
 ·omega
 ·omega
 ·omega
 ·omega
 ·omega
 ·omega
 ·omega
 ·omega
 ·omega
 ·omega
end Bd
set_option linter.unusedVariables false
namespace Bd
theorem dZ{a b c d:Nat}(h:a<=c)(h2:b<=d):mn a b<=mn c d:=by rw[dN,dN];omega
theorem Lb{n lump D1 D2 gs g1 g2 d0 d B lz gs' g1' g2' d0' d':Nat}(hs:gs<=gs')(h1:g1<=g1')(h2:g2<=g2')(h0:d0<=d0')(hd:d<=d') :
  fA n lump D1 D2 gs g1 g2 d0 d B lz<=fA n lump D1 D2 gs' g1' g2' d0' d' B lz:=by
 unfold fA;have e:=dZ (AS lz) h0;exact dZ (Sq _ (jL (dZ (AS _) hd)))
  (Sj (Rr (Rr (RN (E6 (dZ (AS _) hd)) (jL (dZ e (Sj hs _))))
   (Sq _ (jL (dZ e (Sj h1 _))))) (Sq _ (jL (dZ e (Sj h2 _))))) _)
theorem wG{n l d0 bx Bz lz D gx d0' D' gx' t:Nat}(h0:d0<=d0')(hD:D<=D')(hg:gx<=gx'):fT n l d0 bx Bz lz D gx t<=fT n l d0' bx Bz lz D' gx' t:=by
 unfold fT;exact dZ (RN (Sq _ (jL (dZ (AS _) hD))) (jL (dZ (dZ (AS _) h0) (Sj hg _))))
  (Sq _ (jL (dZ (AS _) hD)))
theorem Ee{f g:Nat->Nat}{k X:Nat}:∀m,(∀i,i<=m->f i+g (k-i)<=X)->GR f g k m<=X
 | 0,h=>by unfold GR;have:=h 0 (AS _);simpa using this
 | m+1,h=>by
  unfold GR;rw[Ik];have h1:=h (m+1) (AS _);have h2:=Ee (k:=k) m λi hi=>h i zo;omega
theorem vR{f g f' g':Nat->Nat}(hf:∀i,f i<=f' i)(hg:∀i,g i<=g' i)(hm:∀i j,i<=j->g' i<=g' j){k k':Nat}(hk:k<=k'):GR f g k k<=GR f' g' k' k':=
 Ee k λi hi=>AI (Rr (hf i) (hg (k-i))) (vk (f:=f') hm (show i+(k-i)<=k' by omega) k' zo)
theorem KO{l Vl bs b1 b2 d D1 D2 d':Nat}(hd:d<=d'):fV l Vl bs b1 b2 d D1 D2<=fV l Vl bs b1 b2 d' D1 D2:=by
 unfold fV;have:=Sq (E4 bs) (jL (dZ (AS l) hd));omega
theorem Kr{bs b1 b2 o1 o2 n l l1 l2 D1 D2 lump Vl kap gs g1 g2 ts t1 t2 d0 d W gs' g1' g2' ts' t1' t2' d0' d' W':Nat}(hgs:gs<=gs')(hg1:g1<=g1')(hg2:g2<=g2')
  (hts:ts<=ts') (ht1:t1<=t1') (ht2:t2<=t2') (h0:d0<=d0') (hd:d<=d') (hW:W<=W') :
  fC bs b1 b2 o1 o2 n l l1 l2 D1 D2 lump Vl kap gs g1 g2 ts t1 t2 d0 d W<=fC bs b1 b2 o1 o2 n l l1 l2 D1 D2 lump Vl kap gs' g1' g2' ts' t1' t2' d0' d' W':=by
 unfold fC;have a:=λB lz=>Lb (n:=n) (lump:=lump) (D1:=D1) (D2:=D2) (B:=B) (lz:=lz) hgs hg1 hg2 h0 hd;have x0:=λBz lz t=>wG (n:=n) (l:=l) (bx:=bs) (Bz:=Bz) (lz:=lz) (t:=t) h0 hd hgs;have x1:=λBz lz t=>wG (n:=n) (l:=l) (bx:=b1) (Bz:=Bz) (lz:=lz) (t:=t) h0 (AS D1) hg1;have x2:=λBz lz t=>wG (n:=n) (l:=l) (bx:=b2) (Bz:=Bz) (lz:=lz) (t:=t) h0 (AS D2) hg2;refine Rr (Rr (Rr (dZ (Rr (a _ _) (Rr (Rr ?_ ?_) ?_)) (KO hd)) (Rr (a _ _) (a _ _)))
  (Rr (Rr ?_ ?_) ?_)) (Rb _ hW)
 ·exact AI (x0 _ _ _) (gw hts)
 ·exact AI (x1 _ _ _) (gw ht1)
 ·exact AI (x2 _ _ _) (gw ht2)
 ·exact vR (g':=fT _ _ _ _ _ _ _ _) (λi=>x0 _ _ i) (λi=>x0 _ _ i) (λi j h=>gw h) hts
 ·exact vR (g':=fT _ _ _ _ _ _ _ _) (λi=>x1 _ _ i) (λi=>x1 _ _ i) (λi j h=>gw h) ht1
 ·exact vR (g':=fT _ _ _ _ _ _ _ _) (λi=>x2 _ _ i) (λi=>x2 _ _ i) (λi j h=>gw h) ht2
theorem Lh{n G G':Nat}(h:G<=G'):∀e,fW n G e<=fW n G' e
 | 0=>AS _
 | e+1=>by
  show 2 ^ (mn n (4*(e+1))+G-e)+e-1<=2 ^ (mn n (4*(e+1))+G'-e)+e-1;have:=dG (show mn n (4*(e+1))+G-e<=mn n (4*(e+1))+G'-e by omega);omega
theorem sK{f:Nat->Nat}{i:Nat}:∀{k:Nat},i<=k->f i<=EP f k
 | 0,h=>by
  have:i=0:=by omega
  subst this;exact AS _
 | k+1,h=>by
  unfold EP;rw[Ik];by_cases e:i=k+1
  ·subst e;omega
  ·have:=sK (f:=f) (show i<=k by omega);omega
theorem JH{bs b1 b2 o1 o2 n l l1 l2 D1 D2 lump Vl kap gs g1 g2 d0 r:Nat}(hs:gs<=bs)(h1:g1<=b1)(h2:g2<=b2)(h0:d0<=mn 4 (n+(gs+g1+g2))) :
  fC bs b1 b2 o1 o2 n l l1 l2 D1 D2 lump Vl kap gs g1 g2 (bs-gs) (b1-g1) (b2-g2) d0 (mn 4 (d0+r)) (fW n (gs+g1+g2) d0)<=fQ bs b1 b2 o1 o2 n l l1 l2 D1 D2 lump Vl kap r:=by
 have hd:d0<=mn 4 (n+(bs+b1+b2)):=AI h0 (dZ (AS _) zo);unfold fQ;exact Kr hs h1 h2 (Nat.sub_le _ _) (Nat.sub_le _ _) (Nat.sub_le _ _) hd (dZ (AS _) (Nat.add_le_add_right hd _))
  (AI (Lh (show gs+g1+g2<=bs+b1+b2 by omega) d0) (sK (f:=fW n (bs+b1+b2)) hd))
theorem HJ{bs b1 b2 o1 o2 n l l1 l2 D1 D2 lump Vl kap gs g1 g2 d0 r:Nat}(hs:gs<=bs)(h1:g1<=b1)(h2:g2<=b2)(h0:d0<=mn 4 (n+(gs+g1+g2))) :
  fC bs b1 b2 o1 o2 n l l1 l2 D1 D2 lump Vl kap gs g1 g2 (bs-gs) (b1-g1) (b2-g2) d0 (mn 4 (d0+r)) (fW n (gs+g1+g2) d0)<=fF bs b1 b2 o1 o2 n l l1 l2 D1 D2 lump Vl kap r:=by
 unfold fF;refine AI ?_ (sK (f:=λgs=>EP (λg1=>EP (λg2=>EP (λd0=>_) _) b2) b1) hs);refine AI ?_ (sK (f:=λg1=>EP (λg2=>EP (λd0=>_) _) b2) h1);refine AI ?_ (sK (f:=λg2=>EP (λd0=>_) _) h2);exact sK (f:=λd0=>fC bs b1 b2 o1 o2 n l l1 l2 D1 D2 lump Vl kap gs g1 g2 (bs-gs) (b1-g1) (b2-g2) d0 (mn 4 (d0+r)) (fW n (gs+g1+g2) d0)) h0
theorem qX{f:Nat->Bool}{i:Nat}:∀{k:Nat},Gj f k=true->i<=k->f i=true
 | 0,h,hi=>by
  have:i=0:=by omega
  subst this;exact h
 | k+1,h,hi=>by
  unfold Gj at h;rw[IN] at h;by_cases e:i=k+1
  ·subst e;exact h.1
  ·exact qX h.2 zo
theorem wC{s:Nat}{f:Nat->Nat->Nat->Nat->Bool}(h:Hn s f=true){a b c d:Nat}(hs:a+b+c+d=s):f a b c d=true:=by
 unfold Hn at h;have h1:=qX h (show a<=s by omega);have h2:=qX h1 (show b<=s-a by omega);have h3:=qX h2 (show c<=s-a-b by omega);have e:s-a-b-c=d:=by omega
 rw[e] at h3;exact h3
section
variable {R:List Ru}{s0:Nat}{ws:List (List Nat)}
theorem Mr(ok:lQ R)(hE:∀M,M<4->(Lf R [3+M]).length<=1):∀M,M<4->2 ^ (Lf R [3+M]).length<=(bif Nat.beq (rT R) 0 then 1 else 2):=by
 intro M hM;cases hr:rT R with
 | zero=>
  have h:=AI (AI (de R [3+M]) (nB (λM=>cn R [3+M]) hM)) (Br ok);rw[hr] at h;have:(Lf R [3+M]).length=0:=by omega
  rw[this];exact AS _
 | succ r=>
  have e0:Nat.beq (r+1) 0=false:=rfl;rw[e0,Ri];exact dG (hE M hM)
theorem bJ.Nj(G:bJ R s0 ws)(hE:∀M,M<4->(Lf R [3+M]).length<=1){a b c:Nat}(ha:a<3)(hb:b<3)(hc:c<3)
  (h0:∀f:Nat->Nat,u3 f=f a+f b+f c) (h4:4<=cn R [a]) (hbc:cn R [c]<=cn R [b]) (hn:oO R+rT R≠0):ws.length<=398:=by
 have h1:∀f:Nat->Nat,u3 f=f b+f a+f c:=λf=>by rw[h0];omega
 have h2:∀f:Nat->Nat,u3 f=f c+f a+f b:=λf=>by rw[h0];omega
 have hB:=G.M0 hE (Mr G.ok hE) ha hb hc h0 h1 h2;have r8:=Nb G.ok;rw[h0] at r8;have la:=HW R a;have lb:=HW R b;have lc:=HW R c;rw[h0] at la lb lc;have hT:=JS h4 hbc (show cn R [a]+cn R [b]+cn R [c]<=8 by omega);unfold uF at hT;have e8:8-cn R [a]-cn R [b]-cn R [c]=rT R:=by omega
 rw[e8] at hT;have hT:=wC (wC (wC hT (a:=cn R [a,a]) (b:=cn R [a,b]) (c:=cn R [a,c]) (d:=nT R a) la) (a:=cn R [b,a]) (b:=cn R [b,b]) (c:=cn R [b,c]) (d:=nT R b) lb)
  (a:=cn R [c,a]) (b:=cn R [c,b]) (c:=cn R [c,c]) (d:=nT R c) lc
 have hnn:oO R=nT R a+nT R b+nT R c:=h0 _;rw[<-hnn,Sr] at hT;have hT:Pm (cn R [a,a]) (cn R [a,b]) (cn R [a,c]) (nT R a) (cn R [b,a]) (cn R [b,b]) (cn R [b,c]) (nT R b) (cn R [c,a]) (cn R [c,b]) (cn R [c,c]) (nT R c) (rT R)=true:=by
  rcases hT with hT | hT
  ·exact absurd (RF hT) hn
  ·exact hT
 have hd:=λy=>NP G.ok y;have d0:∀y z1 z2,(∀f:Nat->Nat,u3 f=f y+f z1+f z2)->(lF R y).length<=mn 4 (nT R y+(gT R y y+gT R z1 y+gT R z2 y)):=λy z1 z2 hp=>by
  have:=hd y;rw[hp] at this;rw[dN];exact this
 have eD0:DT R a=mn 4 (nT R a+(cn R [a,a]+cn R [b,a]+cn R [c,a])+rT R):=by unfold DT;rw[h0]
 have eD1:DT R b=mn 4 (nT R b+(cn R [b,b]+cn R [a,b]+cn R [c,b])+rT R):=by unfold DT;rw[h1]
 have eD2:DT R c=mn 4 (nT R c+(cn R [c,c]+cn R [a,c]+cn R [b,c])+rT R):=by unfold DT;rw[h2]
 have eO:E4 (cn R [a])+E4 (cn R [b])+E4 (cn R [c])+rT R+(xe (nT R a)+xe (nT R b)+xe (nT R c))*(bif Nat.beq (rT R) 0 then 1 else 2) +
   (bif Nat.beq (rT R) 0 then 0 else mn (2 ^ (oO R+rT R)) (32*rT R)+4*rT R) =
   fO (cn R [a,a]) (cn R [a,b]) (cn R [a,c]) (nT R a) (cn R [b,a]) (cn R [b,b]) (cn R [b,c]) (nT R b) (cn R [c,a]) (cn R [c,b]) (cn R [c,c]) (nT R c) (rT R):=by
  unfold fO;simp only[la,lb,lc,<-hnn]
 rw[eO] at hB;unfold Pm at hT;rw[Sr] at hT;rcases hT with hT | hT
 ·have hT:=Sw hT;refine AI hB (AI (Sj ?_ _) hT);unfold fS;simp only[la,lb,lc,<-hnn,<-eD0,<-eD1,<-eD2];exact Rr (Rr (JH (fe R a a) (fe R b a) (fe R c a) (d0 a b c h0)) (JH (fe R b b) (fe R a b) (fe R c b) (d0 b a c h1)))
   (JH (fe R c c) (fe R a c) (fe R b c) (d0 c a b h2))
 ·have hT:=Sw hT;refine AI hB (AI (Sj ?_ _) hT);unfold fS;simp only[la,lb,lc,<-hnn,<-eD0,<-eD1,<-eD2];exact Rr (Rr (HJ (fe R a a) (fe R b a) (fe R c a) (d0 a b c h0)) (HJ (fe R b b) (fe R a b) (fe R c b) (d0 b a c h1)))
   (HJ (fe R c c) (fe R a c) (fe R b c) (d0 c a b h2))
end
end Bd
set_option linter.unusedVariables false
namespace Bd
def sl(L:List Nat)(f:Nat->Nat):Nat:=(L.map f).sum
theorem km(f:Nat->Nat):sl [] f=0:=rfl
theorem dg(a:Nat)(L:List Nat)(f:Nat->Nat):sl (a::L) f=f a+sl L f:=by simp[sl]
theorem Fz(L M:List Nat)(f:Nat->Nat):sl (L++M) f=sl L f+sl M f:=by simp[sl]
theorem ep{L:List Nat}{f g:Nat->Nat}(h:∀i∈L,f i<=g i):sl L f<=sl L g:=by
 induction L with
 | nil=>simp[sl]
 | cons a L ih=>
  rw[dg,dg];have:=h a me;have:=ih λi hi=>h i (I9 _ hi);omega
theorem my(L:List Nat)(f g:Nat->Nat):sl L (λi=>f i+g i)=sl L f+sl L g:=by
 induction L with
 | nil=>rfl
 | cons a L ih=>simp only[dg];omega
theorem gZ(L:List Nat)(f:Nat->Nat)(c:Nat):sl L (λi=>f i*c)=sl L f*c:=by
 induction L with
 | nil=>simp[sl]
 | cons a L ih=>simp only[dg,R3];omega
theorem mH(L M:List Nat)(f:Nat->Nat->Nat):sl L (λx=>sl M λy=>f x y)=sl M λy=>sl L λx=>f x y:=by
 induction L with
 | nil=>
  induction M with
  | nil=>rfl
  | cons a M ih=>simp only[dg,km] at ih ⊢;omega
 | cons a L ih=>rw[dg,ih];simp only[dg];exact(my M (λy=>f a y) λy=>sl L λx=>f x y).symm
theorem G9(f:Nat->Nat):sm f=sl (List.range 7) f:=(gD f).symm
def aM(L:List Nat):List Nat:=(List.range 7).filter λz=>z∉L
theorem uP{L:List Nat}(hL:L.Nodup)(h7:∀z∈L,z<7)(f:Nat->Nat):sm f=sl L f+sl (aM L) f:=by
 rw[G9,<-Fz];unfold sl;apply List.Perm.sum_nat;apply List.Perm.map;refine(Tk Uc ?_).2 λz=>?_
 ·rw[SD];refine⟨hL,R1 _ Uc,λa ha b hb e=>?_⟩;subst e;unfold aM at hb;rw[Ra] at hb;exact absurd ha (by simpa using hb.2)
 ·rw[Rx];unfold aM;rw[Ra,Rm];constructor
  ·intro h;by_cases hz:z∈L
   ·exact .inl hz
   ·exact .inr ⟨h,by simpa using hz⟩
  ·rintro(h | h)
   ·exact h7 z h
   ·exact h.1
theorem IB{F:Nat->Nat}{N:Nat}(h0:F 0=0)(hs:∀x y,x+y<=N->F x+F y<=F (x+y))(L:List Nat)(a:Nat->Nat)(h:sl L a<=N):sl L (λi=>F (a i))<=F (sl L a):=by
 induction L with
 | nil=>rw[km,km,h0];exact AS 0
 | cons x L ih=>
  rw[dg] at h;rw[dg,dg];have:=ih zo;have:=hs (a x) (sl L a) zo;omega
theorem Mp(L:List Nat)(t b:Nat->Nat):sl L (λz=>(2 ^ t z-1)*2 ^ b z)<=(2 ^ sl L t-1)*2 ^ sl L b:=by
 induction L with
 | nil=>simp[sl]
 | cons x L ih=>
  simp only[dg];refine AI (Sj ih _) ?_;generalize sl L t=T;generalize sl L b=B;have p1:0<2 ^ t x:=TK zo;have p2:0<2 ^ T:=TK zo;have p3:0<2 ^ b x:=TK zo;have p4:0<2 ^ B:=TK zo;rw[Tj,Tj];generalize 2 ^ t x=u at *;generalize 2 ^ T=v at *;generalize 2 ^ b x=c at *;generalize 2 ^ B=d at *;obtain⟨u,rfl⟩:∃k,u=k+1:=⟨u-1,by omega⟩;obtain⟨v,rfl⟩:∃k,v=k+1:=⟨v-1,by omega⟩;obtain⟨c,rfl⟩:∃k,c=k+1:=⟨c-1,by omega⟩;obtain⟨d,rfl⟩:∃k,d=k+1:=⟨d-1,by omega⟩;have e:(u+1)*(v+1)-1=u*v+u+v:=by
   rw[R3,Uo,Uo];omega
  rw[e];simp only[SY];have h1:u*(c+1)<=(u*v+u)*((c+1)*(d+1)):=by
   refine RN zo ?_;have:(c+1)*1<=(c+1)*(d+1):=Sq _ zo;omega
  have h2:v*(d+1)<=v*((c+1)*(d+1)):=by
   refine Sq _ ?_;have:1*(d+1)<=(c+1)*(d+1):=Rb _ zo;omega
  have h3:(u*v+u+v)*((c+1)*(d+1))=(u*v+u)*((c+1)*(d+1))+v*((c+1)*(d+1)):=R3 _ _ _;omega
end Bd
set_option linter.unusedVariables false
namespace Bd
def AH(n:Nat):Nat:=[0,1,3,7,11,12,14,18,22].getD n 22
def je(n:Nat):Nat:=n*2 ^ (min 4 n-1)
theorem Js:∀x y:Fin 9,x.1+y.1<=8->AH x.1+AH y.1<=AH (x.1+y.1):=by decide
theorem KX(x y:Nat)(h:x+y<=8):AH x+AH y<=AH (x+y):=Js ⟨x,by omega⟩ ⟨y,by omega⟩ h
theorem FJ:∀x y:Fin 9,x.1<=y.1->AH x.1<=AH y.1:=by decide
theorem HC{x y:Nat}(h:x<=y)(hy:y<=8):AH x<=AH y:=FJ ⟨x,by omega⟩ ⟨y,by omega⟩ h
theorem FE:∀x y:Fin 9,x.1+y.1<=8->je x.1+je y.1<=je (x.1+y.1):=by decide
theorem Jb(x y:Nat)(h:x+y<=8):je x+je y<=je (x+y):=FE ⟨x,by omega⟩ ⟨y,by omega⟩ h
theorem Dj:∀x y:Fin 9,x.1<=y.1->je x.1<=je y.1:=by decide
theorem Fj{x y:Nat}(h:x<=y)(hy:y<=8):je x<=je y:=Dj ⟨x,by omega⟩ ⟨y,by omega⟩ h
theorem JT:∀n:Fin 9,min (2 ^ min 4 n.1-1) 11<=AH n.1:=by decide
theorem LV{K n:Nat}(hK:K<=12)(h:n<=8):mR K n<=AH n:=by
 have:=JT ⟨n,by omega⟩;unfold mR;simp only at this;omega
theorem Ld:∀b t:Fin 9,t.1<=b.1->2 ^ min 4 b.1-2 ^ (min 4 b.1-min 4 t.1)<=t.1*2 ^ (min 4 b.1-1):=by decide
theorem JC{K b t:Nat}(hb:b<=8)(h:t<=b):Ln K b t<=t*2 ^ (min 4 b-1):=by
 have:=Ld ⟨b,by omega⟩ ⟨t,by omega⟩ h;unfold Ln;simp only at this;omega
theorem Jk{K n:Nat}:mR K n<=2 ^ n-1:=by
 unfold mR;have:2 ^ min 4 n<=2 ^ n:=Rz zo zo;omega
theorem sF{K n:Nat}(h:n<=1):mR K n<=n:=by
 have:=Jk (K:=K) (n:=n);have h2:n=0\/n=1:=by omega
 have e:2 ^ n-1=n:=by rcases h2 with rfl | rfl<;>rfl
 omega
theorem Kf{K a b:Nat}(h:a<=b):mR K a<=mR K b:=by
 unfold mR;have:2 ^ min 4 a<=2 ^ min 4 b:=Rz zo zo;omega
theorem Nt{K b t:Nat}(hb:b<=8)(h:t<=b):Ln K b t<=mR K b:=by
 unfold Ln mR;have:0<2 ^ (min 4 b-min 4 t):=TK zo;omega
section
variable (K C H:Nat)(p:Nat->Nat)(b:Nat->Nat->Nat)(t:Nat->Nat->Nat->Nat)(L:List Nat)
def mY(x:Nat):Nat:=sl (aM L) λw=>b w x
def nY(x:Nat):Nat:=p x-sl L (b x)
def vY(y:Nat):Nat:=nh K C H p y+(sl L (λx=>mR K (b x y)*gR K C H p b x y)+mY b L y*kC K C H p y)
def yN(lf j:Nat):Nat:=
 sl L (nh K C H p)+j +
 sl L (λy=>
  sl L (λz=>min (mR K (b y z)*gR K C H p b y z+(sl L (λx=>mR K (b x y)*min (kV K C H b y z*kC K C H p z) (gR K C H p b x y))
    + mY b L y*min (kV K C H b y z*kC K C H p z) (kC K C H p y))) (vY K C H p b L y))
   + (lf*AH (nY p b L y)+(sl L (λx=>min (lf*((2 ^ b x y-1)*2 ^ nY p b L y)) (je (b x y)*gR K C H p b x y))
    + mY b L y*min (lf*2 ^ nY p b L y) (kC K C H p y)))
   + (lf*je (nY p b L y)+mY b L y*kC K C H p y))
 + (j-sl L (mY b L))*(2*lf)
end
section
variable {K C H:Nat}{p:Nat->Nat}{b:Nat->Nat->Nat}{t:Nat->Nat->Nat->Nat}{L:List Nat}{lf:Nat}
structure uG(p:Nat->Nat)(b:Nat->Nat->Nat)(t:Nat->Nat->Nat->Nat)(L:List Nat)(lf:Nat):Prop where
 O8:L.Nodup
 lt:∀z∈L,z<7
 m5:sm p<=8
 row:∀x,sm (b x)<=p x
 ends:∀x y,sm (t x y)<=b x y
 LP:∀z∈aM L,p z<=1
 lf:∀z∈aM L,2 ^ p z<=lf
theorem C6(f:Nat->Nat)(i:Nat)(h:i<7):f i<=sm f:=by
 have:i=0\/i=1\/i=2\/i=3\/i=4\/i=5\/i=6:=by omega
 unfold sm;rcases this with rfl | rfl | rfl | rfl | rfl | rfl | rfl<;>omega
theorem gv{z:Nat}(h:z∈aM L):z<7:=by
 unfold aM at h;rw[Ra,Rm] at h;exact h.1
theorem Ma(z:Nat):kC K C H p z<=2 ^ p z:=by
 have:2 ^ min 4 (p z)<=2 ^ p z:=Rz zo zo;unfold kC;split<;>omega
theorem ET(y z:Nat):kV K C H b y z<=2 ^ b y z:=by
 have:2 ^ min 4 (b y z)<=2 ^ b y z:=Rz zo zo;unfold kV;split<;>omega
theorem pX(x y:Nat):gR K C H p b x y<=kC K C H p y:=by unfold gR;omega
theorem Ni(z:Nat)(h:p z<=1):nh K C H p z<=p z:=by
 have:=sF (K:=K) h;unfold nh;split<;>omega
variable (c:uG p b t L lf)(hK:K<=12)
include c
theorem uG.p8(x:Nat)(hx:x<7):p x<=8:=AI (C6 p x hx) c.m5
theorem uG.b8(x y:Nat)(hx:x<7)(hy:y<7):b x y<=p x:=AI (C6 (b x) y hy) (c.row x)
theorem uG.t8(x y z:Nat)(hz:z<7):t x y z<=b x y:=AI (C6 (t x y) z hz) (c.ends x y)
theorem uG.Oa(z:Nat)(hz:z∈aM L):kC K C H p z<=lf:=AI (Ma z) (c.lf z hz)
theorem uG.FN(f:Nat->Nat):sm f=sl L f+sl (aM L) f:=uP c.O8 c.lt f
theorem uG.bn(x:Nat):sl (aM L) (b x)<=nY p b L x:=by
 have:=c.row x;rw[c.FN] at this;unfold nY;omega
theorem uG.Lz(x y z:Nat)(hx:x<7)(hy:y<7)(hz:z<7) :
  vN K C H p b t x y z<=mR K (b x y)*min (kV K C H b y z*kC K C H p z) (gR K C H p b x y):=by
 unfold vN;have h8:=AI (c.b8 x y hx hy) (c.p8 x hx);have h1:=Kf (K:=K) (c.t8 x y z hz);have h2:=Nt (K:=K) h8 (c.t8 x y z hz);rcases Tw (kV K C H b y z*kC K C H p z) (gR K C H p b x y) with e | e
 ·rw[Se e,<-S5];refine AI (TP _ _) ?_;rw[S5,S5];exact Rb _ h1
 ·rw[Tc e];exact AI (TH _ _) (Rb _ h2)
theorem uG.Hw(x y:Nat)(hx:x<7)(hy:y<7)(Z:List Nat)(hZ:∀z∈Z,z<7)(ht:sl Z (t x y)<=b x y) :
  sl Z (λz=>vN K C H p b t x y z)<=je (b x y)*gR K C H p b x y:=by
 have h8:=AI (c.b8 x y hx hy) (c.p8 x hx);refine AI (ep (g:=λz=>t x y z*(2 ^ (min 4 (b x y)-1)*gR K C H p b x y)) λz hz=>?_) ?_
 ·unfold vN;refine AI (TH _ _) ?_;rw[<-S5];exact Rb _ (JC h8 (c.t8 x y z (hZ z hz)))
 ·rw[gZ];unfold je;rw[S5];exact Rb _ ht
end
end Bd
set_option linter.unusedVariables false
namespace Bd
section
variable {K C H:Nat}{p:Nat->Nat}{b:Nat->Nat->Nat}{t:Nat->Nat->Nat->Nat}{L:List Nat}{lf:Nat}
theorem nX{L:List Nat}(f:Nat->Nat){i:Nat}(h:i∈L):f i<=sl L f:=by
 induction L with
 | nil=>exact absurd h Sz
 | cons a L ih=>
  rw[dg];rcases Rt.1 h with rfl | h
  ·omega
  ·have:=ih h;omega
variable (c:uG p b t L lf)(hK:K<=12)
include c
theorem uG.rb(x y:Nat)(hx:x∈aM L)(hy:y<7):b x y<=1:=AI (c.b8 x y (gv hx) hy) (c.LP x hx)
theorem uG.tr(x y:Nat):sl (aM L) (t x y)<=b x y:=by
 have:=c.ends x y;rw[c.FN] at this;omega
theorem uG.n8(y:Nat)(hy:y<7):nY p b L y<=8:=by
 have:=c.p8 y hy;unfold nY;omega
theorem uG.NH(y:Nat)(hy:y<7):vX K C H p b y<=vY K C H p b L y:=by
 unfold vX vY;rw[c.FN];refine Sj (Sj ?_ _) _;unfold mY;rw[<-gZ];exact ep λx hx=>RN (sF (c.rb x y hx hy)) (pX x y)
theorem uG.cell(y z:Nat)(hy:y<7)(hz:z<7):(sm λx=>vN K C H p b t x y z)<=
  sl L (λx=>mR K (b x y)*min (kV K C H b y z*kC K C H p z) (gR K C H p b x y))+mY b L y*min (kV K C H b y z*kC K C H p z) (kC K C H p y):=by
 rw[c.FN];refine Rr (ep λx hx=>c.Lz x y z (c.lt x hx) hy hz) ?_;unfold mY;rw[<-gZ];refine ep λx hx=>AI (c.Lz x y z (gv hx) hy hz) (RN (sF (c.rb x y hx hy)) ?_);have:=pX (K:=K) (C:=C) (H:=H) (p:=p) (b:=b) x y;omega
theorem uG.QH(y:Nat)(hy:y<7):sl (aM L) (λz=>sm λx=>vN K C H p b t x y z)<=
  sl L (λx=>min (lf*((2 ^ b x y-1)*2 ^ nY p b L y)) (je (b x y)*gR K C H p b x y))+mY b L y*min (lf*2 ^ nY p b L y) (kC K C H p y):=by
 have e:sl (aM L) (λz=>sm λx=>vN K C H p b t x y z)=sl L (λx=>sl (aM L) λz=>vN K C H p b t x y z)+sl (aM L) (λx=>sl (aM L) λz=>vN K C H p b t x y z):=by
  rw[mH L (aM L),mH (aM L) (aM L),<-my];congr 1;funext z;exact c.FN _
 rw[e];refine Rr (ep λx hx=>T4.2 ⟨?_,c.Hw x y (c.lt x hx) hy _ (λz hz=>gv hz) (c.tr x y)⟩) ?_
 ·refine AI (ep (g:=λz=>(2 ^ t x y z-1)*2 ^ b y z*lf) λz hz=>?_) ?_
  ·unfold vN;exact AI (TP _ _) (RN (RN Jk (ET y z)) (c.Oa z hz))
  ·rw[gZ,SU lf];refine Rb _ (AI (Mp _ _ _) (RN ?_ (Rz zo (c.bn y))));have:2 ^ sl (aM L) (t x y)<=2 ^ b x y:=Rz zo (c.tr x y);exact Nat.sub_le_sub_right this 1
 ·unfold mY;rw[<-gZ];refine ep λx hx=>?_;have hb:=c.rb x y hx hy;refine AI (ep (g:=λz=>t x y z*min (lf*2 ^ nY p b L y) (kC K C H p y)) λz hz=>?_) ?_
  ·have ht:=c.t8 x y z (gv hz);unfold vN;have h1:mR K (t x y z)*kV K C H b y z*kC K C H p z<=t x y z*(lf*2 ^ nY p b L y):=by
    rw[S5];refine RN (sF zo) ?_;rw[SU lf];exact RN (AI (ET y z) (Rz zo (AI (nX (b y) hz) (c.bn y)))) (c.Oa z hz)
   have h2:Ln K (b x y) (t x y z)*gR K C H p b x y<=t x y z*kC K C H p y:=by
    refine RN (AI (JC zo ht) ?_) (pX x y);have:min 4 (b x y)-1=0:=by omega
    rw[this];omega
   rcases Tw (lf*2 ^ nY p b L y) (kC K C H p y) with e | e
   ·rw[Se e];omega
   ·rw[Tc e];omega
  ·rw[gZ];exact Rb _ (c.tr x y)
theorem uG.PD(hK:K<=12)(y:Nat)(hyL:y∈L):(sm λz=>min (mR K (b y z)*gR K C H p b y z+sm λx=>vN K C H p b t x y z) (vX K C H p b y))<=
  sl L (λz=>min (mR K (b y z)*gR K C H p b y z+(sl L (λx=>mR K (b x y)*min (kV K C H b y z*kC K C H p z) (gR K C H p b x y))
    + mY b L y*min (kV K C H b y z*kC K C H p z) (kC K C H p y))) (vY K C H p b L y))
   + (lf*AH (nY p b L y)+(sl L (λx=>min (lf*((2 ^ b x y-1)*2 ^ nY p b L y)) (je (b x y)*gR K C H p b x y))
    + mY b L y*min (lf*2 ^ nY p b L y) (kC K C H p y))):=by
 have hy:=c.lt y hyL;rw[c.FN];refine Rr (ep λz hz=>?_) ?_
 ·have h1:=c.cell (K:=K) (C:=C) (H:=H) y z hy (c.lt z hz);have h2:=c.NH (K:=K) (C:=C) (H:=H) y hy;exact T4.2 ⟨AI (TP _ _) (Sj h1 _),AI (TH _ _) h2⟩
 ·refine AI (ep (g:=λz=>mR K (b y z)*gR K C H p b y z+sm λx=>vN K C H p b t x y z) λz _=>TP _ _) ?_;rw[my];refine Rr ?_ (c.QH y hy);have h8:=c.n8 y hy;refine AI (ep (g:=λz=>AH (b y z)*lf) λz hz=>?_) ?_
  ·refine RN (LV hK ?_) (AI (pX y z) (c.Oa z hz));exact AI (nX (b y) hz) (AI (c.bn y) h8)
  ·rw[gZ,SU lf];refine Rb _ (AI (IB (F:=AH) (N:=8) rfl KX _ _ (AI (c.bn y) h8)) (HC (c.bn y) h8))
theorem uG.LI:sl (aM L) (λy=>sl (aM L) λz=>b y z)<=sl (aM L) p-sl L (mY b L):=by
 have h:sl (aM L) (λy=>sm (b y))<=sl (aM L) p:=ep λy _=>c.row y;have e:sl (aM L) (λy=>sm (b y))=sl L (mY b L)+sl (aM L) (λy=>sl (aM L) λz=>b y z):=by
  have:(λy=>sm (b y))=λy=>sl L (λz=>b y z)+sl (aM L) λz=>b y z:=by funext y;exact c.FN _
  rw[this,my,mH];rfl
 omega
theorem uG.wV:sl (aM L) (λy=>sm λz=>min (mR K (b y z)*gR K C H p b y z+sm λx=>vN K C H p b t x y z) (vX K C H p b y))<=
  sl L (λx=>lf*je (nY p b L x)+mY b L x*kC K C H p x)+(sl (aM L) p-sl L (mY b L))*(2*lf):=by
 have hA:sl (aM L) (λy=>sm λz=>mR K (b y z)*gR K C H p b y z)<=sl L (λz=>mY b L z*kC K C H p z)+sl (aM L) (λy=>sl (aM L) λz=>b y z)*lf:=by
  refine AI (ep (g:=λy=>sl L (λz=>b y z*kC K C H p z)+(sl (aM L) λz=>b y z)*lf) λy hy=>?_) ?_
  ·rw[c.FN];refine Rr (ep λz hz=>RN (sF (c.rb y z hy (c.lt z hz))) (pX y z)) ?_;rw[<-gZ];exact ep λz hz=>RN (sF (c.rb y z hy (gv hz))) (AI (pX y z) (c.Oa z hz))
  ·rw[my,gZ,mH];refine Nat.add_le_add_right (ep λz _=>?_) _;unfold mY;rw[gZ];exact AS _
 have hB:sl (aM L) (λy=>sm λz=>sm λx=>vN K C H p b t x y z)<=sl L (λx=>lf*je (nY p b L x))+sl (aM L) (λy=>sl (aM L) λz=>b y z)*lf:=by
  have hs:∀x y,x<7->y∈aM L->(sm λz=>vN K C H p b t x y z)<=je (b x y)*lf:=λx y hx hy=>by
   rw[G9];refine AI (c.Hw x y hx (gv hy) _ (λz hz=>Rm.1 hz) ?_) (Sq _ (AI (pX x y) (c.Oa y hy)));have:=c.ends x y;rw[G9] at this;exact this
  refine AI (ep (g:=λy=>sl L (λx=>je (b x y)*lf)+sl (aM L) λx=>b x y*lf) λy hy=>?_) ?_
  ·have e:(sm λz=>sm λx=>vN K C H p b t x y z)=sm λx=>sm λz=>vN K C H p b t x y z:=by simp only[sm];omega
   rw[e,c.FN];refine Rr (ep λx hx=>hs x y (c.lt x hx) hy) (ep λx hx=>AI (hs x y (gv hx) hy) (Rb _ ?_));have h1:=c.rb x y hx (gv hy);have h2:b x y=0\/b x y=1:=by omega
   rcases h2 with h2 | h2<;>rw[h2]<;>decide
  ·rw[my];refine Rr ?_ ?_
   ·rw[mH];refine ep λx hx=>?_;have h8:=c.n8 x (c.lt x hx);rw[gZ,SU lf];exact Rb _ (AI (IB (F:=je) (N:=8) rfl Jb _ _ (AI (c.bn x) h8)) (Fj (c.bn x) h8))
   ·rw[mH];simp only[gZ];exact AS _
 have hW:=c.LI;have hS:sl (aM L) (λy=>sm λz=>min (mR K (b y z)*gR K C H p b y z+sm λx=>vN K C H p b t x y z) (vX K C H p b y))<=
   sl (aM L) (λy=>sm λz=>mR K (b y z)*gR K C H p b y z)+sl (aM L) (λy=>sm λz=>sm λx=>vN K C H p b t x y z):=by
  rw[<-my];refine ep λy _=>?_;rw[<-pV];exact gf λz _=>TP _ _
 have hW2:=Rb (2*lf) hW;rw[my];have e2:sl (aM L) (λy=>sl (aM L) λz=>b y z)*(2*lf)=sl (aM L) (λy=>sl (aM L) λz=>b y z)*lf+sl (aM L) (λy=>sl (aM L) λz=>b y z)*lf:=by
  rw[<-Uo];congr 1;omega
 omega
theorem uG.FX(hK:K<=12):dF K C H p b t<=yN K C H p b L lf (sl (aM L) p):=by
 unfold dF yN;have h1:sm (nh K C H p)<=sl L (nh K C H p)+sl (aM L) p:=by
  rw[c.FN];exact Sj (ep λz hz=>Ni z (c.LP z hz)) _
 rw[c.FN (λy=>sm λz=>_)];have h2:=ep λy hy=>c.PD (K:=K) (C:=C) (H:=H) hK y hy;have h3:=c.wV (K:=K) (C:=C) (H:=H);rw[my L (λy=>_+_) (λy=>lf*je (nY p b L y)+mY b L y*kC K C H p y)];omega
end
end Bd
set_option linter.unusedVariables false
namespace Bd
section
variable (K C H:Nat)(p:Nat->Nat)(b:Nat->Nat->Nat)(m n:Nat->Nat)(L:List Nat)
def sB(x y:Nat):Nat:=min (kC K C H p y) (2 ^ (p x-b x y+(sl L (λw=>b w x)+m x)))
def vZ(y:Nat):Nat:=nh K C H p y+(sl L (λx=>mR K (b x y)*sB K C H p b m L x y)+m y*kC K C H p y)
def rZ(lf j:Nat):Nat:=
 sl L (nh K C H p)+j +
 sl L (λy=>
  sl L (λz=>min (mR K (b y z)*sB K C H p b m L y z+(sl L (λx=>mR K (b x y)*min (kV K C H b y z*kC K C H p z) (sB K C H p b m L x y))
    + m y*min (kV K C H b y z*kC K C H p z) (kC K C H p y))) (vZ K C H p b m L y))
   + (lf*AH (n y)+(sl L (λx=>min (lf*((2 ^ b x y-1)*2 ^ n y)) (je (b x y)*sB K C H p b m L x y))
    + m y*min (lf*2 ^ n y) (kC K C H p y)))
   + (lf*je (n y)+m y*kC K C H p y))
 + (j-sl L m)*(2*lf)
end
theorem Hq{K C H:Nat}{p:Nat->Nat}{b:Nat->Nat->Nat}{L:List Nat}(hL:L.Nodup)(h7:∀z∈L,z<7)(lf j:Nat) :
  yN K C H p b L lf j=rZ K C H p b (mY b L) (nY p b L) L lf j:=by
 have e:gR K C H p b=sB K C H p b (mY b L) L:=by
  funext x y;unfold gR sB;rw[uP hL h7];rfl
 unfold yN rZ vY vZ;rw[e]
theorem Dr{K C H h:Nat}{p p':Nat->Nat}{b b':Nat->Nat->Nat}{m n m' n':Nat->Nat}{g:Nat->Nat}{k:Nat}(hg:∀i,i<k->(g i=H↔i=h))
  (hp:∀i,i<k->p (g i)=p' i) (hb:∀x,x<k->∀y,y<k->b (g x) (g y)=b' x y) (hm:∀i,i<k->m (g i)=m' i) (hn:∀i,i<k->n (g i)=n' i) (lf j:Nat) :
  rZ K C H p b m n ((List.range k).map g) lf j=rZ K C h p' b' m' n' (List.range k) lf j:=by
 have es:∀f:Nat->Nat,sl ((List.range k).map g) f=sl (List.range k) λi=>f (g i):=λf=>by
  unfold sl;rw[S3];rfl
 have ec:∀{f f':Nat->Nat},(∀i,i<k->f i=f' i)->sl (List.range k) f=sl (List.range k) f':=λ{f f'} h=>by
  unfold sl;congr 1;exact List.map_congr_left λi hi=>h i (Rm.1 hi)
 have nv:∀i,i<k->kC K C H p (g i)=kC K C h p' i:=λi hi=>by
  unfold kC;rw[hp i hi];by_cases e:i=h
  ·rw[If e,If ((hg i hi).2 e)]
  ·rw[By e,By λe2=>e ((hg i hi).1 e2)]
 have ne1:∀i,i<k->nh K C H p (g i)=nh K C h p' i:=λi hi=>by
  unfold nh;rw[hp i hi];by_cases e:i=h
  ·rw[If e,If ((hg i hi).2 e)]
  ·rw[By e,By λe2=>e ((hg i hi).1 e2)]
 have nv2:∀i,i<k->∀z,z<k->kV K C H b (g i) (g z)=kV K C h b' i z:=λi hi z hz=>by
  unfold kV;rw[hb i hi z hz];by_cases e:i=h
  ·rw[If e,If ((hg i hi).2 e)]
  ·rw[By e,By λe2=>e ((hg i hi).1 e2)]
 have lam:∀x,x<k->∀y,y<k->sB K C H p b m ((List.range k).map g) (g x) (g y)=sB K C h p' b' m' (List.range k) x y:=λx hx y hy=>by
  unfold sB;rw[nv y hy,es,hp x hx,hb x hx y hy,hm x hx,ec λw hw=>hb w hw x hx]
 unfold rZ vZ;simp only[es];congr 1
 ·congr 1
  ·congr 1;exact ec λi hi=>ne1 i hi
  ·refine ec λy hy=>?_;rw[nv y hy,ne1 y hy,hm y hy,hn y hy];have e1:sl (List.range k) (λx=>mR K (b (g x) (g y))*sB K C H p b m ((List.range k).map g) (g x) (g y)) =
    sl (List.range k) (λx=>mR K (b' x y)*sB K C h p' b' m' (List.range k) x y):=ec λx hx=>by rw[lam x hx y hy,hb x hx y hy]
   have e2:sl (List.range k) (λx=>min (lf*((2 ^ b (g x) (g y)-1)*2 ^ n' y)) (je (b (g x) (g y))*sB K C H p b m ((List.range k).map g) (g x) (g y))) =
    sl (List.range k) (λx=>min (lf*((2 ^ b' x y-1)*2 ^ n' y)) (je (b' x y)*sB K C h p' b' m' (List.range k) x y)):=ec λx hx=>by rw[lam x hx y hy,hb x hx y hy]
   rw[e1,e2];congr 1;congr 1;refine ec λz hz=>?_;rw[lam y hy z hz,nv z hz,nv2 y hy z hz,hb y hy z hz];congr 1;congr 1;congr 1;exact ec λx hx=>by rw[lam x hx y hy,hb x hx y hy]
 ·rw[ec λi hi=>hm i hi]
def qe:Nat->Nat->List (List Nat)
 | 0,_=>[[]]
 | k+1,n=>(List.range (n+1)).flatMap λi=>(qe k (n-i)).map λl=>i::l
theorem sA:∀{k n:Nat} {l:List Nat},l.length=k->l.sum<=n->l∈qe k n
 | 0,n,l,h,_=>by rw[List.length_eq_zero_iff.1 h];simp[qe]
 | k+1,n,i::l,h,hs=>by
  simp only[RG,Sy] at h hs;unfold qe;rw[SM];exact⟨i,Rm.2 zo,Rg.2 ⟨l,sA zo zo,rfl⟩⟩
def zJ(l:List Nat)(i:Nat):Nat:=l.getD i 0
def MY(l:List (List Nat))(i j:Nat):Nat:=(l.getD i []).getD j 0
def val(K C h:Nat)(ps:List Nat)(bm:List (List Nat))(ms:List Nat)(lf j:Nat):Nat:=
 rZ K C h (zJ ps) (MY bm) (zJ ms) (λx=>zJ ps x-(bm.getD x []).sum) (List.range ps.length) lf j
def Dv(k:Nat):List Nat->List (List (List Nat))
 | []=>[[]]
 | q::qs=>(qe k q).flatMap λr=>(Dv k qs).map λl=>r::l
theorem BG{k:Nat}:∀{qs:List Nat} {bm:List (List Nat)},bm.length=qs.length->(∀i (h:i<bm.length) (h2:i<qs.length),bm[i].length=k/\bm[i].sum<=qs[i])->bm∈Dv k qs
 | [],bm,h,_=>by rw[List.length_eq_zero_iff.1 h];simp[Dv]
 | q::qs,r::bm,h,hr=>by
  unfold Dv;rw[SM];obtain⟨h1,h2⟩:=hr 0 (by simp) (by simp);refine⟨r,sA h1 h2,Rg.2 ⟨bm,BG (by simpa using h) (λi a b=>?_),rfl⟩⟩;have:=hr (i+1) (by simp;omega) (by simp;omega);simpa using this
def dO(K C:Nat)(hs:List Nat)(ps:List Nat)(lf j:Nat):Bool:=
 (Dv ps.length ps).all λbm=>(qe ps.length j).all λms=>hs.all λh=>Nat.ble (val K C h ps bm ms lf j) 398
def ky(K C:Nat)(hs:List Nat)(q:Nat)(qs:List Nat)(lf j i:Nat):Bool:=
 (qe qs.length (q-i)).all λr=>(Dv (qs.length+1) qs).all λl=>(qe (qs.length+1) j).all λms=>hs.all λh=>Nat.ble (val K C h (q::qs) ((i::r)::l) ms lf j) 398
theorem qN{K C:Nat}{hs:List Nat}{q:Nat}{qs:List Nat}{lf j:Nat}(h:∀i,i<q+1->ky K C hs q qs lf j i=true):dO K C hs (q::qs) lf j=true:=by
 unfold dO;rw[Sf];intro bm hb;unfold Dv at hb;rw[SM] at hb;obtain⟨r,hr,hb⟩:=hb;obtain⟨l,hl,rfl⟩:=Rg.1 hb;replace hr:r∈(List.range (q+1)).flatMap λi=>(qe qs.length (q-i)).map λl=>i::l:=hr;rw[SM] at hr;obtain⟨i,hi,hr⟩:=hr;obtain⟨r0,hr0,rfl⟩:=Rg.1 hr;have:=h i (Rm.1 hi);unfold ky at this;rw[Sf] at this;have:=this r0 hr0;rw[Sf] at this;exact this l hl
theorem vl{K C H:Nat}{p:Nat->Nat}{b:Nat->Nat->Nat}{t:Nat->Nat->Nat->Nat}{L:List Nat}{lf:Nat}(c:uG p b t L lf)(hK:K<=12)
  {hs:List Nat} {h:Nat} (hh:h∈hs) (hH:∀i (hi:i<L.length),L[i]=H↔i=h) (hok:dO K C hs (L.map p) lf (sl (aM L) p)=true):dF K C H p b t<=398:=by
 refine AI (c.FX hK) ?_;rw[Hq c.O8 c.lt];let k:=L.length;let g:Nat->Nat:=λi=>L.getD i 0;have hL:(List.range k).map g=L:=by
  apply List.ext_getElem
  ·simp[k]
  ·intro i h1 h2;simp[g,List.getElem_map,BY,h2]
 have hgi:∀i (hi:i<k),g i=L[i]:=λi hi=>by simp[g,BY,show i<L.length from hi]
 let bm:=L.map λx=>L.map (b x);let ms:=L.map (mY b L);have e:=Dr (K:=K) (C:=C) (H:=H) (h:=h) (p:=p) (p':=zJ (L.map p)) (b:=b) (b':=MY bm) (m:=mY b L) (m':=zJ ms) (n:=nY p b L)
  (n':=λx=>zJ (L.map p) x-(bm.getD x []).sum) (g:=g) (k:=k) (λi hi=>by rw[hgi i hi];exact hH i hi)
  (λi hi=>by rw[hgi i hi];simp[zJ,BY,show i<L.length from hi])
  (λx hx y hy=>by rw[hgi x hx,hgi y hy];simp[MY,bm,BY,show x<L.length from hx,show y<L.length from hy])
  (λi hi=>by rw[hgi i hi];simp[zJ,ms,BY,show i<L.length from hi])
  (λi hi=>by rw[hgi i hi];simp[zJ,bm,nY,sl,BY,show i<L.length from hi]) lf (sl (aM L) p)
 rw[hL] at e;rw[e];unfold dO at hok;rw[Sf] at hok
 have h1:=hok bm (BG (by simp[bm]) (λi a a2=>by
  have hi:i<L.length:=by simpa [bm] using a
  simp only[bm,List.getElem_map,Rq];refine⟨trivial,?_⟩;have:=c.row L[i];rw[c.FN] at this;exact AI (Nat.le_add_right _ _) this))
 rw[Sf] at h1
 have h2:=h1 ms (sA (by simp[ms]) (by
  have:=c.LI;have e3:sl (aM L) (λy=>sm (b y))<=sl (aM L) p:=ep λy _=>c.row y;have e4:sl L (mY b L)<=sl (aM L) λy=>sm (b y):=by
   have:sl L (mY b L)=sl (aM L) λy=>sl L (b y):=by
    unfold mY;rw[mH]
   rw[this];exact ep λy _=>by rw[c.FN];omega
  exact AI e4 e3))
 rw[Sf] at h2;have h3:=Sw (h2 h hh);unfold val at h3;simp only[Rq] at h3;exact h3
end Bd
set_option linter.unusedVariables false
namespace Bd
theorem s4:∀j,j<5->dO 12 16 [9] [4] 2 j=true:=by decide +kernel
theorem s5:∀j,j<4->dO 12 16 [9] [5] 2 j=true:=by decide +kernel
theorem s6:∀j,j<3->dO 12 16 [9] [6] 2 j=true:=by decide +kernel
theorem Qd:∀j,j<3->dO 12 16 [9] [4,2] 2 j=true:=by decide +kernel
theorem Qn:∀j,j<2->dO 12 16 [9] [5,2] 2 j=true:=by decide +kernel
theorem Qr:dO 12 16 [9] [6,2] 1 0=true:=by decide +kernel
theorem QN:dO 12 16 [9] [7,1] 1 0=true:=by decide +kernel
theorem s7:dO 12 16 [9] [7] 1 0=true:=by decide +kernel
theorem OU:dO 12 2 [0,1] [4,3] 1 0=true/\dO 10 4 [0,1] [4,3] 1 0=true/\dO 9 8 [0,1] [4,3] 1 0=true:=by decide +kernel
theorem s8:dO 12 2 [0] [8] 1 0=true/\dO 10 4 [0] [8] 1 0=true/\dO 9 8 [0] [8] 1 0=true:=by decide +kernel
theorem PN:dO 12 2 [0,1] [4,4] 1 0=true/\dO 10 4 [0,1] [4,4] 1 0=true/\dO 9 8 [0,1] [4,4] 1 0=true:=by decide +kernel
theorem O0:dO 12 2 [0,1] [5,3] 1 0=true/\dO 10 4 [0,1] [5,3] 1 0=true/\dO 9 8 [0,1] [5,3] 1 0=true:=by decide +kernel
end Bd
set_option linter.unusedVariables false
namespace Bd
theorem MU(n:Nat):2 ^ min 4 n<=16:=by
 have:2 ^ min 4 n<=2 ^ 4:=Rz zo zo;simpa using this
theorem AB{K H H':Nat}{p:Nat->Nat}{b:Nat->Nat->Nat}{t:Nat->Nat->Nat->Nat}:dF K 16 H p b t=dF K 16 H' p b t:=by
 have e1:∀H,kC K 16 H p=λz=>min (2 ^ min 4 (p z)) K:=λH=>by
  funext z;have:=MU (p z);unfold kC;split<;>omega
 have e2:∀H,nh K 16 H p=λz=>mR K (p z):=λH=>by
  funext z;have:=MU (p z);unfold nh mR;split<;>omega
 have e3:∀H,kV K 16 H b=λy z=>min (2 ^ min 4 (b y z)) K:=λH=>by
  funext y z;have:=MU (b y z);unfold kV;split<;>omega
 unfold dF vN vX gR;simp only[e1,e2,e3]
theorem gn{K H:Nat}{p:Nat->Nat}{b:Nat->Nat->Nat}{t:Nat->Nat->Nat->Nat}{L:List Nat}{lf:Nat}(c:uG p b t L lf)(hK:K<=12)
  (hok:dO K 16 [9] (L.map p) lf (sl (aM L) p)=true):dF K 16 H p b t<=398:=by
 rw[AB (H':=7)];have hl:L.length<=7:=by
  have h:=Tu c.O8 (l₂:=List.range 7) λz hz=>Rm.2 (c.lt z hz);simpa using h
 refine vl c hK (h:=9) (by simp) (λi hi=>?_) hok;have:=c.lt _ (TG hi);constructor
 ·intro e;omega
 ·intro e;omega
end Bd
set_option linter.unusedVariables false
namespace Bd
theorem L3:ky 12 16 [9] 4 [2,2] 1 0 0=true:=by decide +kernel
theorem L1:ky 12 16 [9] 4 [2,2] 1 0 1=true:=by decide +kernel
theorem Me:ky 12 16 [9] 4 [2,2] 1 0 2=true:=by decide +kernel
theorem L7:ky 12 16 [9] 4 [2,2] 1 0 3=true:=by decide +kernel
theorem MV:ky 12 16 [9] 4 [2,2] 1 0 4=true:=by decide +kernel
theorem Pc:dO 12 16 [9] [4,2,2] 1 0=true:=qN λi hi=>match i,hi with
 | 0,_=>L3
 | 1,_=>L1
 | 2,_=>Me
 | 3,_=>L7
 | 4,_=>MV
 | i+5,h=>absurd h zo
end Bd
set_option linter.unusedVariables false
namespace Bd
theorem Ll:ky 10 16 [9] 4 [3,1] 1 0 0=true:=by decide +kernel
theorem Kb:ky 10 16 [9] 4 [3,1] 1 0 1=true:=by decide +kernel
theorem La:ky 10 16 [9] 4 [3,1] 1 0 2=true:=by decide +kernel
theorem K0:ky 10 16 [9] 4 [3,1] 1 0 3=true:=by decide +kernel
theorem KJ:ky 10 16 [9] 4 [3,1] 1 0 4=true:=by decide +kernel
theorem Nl:dO 10 16 [9] [4,3,1] 1 0=true:=qN λi hi=>match i,hi with
 | 0,_=>Ll
 | 1,_=>Kb
 | 2,_=>La
 | 3,_=>K0
 | 4,_=>KJ
 | i+5,h=>absurd h zo
theorem J5:ky 12 2 [0] 4 [3,1] 1 0 0=true:=by decide +kernel
theorem KD:ky 12 2 [0] 4 [3,1] 1 0 1=true:=by decide +kernel
theorem KR:ky 12 2 [0] 4 [3,1] 1 0 2=true:=by decide +kernel
theorem KL:ky 12 2 [0] 4 [3,1] 1 0 3=true:=by decide +kernel
theorem J7:ky 12 2 [0] 4 [3,1] 1 0 4=true:=by decide +kernel
theorem Og:dO 12 2 [0] [4,3,1] 1 0=true:=qN λi hi=>match i,hi with
 | 0,_=>J5
 | 1,_=>KD
 | 2,_=>KR
 | 3,_=>KL
 | 4,_=>J7
 | i+5,h=>absurd h zo
theorem KQ:ky 12 2 [1] 4 [3,1] 1 0 0=true:=by decide +kernel
theorem Kx:ky 12 2 [1] 4 [3,1] 1 0 1=true:=by decide +kernel
theorem Kk:ky 12 2 [1] 4 [3,1] 1 0 2=true:=by decide +kernel
theorem Ky:ky 12 2 [1] 4 [3,1] 1 0 3=true:=by decide +kernel
theorem Kg:ky 12 2 [1] 4 [3,1] 1 0 4=true:=by decide +kernel
theorem Oz:dO 12 2 [1] [4,3,1] 1 0=true:=qN λi hi=>match i,hi with
 | 0,_=>KQ
 | 1,_=>Kx
 | 2,_=>Kk
 | 3,_=>Ky
 | 4,_=>Kg
 | i+5,h=>absurd h zo
end Bd
set_option linter.unusedVariables false
namespace Bd
section
variable {p:Nat->Nat}{b:Nat->Nat->Nat}{t:Nat->Nat->Nat->Nat}
structure HN(p:Nat->Nat)(b:Nat->Nat->Nat)(t:Nat->Nat->Nat->Nat):Prop where
 m5:sm p<=8
 row:∀x,sm (b x)<=p x
 ends:∀x y,sm (t x y)<=b x y
theorem HN.Ar(c:HN p b t){L:List Nat}(hL:L.Nodup)(h7:∀z∈L,z<7)(h1:∀z,z<7->z∉L->p z<=1):uG p b t L 2/\(sl (aM L) p=0->uG p b t L 1):=by
 have hr:∀z∈aM L,z<7/\z∉L:=λz hz=>by
  unfold aM at hz;rw[Ra,Rm] at hz;exact⟨hz.1,by simpa using hz.2⟩
 refine⟨⟨hL,h7,c.m5,c.row,c.ends,λz hz=>h1 z (hr z hz).1 (hr z hz).2,λz hz=>?_⟩,λh0=>⟨hL,h7,c.m5,c.row,c.ends,λz hz=>h1 z (hr z hz).1 (hr z hz).2,λz hz=>?_⟩⟩
 ·have:=h1 z (hr z hz).1 (hr z hz).2;have h2:p z=0\/p z=1:=by omega
  rcases h2 with h2 | h2<;>rw[h2]<;>decide
 ·have:=nX p hz;have h2:p z=0:=by omega
  rw[h2];decide
theorem HN.sum(c:HN p b t){L:List Nat}(hL:L.Nodup)(h7:∀z∈L,z<7):sl L p+sl (aM L) p<=8:=by
 have:=c.m5;rw[uP hL h7] at this;exact this
theorem HN.plain(c:HN p b t){u:Nat}(hu:u<7)(h4:4<=p u){H:Nat} :
  dF 12 16 H p b t<=398\/(p u=8)\/(∃v,v<7/\v≠u/\3<=p v):=by
 by_cases hv:∃v,v<7/\v≠u/\2<=p v
 ·obtain⟨v,v7,vu,v2⟩:=hv;by_cases v3:3<=p v
  ·exact .inr (.inr ⟨v,v7,vu,v3⟩)
  ·have pv:p v=2:=by omega
   by_cases hw:∃w,w<7/\w≠u/\w≠v/\2<=p w
   ·obtain⟨w,w7,wu,wv,w2⟩:=hw;have nd:[u,v,w].Nodup:=by simp[Ne.symm vu,Ne.symm wu,Ne.symm wv]
    have l7:∀z∈[u,v,w],z<7:=by simp;omega
    have hs:=c.sum nd l7;simp only[dg,km] at hs;have pu:p u=4:=by omega
    have pw:p w=2:=by omega
    have h0:sl (aM [u,v,w]) p=0:=by omega
    refine .inl (gn ((c.Ar nd l7 λz hz hn=>?_).2 h0) zo (by simp only[Na,Sg,pu,pv,pw,h0];exact Pc));have hz2:z∈aM [u,v,w]:=by unfold aM;rw[Ra,Rm];exact⟨hz,by simpa using hn⟩
    have:=nX p hz2;omega
   ·have nd:[u,v].Nodup:=by simp[Ne.symm vu]
    have l7:∀z∈[u,v],z<7:=by simp;omega
    have hs:=c.sum nd l7;simp only[dg,km] at hs;have h1:∀z,z<7->z∉[u,v]->p z<=1:=λz hz hn=>by
     simp only[Rt,Sz,T5,not_or] at hn;have:¬2<=p z:=λh=>hw ⟨z,hz,hn.1,hn.2,h⟩;omega
    have hp:p u=4\/p u=5\/p u=6:=by omega
    rcases hp with pu | pu | pu
    ·exact .inl (gn (c.Ar nd l7 h1).1 zo (by simp only[Na,Sg,pu,pv];exact Qd _ zo))
    ·exact .inl (gn (c.Ar nd l7 h1).1 zo (by simp only[Na,Sg,pu,pv];exact Qn _ zo))
    ·have h0:sl (aM [u,v]) p=0:=by omega
     exact .inl (gn ((c.Ar nd l7 h1).2 h0) zo (by simp only[Na,Sg,pu,pv,h0];exact Qr))
 ·have nd:[u].Nodup:=by simp
  have l7:∀z∈[u],z<7:=by simp;omega
  have hs:=c.sum nd l7;simp only[dg,km] at hs;have h1:∀z,z<7->z∉[u]->p z<=1:=λz hz hn=>by
   simp only[Rt,Sz,T5] at hn;have:¬2<=p z:=λh=>hv ⟨z,hz,hn,h⟩;omega
  have hp:p u=4\/p u=5\/p u=6\/p u=7\/p u=8:=by omega
  rcases hp with pu | pu | pu | pu | pu
  ·exact .inl (gn (c.Ar nd l7 h1).1 zo (by simp only[Na,Sg,pu];exact s4 _ zo))
  ·exact .inl (gn (c.Ar nd l7 h1).1 zo (by simp only[Na,Sg,pu];exact s5 _ zo))
  ·exact .inl (gn (c.Ar nd l7 h1).1 zo (by simp only[Na,Sg,pu];exact s6 _ zo))
  ·by_cases hw:∃w,w<7/\w≠u/\1<=p w
   ·obtain⟨w,w7,wu,w1⟩:=hw;have nd:[u,w].Nodup:=by simp[Ne.symm wu]
    have l7:∀z∈[u,w],z<7:=by simp;omega
    have hs:=c.sum nd l7;simp only[dg,km] at hs;have pw:p w=1:=by omega
    have h0:sl (aM [u,w]) p=0:=by omega
    have h2:∀z,z<7->z∉[u,w]->p z<=1:=λz hz hn=>h1 z hz (by simp only[Rt,Sz,T5,not_or] at hn ⊢;exact hn.1);exact .inl (gn ((c.Ar nd l7 h2).2 h0) zo (by simp only[Na,Sg,pu,pw,h0];exact QN))
   ·have h0:sl (aM [u]) p=0:=by
     have e:sl (aM [u]) p<=sl (aM [u]) λ_=>0:=ep λz hz=>by
      have h7:=gv hz;unfold aM at hz;rw[Ra] at hz;have hn:z≠u:=by simpa using hz.2
      have:¬1<=p z:=λh=>hw ⟨z,h7,hn,h⟩;omega
     have e2:sl (aM [u]) (λ_=>0)=0:=by
      have:=gZ (aM [u]) (λ_=>1) 0;simpa using this
     omega
    exact .inl (gn ((c.Ar nd l7 h1).2 h0) zo (by simp only[Na,Sg,pu,h0];exact s7))
  ·exact .inr (.inl pu)
end
end Bd
set_option linter.unusedVariables false
namespace Bd
section
variable {p:Nat->Nat}{b:Nat->Nat->Nat}{t:Nat->Nat->Nat->Nat}
theorem rK{L:List Nat}{H:Nat}(hL:L.Nodup){h:Nat}(hh:h<L.length)(e:L[h]=H):∀i (hi:i<L.length),L[i]=H↔i=h:=by
 intro i hi;constructor
 ·intro e2;exact(List.getElem_inj hL).1 (e2.trans e.symm)
 ·rintro rfl;exact e
theorem HN.LF(c:HN p b t){u:Nat}(hu:u<7)(h4:4<=p u){H:Nat}(hH:H<7)(pH:1<=p H){K C:Nat}(hKC:(K,C)=(12,2)\/(K,C)=(10,4)\/(K,C)=(9,8))
  (h8:p u=8\/∃v,v<7/\v≠u/\3<=p v/\sl (aM [u,v]) p=0):dF K C H p b t<=398:=by
 have hK:K<=12:=by
  rcases hKC with h | h | h<;>simp only[RJ] at h<;>omega
 rcases h8 with pu | ⟨v,v7,vu,v3,h0⟩
 ·have nd:[u].Nodup:=by simp
  have l7:∀z∈[u],z<7:=by simp;omega
  have hs:=c.sum nd l7;simp only[dg,km] at hs;have h0:sl (aM [u]) p=0:=by omega
  have hz:∀z,z<7->z∉[u]->p z=0:=λz hz hn=>by
   have hz2:z∈aM [u]:=by unfold aM;rw[Ra,Rm];exact⟨hz,by simpa using hn⟩
   have:=nX p hz2;omega
  have eH:H=u:=by
   by_cases e:H=u
   ·exact e
   ·have:=hz H hH (by simpa using e);omega
  refine vl ((c.Ar nd l7 λz h1 h2=>by rw[hz z h1 h2];omega).2 h0) hK (hs:=[0]) (h:=0) (by simp) (rK nd (by simp) (by simp[eH])) ?_;simp only[Na,Sg,pu,h0];rcases hKC with h | h | h<;>simp only[RJ] at h<;>obtain⟨rfl,rfl⟩:=h
  ·exact s8.1
  ·exact s8.2.1
  ·exact s8.2.2
 ·have nd:[u,v].Nodup:=by simp[Ne.symm vu]
  have l7:∀z∈[u,v],z<7:=by simp;omega
  have hs:=c.sum nd l7;simp only[dg,km] at hs;have hget:∀z,z<7->z∉[u,v]->p z=0:=λz hz hn=>by
   have hz2:z∈aM [u,v]:=by unfold aM;rw[Ra,Rm];exact⟨hz,by simpa using hn⟩
   have:=nX p hz2;omega
  have hc:=(c.Ar nd l7 λz h1 h2=>by have:=hget z h1 h2;omega).2 h0;have hin:H=u\/H=v:=by
   by_cases e:H=u
   ·exact .inl e
   ·by_cases e2:H=v
    ·exact .inr e2
    ·have:=hget H hH (by simp[e,e2]);omega
  have hidx:∃h,h∈[0,1]/\∀i (hi:i<[u,v].length),[u,v][i]=H↔i=h:=by
   rcases hin with e | e
   ·exact⟨0,by simp,rK nd (by simp) (by simp[e])⟩
   ·exact⟨1,by simp,rK nd (by simp) (by simp[e])⟩
  obtain⟨h,hm,hi⟩:=hidx;refine vl hc hK (hs:=[0,1]) hm hi ?_;have hp:(p u=4/\p v=3)\/(p u=4/\p v=4)\/(p u=5/\p v=3):=by omega
  rcases hp with ⟨pu,pv⟩ | ⟨pu,pv⟩ | ⟨pu,pv⟩<;>simp only[Na,Sg,pu,pv,h0]<;>
   rcases hKC with h | h | h<;>simp only[RJ] at h<;>obtain⟨rfl,rfl⟩:=h
  ·exact OU.1
  ·exact OU.2.1
  ·exact OU.2.2
  ·exact PN.1
  ·exact PN.2.1
  ·exact PN.2.2
  ·exact O0.1
  ·exact O0.2.1
  ·exact O0.2.2
theorem HN.three(c:HN p b t){u v w:Nat}(hu:u<7)(hv:v<7)(hw:w<7)(huv:u≠v)(huw:u≠w)(hvw:v≠w)(pu:p u=4)(pv:p v=3)(pw:p w=1){H:Nat} :
  dF 10 16 H p b t<=398/\((H=u\/H=v)->dF 12 2 H p b t<=398):=by
 have nd3:[u,v,w].Nodup:=by simp[huv,huw,hvw]
 have l73:∀z∈[u,v,w],z<7:=by simp;omega
 have hs3:=c.sum nd3 l73;simp only[dg,km] at hs3;have h03:sl (aM [u,v,w]) p=0:=by omega
 have hc:=(c.Ar nd3 l73 λz h1 h2=>by
  have hz2:z∈aM [u,v,w]:=by unfold aM;rw[Ra,Rm];exact⟨h1,by simpa using h2⟩
  have:=nX p hz2;omega).2 h03
 refine⟨gn hc zo (by simp only[Na,Sg,pu,pv,pw,h03];exact Nl),λhin=>?_⟩;rcases hin with e | e
 ·exact vl hc zo (hs:=[0]) (h:=0) (by simp) (rK nd3 (by simp) (by simp[e])) (by simp only[Na,Sg,pu,pv,pw,h03];exact Og)
 ·exact vl hc zo (hs:=[1]) (h:=1) (by simp) (rK nd3 (by simp) (by simp[e])) (by simp only[Na,Sg,pu,pv,pw,h03];exact Oz)
end
end Bd
set_option linter.unusedVariables false
namespace Bd
section
variable {R:List Ru}{s0:Nat}{ws:List (List Nat)}
theorem bJ.Oo(G:bJ R s0 ws){M:Nat}(hM:M<4)(he:1<=(Pr R M).length){u:Nat}(hu:u<7)(h4:4<=(Lf R [u]).length)
  (hx:∀v,v<7->v≠u->cn R [u]=4->cn R [v]=3->cn R [3+M]=1->(Pr R M).length=1->3+M≠u->3+M≠v->
   Bd.dF 12 2 (3+M) (λz=>cn R [z]) (λy z=>cn R [y,z]) (λx y z=>cn R [x,y,z])<=398):ws.length<=398:=by
 have c:HN (λz=>cn R [z]) (λy z=>cn R [y,z]) (λx y z=>cn R [x,y,z]):=
  ⟨AI (gj R []) (uU G.ok []),λx=>gj R [x],λx y=>gj R [x,y]⟩
 have hp:4<=cn R [u]:=AI h4 (de R [u]);have ho:=DP (R:=R) hM;have pH:1<=cn R [3+M]:=by
  have h1:(Pr R M).length<=(Lf R [3+M]).length:=S9 _ _;have:=de R [3+M];omega
 have hcases:(Pr R M).length=1/\(Ot R M).length=2\/(Pr R M).length=2/\(Ot R M).length=1\/(Pr R M).length=3/\(Ot R M).length=0:=by omega
 have fin:∀{K C:Nat},(K,C)=(12,2)\/(K,C)=(10,4)\/(K,C)=(9,8)->True:=λ_=>trivial;obtain⟨K,C,hKC,hK,hC⟩:∃K C,((K,C)=(12,2)\/(K,C)=(10,4)\/(K,C)=(9,8))/\8+2 ^ (Ot R M).length<=K/\2 ^ (Pr R M).length<=C:=by
  rcases hcases with ⟨a,b⟩ | ⟨a,b⟩ | ⟨a,b⟩<;>rw[a,b]
  ·exact⟨12,2,.inl rfl,by decide,by decide⟩
  ·exact⟨10,4,.inr (.inl rfl),by decide,by decide⟩
  ·exact⟨9,8,.inr (.inr rfl),by decide,by decide⟩
 rcases c.plain hu hp (H:=3+M) with h | h | ⟨v,v7,vu,v3⟩
 ·refine AI (G.dF hM (K:=12) (C:=16) ?_ ?_) h
  ·rcases hcases with ⟨a,b⟩ | ⟨a,b⟩ | ⟨a,b⟩<;>rw[b]<;>decide
  ·rcases hcases with ⟨a,b⟩ | ⟨a,b⟩ | ⟨a,b⟩<;>rw[a]<;>decide
 ·exact AI (G.dF hM hK hC) (c.LF hu hp zo pH hKC (.inl h))
 ·by_cases h0:sl (aM [u,v]) (λz=>cn R [z])=0
  ·exact AI (G.dF hM hK hC) (c.LF hu hp zo pH hKC (.inr ⟨v,v7,vu,v3,h0⟩))
  ·have nd:[u,v].Nodup:=by simp[Ne.symm vu]
   have l7:∀z∈[u,v],z<7:=by simp;omega
   have hs:=c.sum nd l7;simp only[dg,km] at hs;have hget:∀z,z<7->z∉[u,v]->cn R [z]<=sl (aM [u,v]) λz=>cn R [z]:=λz hz hn=>by
    have hz2:z∈aM [u,v]:=by unfold aM;rw[Ra,Rm];exact⟨hz,by simpa using hn⟩
    exact nX (λz=>cn R [z]) hz2
   have pu:cn R [u]=4:=by omega
   have pv:cn R [v]=3:=by omega
   obtain⟨w,w7,wn,w1⟩:∃w,w<7/\w∉[u,v]/\cn R [w]=1:=by
    apply Classical.byContradiction;intro hno;apply h0;have e:sl (aM [u,v]) (λz=>cn R [z])<=sl (aM [u,v]) λ_=>0:=ep λz hz=>by
     have z7:=gv hz;have hn:z∉[u,v]:=by
      unfold aM at hz;rw[Ra] at hz;simpa using hz.2
     have h1:¬cn R [z]=1:=λh=>hno ⟨z,z7,hn,h⟩;have:=hget z z7 hn;omega
    have e2:sl (aM [u,v]) (λ_=>0)=0:=by
     have:=gZ (aM [u,v]) (λ_=>1) 0;simpa using this
    omega
   simp only[Rt,Sz,T5,not_or] at wn;have h3:=c.three hu v7 w7 (Ne.symm vu) (Ne.symm wn.1) (Ne.symm wn.2) pu pv w1 (H:=3+M);rcases hcases with ⟨a,b⟩ | ⟨a,b⟩ | ⟨a,b⟩
   ·by_cases hin:3+M=u\/3+M=v
    ·exact AI (G.dF hM (by rw[b];decide) (by rw[a];decide)) (h3.2 hin)
    ·have hn:3+M∉[u,v]:=by simpa using hin
     have:=hget (3+M) zo hn;refine AI (G.dF hM (K:=12) (C:=2) (by rw[b];decide) (by rw[a];decide)) (hx v v7 vu pu pv zo a (λe=>hin (.inl e)) λe=>hin (.inr e))
   ·exact AI (G.dF hM (K:=10) (C:=16) (by rw[b];decide) (by rw[a];decide)) h3.1
   ·exact AI (G.dF hM (K:=10) (C:=16) (by rw[b];decide) (by rw[a];decide)) h3.1
end
end Bd
set_option linter.unusedVariables false
namespace Bd
section
variable {R:List Ru}{s0:Nat}{ws:List (List Nat)}
theorem uz(ok:lQ R)(h:oO R+rT R=0){w:List Nat}{m:Nat}(hp:Pd R s0 w m):w.length % 2=0:=by
 induction hp with
 | start=>rfl
 | @one z m w l r hr e hp ih=>
  exfalso;have hz:=ok.sym r hr z (by rw[e];simp);have hm:=ok.sym r hr (3+m) (by rw[e];simp);by_cases hz3:z<3
  ·have h1:=pS (p:=[z,3+m]) hr (by rw[e];rfl);have h2:=AI (nB (λM=>cn R [z,3+M]) (show m<4 by omega)) (nr R z);have h3:=ve (nT R) hz3;unfold oO at h;omega
  ·have h1:=pS (p:=[z]) hr (by rw[e];rfl);have h2:=AI (nB (λM=>cn R [3+M]) (show z-3<4 by omega)) (Br ok);rw[show 3+(z-3)=z by omega] at h2;omega
 | two hr e hp ih=>simp only[RG];omega
 | wM hp hr e ih=>exact ih
theorem yu{Q:List Nat->Prop}{φ:List Nat->List Nat}(L:List Nat)(h:∀u,Q u->∀n,¬Pd R s0 (φ u) n):dB R s0 Q φ L 1:=
 ⟨λ_=>0,λ_ _=>Nat.one_pos,λu v hu hv _ n _=>⟨λk=>absurd k (h u hu n),λk=>absurd k (h v hv n)⟩⟩
theorem Lo{l c:Nat}(h4:l<=4)(hc:l<=c):2 ^ l-1<=c*15:=by
 have:l=0\/l=1\/l=2\/l=3\/l=4:=by omega
 rcases this with rfl | rfl | rfl | rfl | rfl<;>simp<;>omega
theorem bJ.even(G:bJ R s0 ws)(h:oO R+rT R=0):ws.length<=398:=by
 have hs:=oM G.ok G.live;rw[rL] at hs;have c8:sm (λz=>cn R [z])<=8:=AI (gj R []) (uU G.ok []);have a1:sm (λz=>(dw R s0 ws [z]).length)<=8*15:=by
  refine AI (gf λz _=>AI (G.n1 (jZ λw h=>h.2)) (Lo (dV R [z]) (de R [z]))) ?_;rw[jY];exact Rb _ c8
 have a2:sm (λy=>sm λz=>(dw R s0 ws [z,y]).length)<=8*15:=by
  have e:∀y,sm (λz=>(dw R s0 ws [z,y]).length)<=cn R [y]*15:=λy=>by
   refine AI (gf (g:=λz=>cn R [y,z]*15) λz _=>?_) ?_
   ·have k:=G.c2 (z:=z) (y:=y) (kz λu h=>h.ne G.ok) (yu (φ:=λu=>y::u) (Lf R [z]) λu hu n hn=>by
     obtain⟨m,_,hm⟩:=hu.ne G.ok;have e1:=uz G.ok h hm;have e2:=uz G.ok h hn;simp only[RG] at e2;omega)
    rw[RQ] at k;exact AI k (Lo (dV R [y,z]) (de R [y,z]))
   ·rw[jY];exact Rb _ (gj R [y])
  refine AI (gf λy _=>e y) ?_;rw[jY];exact Rb _ c8
 have a3:sm (λx=>sm λy=>sm λz=>(dw R s0 ws [z,y,x]).length)<=8*8:=by
  have e:∀x y,sm (λz=>(dw R s0 ws [z,y,x]).length)<=cn R [x,y]*8:=λx y=>by
   refine AI (gf (g:=λz=>cn R [x,y,z]*8) λz _=>?_) ?_
   ·have k:=G.OI (z:=z) (y:=y) (x:=x) (oC (dk [x,y,z]) (dk [x,y]) (λn hn=>fq (p:=[x,y]) (q:=[z]) hn) λu h=>h.ne G.ok)
     (yu (φ:=λu=>x::u) (Lf R [y]) λu hu n hn=>by
      obtain⟨m,_,hm⟩:=hu.ne G.ok;have e1:=uz G.ok h hm;have e2:=uz G.ok h hn;simp only[RG] at e2;omega)
    rw[RQ] at k;have hm:(Lf R [x,y,z]).length<=(Lf R [x,y]).length:=iX R [x,y] [z];have b4:=dV R [x,y];refine AI k (AI (half (Lf R [x,y]).length zo (Lf R [x,y,z]).length zo hm) ?_);rw[SU];refine RN (de R _) ?_;have:2 ^ ((Lf R [x,y]).length-1)<=2 ^ 3:=dG zo;simpa using this
   ·rw[jY];exact Rb _ (gj R [x,y])
  have e2:∀x,sm (λy=>sm λz=>(dw R s0 ws [z,y,x]).length)<=cn R [x]*8:=λx=>by
   refine AI (gf λy _=>e x y) ?_;rw[jY];exact Rb _ (gj R [x])
  refine AI (gf λx _=>e2 x) ?_;rw[jY];exact Rb _ c8
 omega
theorem bJ.NV(G:bJ R s0 ws):ws.length<=398:=by
 by_cases h3:∀z,(Lf R [z]).length<=3
 ·have:=On G h3;omega
 ·obtain⟨u,hu⟩:=Classical.not_forall.1 h3;have h4:4<=(Lf R [u]).length:=by omega
  have hu7:u<7:=by
   obtain⟨n,hn⟩:=T6 (show 0<(Lf R [u]).length by omega);unfold Lf at hn;rw[Ra,RZ] at hn;obtain⟨_,r,hr,e⟩:=hn;simp only[IN,RW] at e;obtain⟨_,l,e⟩:=e;exact G.ok.sym r hr u (by rw[<-e];simp)
  have c4:=AI h4 (de R [u]);by_cases hE:∀M,M<4->(Lf R [3+M]).length<=1
  ·have hu3:u<3:=by
    apply Classical.byContradiction;intro h;have:=hE (u-3) zo;rw[show 3+(u-3)=u by omega] at this;omega
   by_cases hn:oO R+rT R=0
   ·exact G.even hn
   ·have:∃b c,b<3/\c<3/\(∀f:Nat->Nat,u3 f=f u+f b+f c)/\cn R [c]<=cn R [b]:=by
     have:u=0\/u=1\/u=2:=by omega
     rcases this with rfl | rfl | rfl
     ·rcases Tw (cn R [1]) (cn R [2]) with h | h
      ·exact⟨2,1,by omega,by omega,λf=>by simp only[u3];omega,h⟩
      ·exact⟨1,2,by omega,by omega,λf=>by simp only[u3],h⟩
     ·rcases Tw (cn R [0]) (cn R [2]) with h | h
      ·exact⟨2,0,by omega,by omega,λf=>by simp only[u3];omega,h⟩
      ·exact⟨0,2,by omega,by omega,λf=>by simp only[u3];omega,h⟩
     ·rcases Tw (cn R [0]) (cn R [1]) with h | h
      ·exact⟨1,0,by omega,by omega,λf=>by simp only[u3];omega,h⟩
      ·exact⟨0,1,by omega,by omega,λf=>by simp only[u3];omega,h⟩
    obtain⟨b,c,hb,hc,h0,hbc⟩:=this;exact G.Nj hE hu3 hb hc h0 c4 hbc hn
  ·obtain⟨M,hM⟩:=Classical.not_forall.1 hE;obtain⟨hM,h2⟩:=Classical.not_imp.1 hM;have c2:=de R [3+M];refine G.Oo hM ?_ hu7 h4 λv _ _ _ _ h1=>by omega
   have h1:=Tn (λn=>decide (n=M)) (l:=Lf R [3+M]);have h5:(Lf R [3+M]).countP (λn=>decide (n=M))<=1:=by
    have:=List.nodup_iff_count.1 (dk (R:=R) [3+M]) M;rw[List.count_eq_countP] at this;refine AI (TR λx _ h=>?_) this;simpa using h
   unfold Pr;rw[<-RR];have h6:(Lf R [3+M]).countP (λa=>decide ¬(decide (a=M))=true)=(Lf R [3+M]).countP λn=>decide (n≠M):=by
    congr 1;funext a;simp
   rw[h6] at h1;omega
end
end Bd
set_option linter.unusedVariables false
set_option maxRecDepth 20000
set_option maxHeartbeats 0
open Go Go.Abs Go.Proofs Go.Proofs.D
namespace Go.Proofs.D
def eP(y:Sym):Nat:=if y.term=true then y.n else 3+y.n
def wO(g:af):List Bd.Ru:=g.rules.map λr=>(r.left,r.right.map eP)
theorem yj{g:af}(ht:g.ae<=3){x y:Sym}(hx:bZ g.ae g.ak x)(hy:bZ g.ae g.ak y)(h:eP x=eP y):x=y:=by
 obtain⟨a,n⟩:=x;obtain⟨b,m⟩:=y;unfold bZ at hx hy;unfold eP at h;cases a<;>cases b<;>simp at h hx hy ⊢<;>omega
theorem Small.Qi{g:af}(h:Small g):Bd.lQ (wO g):=by
 refine⟨λr hr=>?_,λr hr s hs=>?_,λr hr=>?_,?_⟩
 ·obtain⟨q,hq,rfl⟩:=Rg.1 hr;have:=(h.ok q hq).1;have:=h.ak.2;show q.left<4;omega
 ·obtain⟨q,hq,rfl⟩:=Rg.1 hr;obtain⟨y,hy,rfl⟩:=Rg.1 hs;have h1:=(h.ok q hq).2.2 y hy;have:=h.ak.2;have:=h.ae.2;unfold bZ at h1;unfold eP;split at h1<;>rename_i e<;>simp only[e,Sv]<;>simp<;>omega
 ·obtain⟨q,hq,rfl⟩:=Rg.1 hr;have:=(h.ok q hq).2.1;show (q.right.map eP).length<=3;rw[Rq];exact this
 ·unfold wO;rw[Rq];exact h.rules.2
theorem Small.sym{g:af}(h:Small g){k:Nat}{r:bz}(hr:g.rules[k]?=some r){d:Nat}{y:Sym}(hy:r.right[d]?=some y):bZ g.ae g.ak y:=
 (h.ok r (gM hr)).2.2 y (gM hy)
def xm(g:af)(w:List Nat)(z:Lr):Prop:=
 (z.aA=g.rules.length/\((z.dot=0/\w=[])\/(z.dot=1/\w=[3+g.start])))\/
 ∃r,g.rules[z.aA]?=some r/\z.dot<=r.right.length/\∃v,w=((r.right.take z.dot).map eP).reverse++v/\Bd.Pd (wO g) g.start v r.left
theorem iQ{g:af}{k d:Nat}{r:bz}(h:g.rules[k]?=some r):aR g ⟨k,d⟩=r.right[d]?:=by
 unfold aR;have:=(gS h).1;dsimp only;rw[By zo,h]
theorem Ad{g:af}{k:Nat}{r:bz}(h:g.rules[k]?=some r):(r.left,r.right.map eP)∈wO g:=Rg.2 ⟨r,gM h,rfl⟩
theorem xm.pd{g:af}(hs:Small g){w:List Nat}{x:Lr}(h:xm g w x){n:Nat}(ha:aR g x=some ⟨false,n⟩):Bd.Pd (wO g) g.start w n:=by
 obtain⟨k,d⟩:=x;rcases h with ⟨e,h⟩ | ⟨r,hr,hd,v,rfl,hp⟩
 ·have e:k=g.rules.length:=e;subst e;unfold aR at ha;dsimp only at ha;rw[If rfl] at ha;rcases h with ⟨e,rfl⟩ | ⟨e,_⟩
  ·have e:d=0:=e;subst e;rw[If rfl] at ha;have:=(Sym.mk.inj (AT ha)).2;subst this;exact .start
  ·have e:d=1:=e;subst e;rw[By (by decide)] at ha;cases ha
 ·have hr:g.rules[k]?=some r:=hr;rw[iQ hr] at ha;have hm:=Ad hr;have h3:=(hs.ok r (gM hr)).2.1;show Bd.Pd (wO g) g.start (((r.right.take d).map eP).reverse++v) n;obtain⟨left,right⟩:=r;dsimp only at ha hm h3 hp ⊢
  match d,right,ha with
  | 0,y::l,ha=>
   obtain rfl:=AT ha;show Bd.Pd (wO g) g.start v n;exact .wM hp hm (by rfl)
  | 1,a::y::l,ha=>
   obtain rfl:=AT ha;exact .one hm (by rfl) hp
  | 2,a::b::y::l,ha=>
   obtain rfl:=AT ha;exact .two hm (by rfl) hp
  | d+3,a::b::c::l,ha=>
   have e:l=[]:=by
    simp only[RG] at h3;exact R8 zo
   subst e;simp at ha
theorem K8{g:af}(hs:Small g){w:List Nat}{l:List Lr}(hl:∀z,z∈l↔xm g w z/\(0<z.dot\/z.aA=g.rules.length)){n:Nat}(hp:Bd.Pd (wO g) g.start w n) :
  ∃x,eT g l x/\aR g x=some ⟨false,n⟩:=by
 have ht:=hs.ae.2;have inv:∀{y:Sym} {m:Nat},bZ g.ae g.ak y->eP y=3+m->y=⟨false,m⟩:=λ{y m} hy e=>by
  obtain⟨a,n⟩:=y;unfold bZ at hy;unfold eP at e;cases a<;>simp at e hy ⊢<;>omega
 induction hp with
 | start=>
  refine⟨⟨g.rules.length,0⟩,.base ((hl _).2 ⟨.inl ⟨rfl,.inl ⟨rfl,rfl⟩⟩,.inr rfl⟩),?_⟩;unfold aR;dsimp only;rw[If rfl,If rfl]
 | @one z' m w' l' q hq e2 hp' _=>
  obtain⟨r',hr',rfl⟩:=Rg.1 hq;obtain⟨k,hk,hk2⟩:=R2 hr';have hk3:g.rules[k]?=some r':=by rw[gE hk,hk2]
  obtain⟨left,right⟩:=r'
  match right,e2 with
  | a::y::t,e2=>
   simp only[Na,Rv] at e2;have hy:=inv (hs.sym hk3 (d:=1) rfl) e2.2.1;subst hy;refine⟨⟨k,1⟩,.base ((hl _).2 ⟨.inr ⟨_,hk3,by simp,w',?_,hp'⟩,.inl (by simp)⟩),?_⟩
   ·rw[<-e2.1];simp
   ·rw[iQ hk3];rfl
 | @two y' z' m w' l' q hq e2 hp' _=>
  obtain⟨r',hr',rfl⟩:=Rg.1 hq;obtain⟨k,hk,hk2⟩:=R2 hr';have hk3:g.rules[k]?=some r':=by rw[gE hk,hk2]
  obtain⟨left,right⟩:=r'
  match right,e2 with
  | a::b::y::t,e2=>
   simp only[Na,Rv] at e2;have hy:=inv (hs.sym hk3 (d:=2) rfl) e2.2.2.1;subst hy;refine⟨⟨k,2⟩,.base ((hl _).2 ⟨.inr ⟨_,hk3,by simp,w',?_,hp'⟩,.inl (by simp)⟩),?_⟩
   ·rw[<-e2.1,<-e2.2.1];simp
   ·rw[iQ hk3];rfl
 | @wM m w' l' q hp' hq e2 ih=>
  obtain⟨x,hx,hax⟩:=ih hl;obtain⟨r',hr',rfl⟩:=Rg.1 hq;obtain⟨k,hk,hk2⟩:=R2 hr';have hk3:g.rules[k]?=some r':=by rw[gE hk,hk2]
  refine⟨⟨k,0⟩,.more hx hax hk3 rfl,?_⟩;obtain⟨left,right⟩:=r'
  match right,e2 with
  | y::t,e2=>
   simp only[Na,Rv] at e2;have hy:=inv (hs.sym hk3 (d:=0) rfl) e2.1;subst hy;rw[iQ hk3];rfl
theorem EB{g:af}(hs:Small g){w:List Nat}{l:List Lr}(hl:∀z,z∈l↔xm g w z/\(0<z.dot\/z.aA=g.rules.length))(z:Lr):eT g l z↔xm g w z:=by
 constructor
 ·intro h
  induction h with
  | base h=>exact((hl _).1 h).1
  | @more x n k r hx ha hr hn ih=>
   subst hn;exact .inr ⟨r,hr,RC _,w,by simp,ih.pd hs ha⟩
 ·intro h;by_cases h0:0<z.dot\/z.aA=g.rules.length
  ·exact .base ((hl z).2 ⟨h,h0⟩)
  ·rcases h with ⟨e,_⟩ | ⟨r,hr,_,v,e,hp⟩
   ·exact absurd (.inr e) h0
   ·have hd:z.dot=0:=by omega
    rw[hd] at e;simp only[TV,Sg,List.reverse_nil,SG] at e;subst e;obtain⟨x,hx,ha⟩:=K8 hs hl hp;obtain⟨k,d⟩:=z;have hd:d=0:=hd;subst hd;exact .more hx ha hr rfl
def JY(g:af)(w:List Nat)(st:List Lr):Prop:=ij st/\∀z,z∈st↔xm g w z
theorem qA{g:af}{k:Nat}{r:bz}(h:g.rules[k]?=some r):k≠g.rules.length:=by
 have:=(gS h).1;omega
theorem GF{g:af}(hs:Small g):JY g [] (lW g):=by
 refine⟨mM _ _,λz=>?_⟩;unfold lW;rw[di jk];refine EB hs (λz=>?_) z;rw[Rh];constructor
 ·rintro rfl;exact⟨.inl ⟨rfl,.inl ⟨rfl,rfl⟩⟩,.inr rfl⟩
 ·rintro⟨h,h0⟩;obtain⟨k,d⟩:=z;rcases h with ⟨e,⟨e2,_⟩ | ⟨_,e2⟩⟩ | ⟨r,hr,hd,v,e,hp⟩
  ·have e:k=g.rules.length:=e;have e2:d=0:=e2;rw[e,e2]
  ·cases e2
  ·have h1:=congrArg List.length e;simp only[TQ,Rf,List.length_reverse,Rq,RK] at h1;have hd:d<=r.right.length:=hd;rcases h0 with h0 | h0
   ·have h0:0<d:=h0;have h1:0=min d r.right.length+v.length:=h1;omega
   ·exact absurd h0 (qA hr)
theorem Hi{g:af}(hs:Small g){w:List Nat}{st:List Lr}(h:JY g w st){y:Sym}(hy:bZ g.ae g.ak y):JY g (eP y::w) (fD g (ff g st y)):=by
 refine⟨mM _ _,λz=>?_⟩;rw[di λx hx=>(fK x hx).1];refine EB hs (λz=>?_) z;rw[gu];constructor
 ·rintro⟨x,hx,ha,rfl⟩;refine⟨?_,.inl (Nat.succ_pos _)⟩;obtain⟨k,d⟩:=x;rcases (h.2 _).1 hx with ⟨e,h⟩ | ⟨r,hr,hd,v,e,hp⟩
  ·have e:k=g.rules.length:=e;subst e;unfold aR at ha;dsimp only at ha;rw[If rfl] at ha;rcases h with ⟨e,rfl⟩ | ⟨e,_⟩
   ·have e:d=0:=e;subst e;rw[If rfl] at ha;obtain rfl:=AT ha;exact .inl ⟨rfl,.inr ⟨rfl,rfl⟩⟩
   ·have e:d=1:=e;subst e;rw[By (by decide)] at ha;cases ha
  ·have hr:g.rules[k]?=some r:=hr;rw[iQ hr] at ha;have hlt:=(gS ha).1;refine .inr ⟨r,hr,by show d+1<=_;omega,v,?_,hp⟩;show eP y::w=((r.right.take (d+1)).map eP).reverse++v;rw[Rk,ha,RV,List.reverse_append,e];rfl
 ·rintro⟨h1,h0⟩;obtain⟨k,d⟩:=z;rcases h1 with ⟨e,⟨_,e2⟩ | ⟨e1,e2⟩⟩ | ⟨r,hr,hd,v,e,hp⟩
  ·cases e2
  ·have e:k=g.rules.length:=e;have e1:d=1:=e1;subst e e1;simp only[Rv] at e2;have hy2:y=⟨false,g.start⟩:=yj hs.ae.2 hy (show bZ g.ae g.ak ⟨false,g.start⟩ from hs.start) e2.1;subst hy2;refine⟨⟨g.rules.length,0⟩,(h.2 _).2 (.inl ⟨rfl,.inl ⟨rfl,e2.2⟩⟩),?_,rfl⟩;unfold aR;dsimp only;rw[If rfl,If rfl]
  ·have hr:g.rules[k]?=some r:=hr;have hd:d<=r.right.length:=hd;cases d with
   | zero=>
    rcases h0 with h0 | h0
    ·exact absurd h0 (S4 _)
    ·exact absurd h0 (qA hr)
   | succ d=>
    have e:eP y::w=((r.right.take (d+1)).map eP).reverse++v:=e;obtain⟨y',hy'⟩:∃y',r.right[d]?=some y':=⟨_,gE zo⟩;rw[Rk,hy',RV,List.reverse_append] at e;have e:eP y::w=eP y'::(((r.right.take d).map eP).reverse++v):=e;simp only[Rv] at e;have:=yj hs.ae.2 hy (hs.sym hr hy') e.1;subst this;exact⟨⟨k,d⟩,(h.2 _).2 (.inr ⟨r,hr,by show d<=_;omega,v,e.2,hp⟩),by rw[iQ hr];exact hy',rfl⟩
theorem xm.to{g:af}(hs:Small g){w:List Nat}{k d:Nat}{r:bz}(hr:g.rules[k]?=some r)(h:xm g w ⟨k,d⟩)(h0:0<d) :
  (d=1/\Bd.I1 (wO g) g.start w (r.left,r.right.map eP))\/(d=2/\Bd.I2 (wO g) g.start w (r.left,r.right.map eP))\/(d=3/\Bd.I3 (wO g) g.start w (r.left,r.right.map eP)):=by
 rcases h with ⟨e,_⟩ | ⟨r',hr',hd,v,e,hp⟩
 ·exact absurd e (qA hr)
 ·rw[hr] at hr';obtain rfl:=AT hr';have h3:=(hs.ok r (gM hr)).2.1;obtain⟨left,right⟩:=r;dsimp only at e hd h3 hp ⊢;subst e
  match d,right,hd,h0 with
  | 1,a::t,_,_=>exact .inl ⟨rfl,⟨_,rfl⟩,hp⟩
  | 2,a::b::t,_,_=>exact .inr (.inl ⟨rfl,⟨_,rfl⟩,hp⟩)
  | 3,a::b::c::t,_,_=>exact .inr (.inr ⟨rfl,⟨_,rfl⟩,hp⟩)
  | d+4,right,hd,_=>exact absurd hd zo
theorem xm.QD{g:af}{w:List Nat}{k:Nat}{r:bz}(hr:g.rules[k]?=some r)(h:Bd.I1 (wO g) g.start w (r.left,r.right.map eP)):xm g w ⟨k,1⟩:=by
 match w,h with
 | z::v,⟨⟨l,e⟩,hp⟩=>
  obtain⟨left,right⟩:=r
  match right,e with
  | a::t,e=>
   simp only[Na,Rv] at e;exact .inr ⟨_,hr,by simp,v,by rw[<-e.1];simp,hp⟩
theorem xm.Qf{g:af}{w:List Nat}{k:Nat}{r:bz}(hr:g.rules[k]?=some r)(h:Bd.I2 (wO g) g.start w (r.left,r.right.map eP)):xm g w ⟨k,2⟩:=by
 match w,h with
 | z::y::v,⟨⟨l,e⟩,hp⟩=>
  obtain⟨left,right⟩:=r
  match right,e with
  | a::b::t,e=>
   simp only[Na,Rv] at e;exact .inr ⟨_,hr,by simp,v,by rw[<-e.1,<-e.2.1];simp,hp⟩
theorem xm.QM{g:af}{w:List Nat}{k:Nat}{r:bz}(hr:g.rules[k]?=some r)(h:Bd.I3 (wO g) g.start w (r.left,r.right.map eP)):xm g w ⟨k,3⟩:=by
 match w,h with
 | z::y::x::v,⟨⟨l,e⟩,hp⟩=>
  obtain⟨left,right⟩:=r
  match right,e with
  | a::b::c::t,e=>
   simp only[Na,Rv] at e;exact .inr ⟨_,hr,by simp,v,by rw[<-e.1,<-e.2.1,<-e.2.2.1];simp,hp⟩
theorem eT.J8{g:af}{l1 l2:List Lr}(h:∀z∈l1,z∈l2){z:Lr}(hz:eT g l1 z):eT g l2 z:=by
 induction hz with
 | base hx=>exact .base (h _ hx)
 | more _ ha hr hn ih=>exact .more ih ha hr hn
theorem AY{g:af}(hs:Small g){w w':List Nat}{st st':List Lr}(h:JY g w st)(h':JY g w' st')(n0:w≠[])(n1:w≠[3+g.start])
  (hS:∀r∈wO g,(Bd.I1 (wO g) g.start w r->Bd.I1 (wO g) g.start w' r)/\(Bd.I2 (wO g) g.start w r->Bd.I2 (wO g) g.start w' r)/\(Bd.I3 (wO g) g.start w r->Bd.I3 (wO g) g.start w' r)) :
  ∀z,z∈st->z∈st':=by
 have hl:∀{w:List Nat} {st:List Lr},JY g w st->∀z,z∈st.filter (λz=>decide (0<z.dot\/z.aA=g.rules.length))↔xm g w z/\(0<z.dot\/z.aA=g.rules.length):=λ{w st} h z=>by
  rw[Ra,h.2,RS]
 intro z hz;have h1:=(EB hs (hl h) z).2 ((h.2 z).1 hz);refine(h'.2 z).2 ((EB hs (hl h') z).1 (h1.J8 λx hx=>?_));obtain⟨hi,h0⟩:=(hl h x).1 hx;obtain⟨k,d⟩:=x;have hk:k≠g.rules.length:=by
  intro e;rcases hi with ⟨_,⟨_,e2⟩ | ⟨_,e2⟩⟩ | ⟨r,hr,_⟩
  ·exact n0 e2
  ·exact n1 e2
  ·exact qA hr e
 have hd:0<d:=by
  rcases h0 with h0 | h0
  ·exact h0
  ·exact absurd h0 hk
 obtain⟨r,hr⟩:∃r,g.rules[k]?=some r:=by
  rcases id hi with ⟨e,_⟩ | ⟨r,hr,_⟩
  ·exact absurd e hk
  ·exact⟨r,hr⟩
 obtain⟨s1,s2,s3⟩:=hS _ (Ad hr);refine(hl h' _).2 ⟨?_,.inl hd⟩;rcases hi.to hs hr hd with ⟨rfl,hj⟩ | ⟨rfl,hj⟩ | ⟨rfl,hj⟩
 ·exact xm.QD hr (s1 hj)
 ·exact xm.Qf hr (s2 hj)
 ·exact xm.QM hr (s3 hj)
def tp(g:af)(st:List Lr):Prop:=∃w,JY g w st/\(w=[]\/∃z,xm g w z/\0<z.dot)
theorem rN{α:Type}:∀{l:List α},l.Nodup->(∀a∈l,∀b∈l,a=b)->l.length<=1
 | [],_,_=>by simp
 | [_],_,_=>by simp
 | a::b::l,hn,h=>by
  exfalso;have:=h a me b (I9 _ me);subst this;exact(Sh.1 hn).1 me
theorem Dm{g:af}(hs:Small g){br:List (List Lr)}(hn:br.Nodup)(hp:∀st∈br,tp g st):br.length<=400:=by
 classical
 let f:List Lr->List Nat:=λst=>if h:tp g st then Classical.choose h else [];have hf:∀st∈br,JY g (f st) st/\(f st=[]\/∃z,xm g (f st) z/\0<z.dot):=λst h=>by
  have h1:=hp st h;show JY g (if h:tp g st then Classical.choose h else []) st/\((if h:tp g st then Classical.choose h else [])=[]\/∃z,xm g (if h:tp g st then Classical.choose h else []) z/\0<z.dot);rw[dif_pos h1];exact Classical.choose_spec h1
 let c:List Lr->Nat:=λst=>if f st=[] then 0 else if f st=[3+g.start] then 1 else 2
 have hc:=Bd.parts c [0,1,2] br (λst _=>by
  show (if f st=[] then 0 else if f st=[3+g.start] then 1 else 2)∈[0,1,2];split
  ·simp
  ·split<;>simp)
 have hone:∀w k,(∀st∈br,c st=k->f st=w)->(br.filter λst=>c st=k).length<=1:=λw k hk=>by
  refine rN (hn.filter _) λa ha b hb=>?_;rw[Ra,RS] at ha hb;obtain⟨sa,ma⟩:=(hf a ha.1).1;obtain⟨sb,mb⟩:=(hf b hb.1).1;rw[hk a ha.1 ha.2] at ma;rw[hk b hb.1 hb.2] at mb;exact oo sa sb λz=>by rw[ma,mb]
 have h0:=hone [] 0 (λst _ h=>by
  have h:(if f st=[] then 0 else if f st=[3+g.start] then 1 else 2)=0:=h;split at h
  ·assumption
  ·split at h<;>cases h)
 have h1:=hone [3+g.start] 1 (λst _ h=>by
  have h:(if f st=[] then 0 else if f st=[3+g.start] then 1 else 2)=1:=h;split at h
  ·cases h
  ·split at h
   ·assumption
   ·cases h)
 have hk2:∀st,c st=2->f st≠[]/\f st≠[3+g.start]:=λst h=>by
  have h:(if f st=[] then 0 else if f st=[3+g.start] then 1 else 2)=2:=h;split at h
  ·cases h
  ·split at h
   ·cases h
   ·exact⟨by assumption,by assumption⟩
 have h2:(br.filter λst=>c st=2).length<=398:=by
  have G:Bd.bJ (wO g) g.start ((br.filter λst=>c st=2).map f):=by
   refine⟨hs.Qi,λw hw=>?_,?_⟩
   ·obtain⟨st,hst,rfl⟩:=Rg.1 hw;rw[Ra,RS] at hst;obtain⟨n0,n1⟩:=hk2 st hst.2;obtain⟨_,h⟩:=hf st hst.1;rcases h with h | ⟨⟨k,d⟩,hz,hd⟩
    ·exact absurd h n0
    ·rcases id hz with ⟨_,⟨_,e⟩ | ⟨_,e⟩⟩ | ⟨r,hr,_⟩
     ·exact absurd e n0
     ·exact absurd e n1
     ·refine⟨_,Ad hr,?_⟩;rcases hz.to hs hr hd with ⟨_,h⟩ | ⟨_,h⟩ | ⟨_,h⟩
      ·exact .inl h
      ·exact .inr (.inl h)
      ·exact .inr (.inr h)
   ·rw[List.pairwise_map];refine List.Pairwise.imp_of_mem (λ{a b} ha hb hab hS=>hab ?_) (hn.filter _);rw[Ra,RS] at ha hb;obtain⟨a0,a1⟩:=hk2 a ha.2;obtain⟨b0,b1⟩:=hk2 b hb.2;have ga:=(hf a ha.1).1;have gb:=(hf b hb.1).1;exact oo ga.1 gb.1 λz=>⟨AY hs ga gb a0 a1 (λr hr=>⟨(hS r hr).1.1,(hS r hr).2.1.1,(hS r hr).2.2.1⟩) z,
     AY hs gb ga b0 b1 (λr hr=>⟨(hS r hr).1.2,(hS r hr).2.1.2,(hS r hr).2.2.2⟩) z⟩
  have:=G.NV;rw[Rq] at this;exact this
 simp only[Na,Sg,Sy,Uw] at hc;omega
theorem xV{α:Type}[DecidableEq α]{most:Nat}{step:α->List (Option α)}{first:α}{P:α->Prop}(hfew:∀br:List α,br.Nodup->(∀s∈br,P s)->br.length<=most)
  (hstep:∀s,P s->∀s',some s'∈step s->P s'):∀(f i:Nat) {br:List α} {rows:List (List Int)},n6 most step first i br rows->(∀s∈br,P s)->most<f+i->
  ∃r,mf most step f i br rows=some r
 | 0,i,br,rows,h,_,h1=>by have:=h.le;have:=h.m5;omega
 | f+1,i,br,rows,h,hP,h1=>by
  unfold mf;split
  ·exact⟨_,rfl⟩
  ·rename_i st hst;obtain⟨_,h2,h3,_⟩:=k9 (step st) br;have hP2:∀s∈(bQ br (step st)).1,P s:=λs hs=>by
    rcases h3 s hs with h4 | h4
    ·exact hP s h4
    ·exact hstep st (hP st (gM hst)) s h4
   have hm:=hfew _ (h2 h.nodup) hP2;rw[If hm];exact xV hfew hstep f (i+1) (h.next hst hm) hP2 zo
theorem Db{g:af}(hs:Small g):∃I rows,kB g=some (I,rows):=by
 have h:=xV (most:=400) (step:=rG g) (first:=lW g) (P:=tp g) (λbr hn hp=>Dm hs hn hp) (λs hp s' hs'=>by
  obtain⟨y,hy,e⟩:=Rg.1 hs';split at e
  ·cases e
  ·rename_i hk;obtain rfl:=AT e;obtain⟨k,hk1,hk2⟩:=R2 hy;have hy2:=(Ch (g:=g) (k:=k) (y:=y) (by rw[gE hk1,hk2])).1;obtain⟨w,hw,_⟩:=hp;have hn:=Hi hs hw hy2;refine⟨_,hn,.inr ?_⟩;cases hkn:ff g s y with
   | nil=>exact absurd hkn hk
   | cons z t=>
    have hz:z∈ff g s y:=by rw[hkn];exact Rl ..
    exact⟨z,(hn.2 z).1 ((di λx hx=>(fK x hx).1).2 (.base hz)),(fK z hz).2⟩) 401 0
  (n6.begin (rG g) (lW g) (by decide)) (λs h=>by
   rw[Rh] at h;subst h;exact⟨[],GF hs,.inl rfl⟩) zo
 obtain⟨⟨I,rows⟩,h⟩:=h;exact⟨I,rows,h⟩
structure P5 where
 f:FZ
 al:Bool
def wj(g:af)(w:List Nat)(k:Nat):Prop:=∃v,iB g (w.take k++v) ⟨false,g.start⟩ 0 (w.take k++v).length
theorem take_cons{w:List Nat}{k y:Nat}(h:w[k]?=some y)(u:List Nat):w.take (k+1)++u=w.take k++y::u:=by
 rw[Rk,h];simp
theorem wj.less{g:af}{w:List Nat}{k y:Nat}(h:w[k]?=some y)(hv:wj g w (k+1)):wj g w k:=by
 obtain⟨v,hv⟩:=hv;rw[take_cons h] at hv;exact⟨_,hv⟩
theorem wj.zero{g:af}(hg:Valid g)(hP:∀n,n<g.ak->dp g n)(w:List Nat):wj g w 0:=by
 obtain⟨v,hv⟩:=hP g.start hg.range.start;exact⟨v,by rw[TV,SG];exact hv⟩
theorem Ba(ok:CC.Ok Tryz.prog)(fok:bH CC Tryz.prog)(F:ar)(hL:Laid F){a b:Option Addr}{m n c d:Nat}{l w0:List Int}(hl:bw fm F a m c l)(hw0:bw fm F b n d w0)(hm:n<=9223372036854775807) :
  cm CC Tryz.prog 4 [.slice a m c,.slice b n d] F [] λ_ v o=>o=[]/\v=.bool true:=by
 refine cm.fn (n:=96) ok Tryz.func4 rfl rfl λown=>?_;refine bf.du ok fok ?_;refine aj ?_;refine bf.du ok fok ?_;refine aj ?_;refine WT.dH Tryz.func14 Z Z Z Z Z Z (Fp _ hl hw0 hm 8 (by decide)) (λF1 v hF1 hv=>?_);obtain⟨g,ga,gm,gc,wa,wn,wc,w,rfl,hg,hr,hw,hw1,hw2⟩:=hv;have hL:=hL.mono hF1;have hgv:=hg.valid;have hgt:=hg.ae;have hwl:=hw.len;obtain⟨I,rows,hI⟩:=Db hg;have hst:cW g 1=some (kJ g I (λ_=>nG g),rows):=by unfold cW;rw[By (by decide),hI];rfl
 obtain⟨hA,hLR⟩:=lS hgv hst;generalize kJ g I (λ_=>nG g)=S at hst hA hLR;unfold ai;refine aj ?_;refine WT.aI hT Z Z Z Z Z Z (λi5 hi5=>?_);refine aj ?_;refine bf.seq (bf.region (dJ.take ok fok 2 ?_));refine aj ?_;have ht:=qt ok fok F1 hL g hgv zo hr hw zo hw2 hst;unfold ai at ht;refine dJ.call ok rfl (λ_=>rfl) ht (Rc _) (λF2 v o hF2 hv=>?_);obtain⟨rfl,G,L,b1,n1,d1,rfl,hLa,hLl,hfin,htop⟩:=hv;have hL:=hL.mono hF2;have hr:=hr.mono hF2;have hw:=hw.mono hF2;have hn1:=hLa.len;refine dJ.all ok fok ?_;refine aj ?_
 refine bf.du ok fok ?_;refine aj ?_;have hzn:=Fy F2 g hgv hr;unfold ai at hzn;refine WT.lC Tryz.func16 Z Z Z Z Z Z hzn (λF3 v B3 hF3 hvz=>?_);obtain⟨f0,rfl,rfl,hf0,hfw0⟩:=hvz;have hL:=hL.mono hF3;have hr:=hr.mono hF3;have hw:=hw.mono hF3;have hLa:=hLa.mono hF3;refine aj ?_;refine bf.seq (bf.seq (bf.region ?_));refine dJ.call ok rfl (λ_=>rfl) (qP ok fok F3 hL) (Rc _) (λF4 v o hF4 hv=>?_);obtain⟨rfl,rfl⟩:=hv;have hL:=hL.mono hF4;have hr:=hr.mono hF4;have hw:=hw.mono hF4;have hLa:=hLa.mono hF4;have hf0:=hf0.mono hF4
 obtain rfl:n1=wn+1:=by omega
 refine dJ.all ok fok ?_;refine aj ?_;refine WT.split 48 Z (λh=>?_) (λ_=>?_)
 ·exfalso;simp at h
 refine aj ?_;have hpv:=um F4 g hgv hr;unfold ai at hpv;refine WT.dH Tryz.func18 Z Z Z Z Z Z hpv (λF5 v hF5 hv=>?_);obtain⟨pb,rfl,hpb⟩:=hv;have hL:=hL.mono hF5;have hr:=hr.mono hF5;have hw:=hw.mono hF5;have hLa:=hLa.mono hF5;have hf0:=hf0.mono hF5;refine aj ?_;cases pb with
 | false=>
  refine bf.cond rfl (λ_=>?_) (λh=>(by cases h));refine bf.seq (bf.region ?_);refine dJ.call ok rfl (λ_=>rfl) (qP ok fok F5 hL) (Rc _) (λF6 v o hF6 hv=>?_);obtain⟨rfl,rfl⟩:=hv;have hw:=hw.mono hF6;have hLa:=hLa.mono hF6;refine dJ.all ok fok ?_;refine aj ?_;refine bf.fY ok fok ?_;exact AW.ret ⟨_,[],⟨_,_,rfl,rfl,rfl⟩,bU,rfl,by show Value.bool _=_;simp⟩
 | true=>
  have hP:=hpb rfl;refine bf.cond rfl (λh=>(by cases h)) (λ_=>?_);refine bf.skip ok fok ?_;refine bf.fY ok fok ?_;have hvia:∀q,q<=wn->((∃s,(q,s)∈aQ G)↔wj g w q):=λq hq=>hfin.alive hgv hP hA hLR zo zo;refine aj ?_;refine AW.range (S:=P5) (λs=>[(10,.bool s.al)]) (λs=>zB g s.f::[(i5,.cells false [.int .i64 g.ae,.int .i64 g.ak,.int .i64 g.start,.slice ga gm gc])]::own) (λk s F=>s.f.fi=f0.fi/\(s.al=true->JK g F s.f/\s.f.w=w.take (k-1))/\(s.al=true↔wj g w (k-1))) (wn+1) ⟨f0,true⟩
   Z Z Z Z Z Z Z Z Z zo rfl rfl (λ_=>rfl) (λ_=>rfl) sM oR ⟨rfl,λ_=>⟨hf0,by rw[hfw0];rfl⟩,λ_=>wj.zero hgv hP w,λ_=>rfl⟩ ?_ ?_
  ·intro k s F6 hF6 hk hI;obtain⟨f,al⟩:=s;obtain⟨hfi,hok,hal⟩:=hI;dsimp only at hfi hok hal;have hLa:=hLa.mono hF6;have hw:=hw.mono hF6;refine aj ?_;refine WT.bG hT hLa Z Z Z Z Z Z Z Z Z zo (λl hl b3 off3 ro3 cs3 lx3 hb3 hp3 hrel3=>?_);obtain⟨ta,tn,tc,rfl,hla⟩:=hrel3;have htn:=hla.len;have htop:=htop k l hl;have hne:0<tn↔wj g w k:=by
    rw[<-hvia k zo,htn];constructor
    ·intro h;exact⟨l[0],(htop.mem _).1 (TG h)⟩
    ·rintro⟨s,hs⟩;exact TJ ((htop.mem s).2 hs)
   refine aj ?_;refine AW.EG (S:=P5) (λs=>[(10,.bool s.al)]) (λs=>zB g s.f::[(i5,.cells false [.int .i64 g.ae,.int .i64 g.ak,.int .i64 g.start,.slice ga gm gc])]::own) (λs F=>s.f.fi=f0.fi/\(s.al=true->JK g F s.f/\s.f.w=w.take k)/\(s.al=true↔wj g w k)) ?_ (λs F7 hF7 hs=>?_)
   ·refine AW.cond Z (λh=>?_) (λh=>?_)
    ·obtain⟨k,rfl⟩:∃k',k=k'+1:=⟨k-1,by simp at h;omega⟩;rw[SY] at hok hal;have hkw:k<w.length:=by omega
     have hy:=gE hkw;cases al with
     | false=>
      refine aj ?_;refine⟨⟨f,false⟩,sM,ah.refl _,hfi,λe=>(by cases e),λe=>(by cases e),λe=>?_⟩;exact hal.2 (e.less hy)
     | true=>
      obtain⟨hz,hfw⟩:=hok rfl;have hyt:=hw2 _ (gM hy);generalize w[k]=y at hy hyt;refine aj ?_;refine WT.iE (v':=.int .i64 (k:Nat)) 84 Z Z ?_;refine WT.bG hT hw Z Z Z Z Z Z Z Z Z zo (λy' hy' b4 off4 ro4 cs4 lx4 hb4 hp4 hrel4=>?_);obtain rfl:y=y':=by rw[hy] at hy';exact AT hy'
      obtain rfl:lx4=_:=hrel4;refine aj ?_;have pspec:=Gh F6 g hgv hz (by rw[hfw,RK];omega) y hyt;rw[hfi] at pspec;refine WT.bW 0 Tryz.func19 Z Z Z Z Z Z Z (λ_=>rfl) pspec (λF8 v B8 hF8 hv8=>?_);obtain⟨f',rfl,hf',hfi',_,hcase⟩:=hv8;have hgo:=Ga hgv hz (t:=y);rw[hfw] at hgo;have hgo2:(∃u,iB g (w.take k++y::u) ⟨false,g.start⟩ 0 (w.take k++y::u).length)↔wj g w (k+1):=by
       constructor
       ·rintro⟨u,hu⟩;exact⟨u,by rw[take_cons hy];exact hu⟩
       ·rintro⟨u,hu⟩;rw[take_cons hy] at hu;exact⟨u,hu⟩
      rcases hcase with ⟨hyes,rfl,hfw'⟩ | ⟨hno,rfl,hfw'⟩
      ·refine aj ?_;exact⟨⟨f',true⟩,sM,ah.refl _,hfi',λ_=>⟨hf',by rw[hfw',hfw,Rk,hy];rfl⟩,λ_=>hgo2.1 (hgo.1 hyes),λ_=>rfl⟩
      ·refine aj ?_;exact⟨⟨f',false⟩,sM,ah.refl _,hfi',λe=>(by cases e),λe=>(by cases e),λe=>absurd (hgo.2 (hgo2.2 e)) hno⟩
    ·obtain rfl:k=0:=by simp at h;omega
     refine aj ?_;exact⟨⟨f,al⟩,sM,ah.refl _,hfi,hok,hal⟩
   ·obtain⟨f2,al2⟩:=s;obtain⟨hfi2,hok2,hal2⟩:=hs;dsimp only at hfi2 hok2 hal2;have hsame:decide ((tn:Int) > 0)=al2:=by
     rw[SH,hal2,<-hne];simp
    refine aj ?_;refine AW.cond Z (λh=>?_) (λh=>?_)
    ·exfalso;have h:(!(decide ((tn:Int) > 0)==al2))=true:=h;rw[hsame] at h;simp at h
    ·refine aj ?_;exact⟨⟨f2,al2⟩,sM,ah.refl _,hfi2,hok2,hal2⟩
  ·intro s F6 hF6 hI;refine aj ?_;exact AW.ret ⟨_,[],⟨_,_,rfl,rfl,rfl⟩,bU,rfl,rfl⟩
end Go.Proofs.D