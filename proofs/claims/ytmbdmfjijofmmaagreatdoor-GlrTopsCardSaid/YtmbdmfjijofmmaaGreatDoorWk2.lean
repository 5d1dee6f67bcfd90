/-
  Walks: what functions of the program do, over the abstract machine.
-/
import Derived.Test.YtmbdmfjijofmmaaGreatDoorWk1
import Derived.Sort.Walk13a
set_option linter.unusedVariables false
set_option maxRecDepth 20000
set_option maxHeartbeats 0
open Go Go.Abs Go.Proofs Go.Proofs.D
set_option linter.unusedVariables false
set_option maxRecDepth 20000
set_option maxHeartbeats 0
open Go Go.Abs Go.Proofs Go.Proofs.D
namespace Go.Proofs.D
theorem IJ{g:af}{w:List Nat}{E:List (List Nat)}(hE:lU g w E){s:Sym}{i j:Nat}(hi:i<=w.length):po w E s i j=true↔iB g w s i j:=by
 rw[Fw];unfold Step;obtain⟨b,n⟩:=s;cases b with
 | true=>simp only[Sv];rw[IC]
 | false=>
  simp only[SE,SL];exact hE.iff n i j hi
def rootKey(g:af)(w:List Nat):Key:=⟨⟨false,g.start⟩,0,w.length⟩
def rC(g:af)(w:List Nat)(E:List (List Nat))(F:ar)(v:Value):Prop:=
 (po w E ⟨false,g.start⟩ 0 w.length=false/\v=.agg ⟨[.slice none 0 0,.int .i64 (-1)]⟩)\/
 (po w E ⟨false,g.start⟩ 0 w.length=true/\∃S a n c,v=.agg ⟨[.slice a n c,.int .i64 (place S (rootKey g w):Nat)]⟩/\GO g w E (rootKey g w) S/\bw Nw F a n c (S.map (mkNode g w E S)))
theorem rC.mono{g:af}{w:List Nat}{E:List (List Nat)}{F G:ar}{v:Value}(h:rC g w E F v)(hF:ar.le F G):rC g w E G v:=by
 rcases h with h | ⟨h1,S,a,n,c,h2,h3,h4⟩
 ·exact .inl h
 ·exact .inr ⟨h1,S,a,n,c,h2,h3,h4.mono hF⟩
def KY(g:af)(w:List Nat)(E:List (List Nat))(F:ar)(v:Value):Prop:=
 (∃s a n c r,s=.agg ⟨[.slice a n c,.int .i64 r]⟩/\v=.tuple ⟨[s,.int .i64 0]⟩/\rC g w E F s/\∀S,GO g w E (rootKey g w) S->po w E ⟨false,g.start⟩ 0 w.length=true->Af g w E S<=20000)\/
 (v=.tuple ⟨[.agg ⟨[.slice none 0 0,.int .i64 0]⟩,.int .i64 2]⟩/\po w E ⟨false,g.start⟩ 0 w.length=true/\∃L:List Key,L.Nodup/\(∀k∈L,iM g w E (rootKey g w) k)/\20000<Af g w E L)
mutual
def Tree.pre:Tree->List Int
 | .mk r _ ks=>r::Fu ks
def Fu:List Tree->List Int
 | []=>[]
 | t::ts=>t.pre++Fu ts
end
structure Fo where
 n:Nat
 leaf:Nat->Option Nat
 jC:Nat->List rF
mutual
inductive NT(f:Fo):Nat->Tree->Prop
 | leaf {v t:Nat}:v<f.n->f.leaf v=some t->NT f v (.mk (-1) t [])
 | node {v:Nat} {p:rF} {ts:List Tree}:v<f.n->f.leaf v=none->p∈f.jC v->M4 f p.kids ts->NT f v (.mk p.aA 0 ts)
inductive M4(f:Fo):List Nat->List Tree->Prop
 | nil:M4 f [] []
 | cons {k:Nat} {t:Tree} {ks:List Nat} {ts:List Tree}:NT f k t->M4 f ks ts->M4 f (k::ks) (t::ts)
end
structure Fo.Good(f:Fo):Prop where
 kids:∀v,v<f.n->∀p∈f.jC v,p.kids.length<=4/\∀k∈p.kids,k<f.n
 dec:∀v T T',NT f v T->NT f v T'->T.pre=T'.pre->T=T'
 uniq:∀v,v<f.n->f.leaf v=none->∀(a b:Nat) (p q:rF),(f.jC v)[a]?=some p->(f.jC v)[b]?=some q->p.aA=q.aA->∀ts,M4 f p.kids ts->M4 f q.kids ts->a=b
structure Qx where
 node:Nat
 pack:Nat
 r0:Nat
 r1:Nat
 r2:Nat
 r3:Nat
deriving DecidableEq
def pick(L:Nat->List Tree):List Nat->List Nat->Option (List Tree)
 | [],_=>some []
 | k::ks,r::rs=>match (L k)[r]? with
  | some t=>match pick L ks rs with
   | some ts=>some (t::ts)
   | none=>none
  | none=>none
 | _::_,[]=>none
structure Lr where
 aA:Nat
 dot:Nat
deriving DecidableEq,Inhabited
def dM:Ty Lr where
 size:=2
 rel:=λ_ l x=>l=[.int .i64 x.aA,.int .i64 x.dot]
 len:=λ_ _ _ h=>by rw[h];rfl
 one:=λ_ _ _ h=>by rw[h];rfl
 mono:=λ_ _ _ _ _ h=>h
theorem zH(F:ar){a:Option Addr}{m c:Nat}{xs:List Lr}(hx:bw dM F a m c xs)(hm:m<=1000000) :
  Abs.Spec CC 193 [.slice a m c] F [] λF' v o=>∃B',o=[B']/\∃a' c',v=.slice a' m c'/\dC dM F' a' m c' B' xs:=by
 refine Abs.Spec.fn (n:=8) Tryz.func193 rfl rfl λown=>?_;refine au ?_;refine WT.rz hT Z Z Z Z Z Z Z Z ?_;refine au ?_;refine AW.cond Z (λh=>?_) (λh=>?_)
 ·exact KM
 ·refine au ?_;refine WT.bd hT Z Z Z Z Z Z Z Z Z Z Z Z Z Z (λi5 hi5=>?_);refine au ?_;obtain⟨ds,hds,hcs⟩:=rR hT hx (t:=259) rfl rfl 181;exact KG
def pI(x y:Lr):Bool:=decide (x.aA<y.aA\/(x.aA=y.aA/\x.dot<y.dot))
theorem jW{x y:Lr}:pI x y=true↔(x.aA<y.aA\/(x.aA=y.aA/\x.dot<y.dot)):=by unfold pI;exact decide_eq_true_iff
theorem rE{x y:Lr}:pI x y=false↔¬(x.aA<y.aA\/(x.aA=y.aA/\x.dot<y.dot)):=by unfold pI;exact decide_eq_false_iff_not
theorem II:Go.Sort.SWO pI where
 irrefl:=λx=>by rw[rE];omega
 trans:=λx y z h1 h2=>by rw[jW] at *;omega
 ntrans:=λx y z h1 h2=>by rw[rE] at *;omega
theorem Gu(x y:Lr)(h1:pI x y=false)(h2:pI y x=false):x=y:=by
 rw[rE] at *;cases x;cases y;simp only at h1 h2;simp only[Lr.mk.injEq];omega
theorem IQ(x y:Lr):mQ [dn x.aA y.aA,dn x.dot y.dot]<0↔pI x y=true:=by
 rw[jW];simp only[mQ];unfold dn
 repeat' split
 all_goals omega
theorem Aj(F:ar)(x y:Lr):Abs.Spec CC 196 [.agg ⟨[.int .i64 x.aA,.int .i64 x.dot]⟩,.agg ⟨[.int .i64 y.aA,.int .i64 y.dot]⟩] F [] λ_ v o=>o=[]/\v=.int .i64 (mQ [dn x.aA y.aA,dn x.dot y.dot]):=by
 refine Abs.Spec.fn (n:=17) Tryz.func196 rfl rfl λown=>?_;refine AW.seq (AW.du ?_);refine WT.cC Z Z Z Z Z Z (λi2 hi2=>?_);refine WT.cC Z Z Z Z Z Z (λi3 hi3=>?_);refine au ?_;refine AW.draw (ps:=[(6,4),(8,4)]) Z Z ?_;refine au ?_;refine WT.bN Tryz.func124 Z Z Z Z Z Z (jF _ _ _) (λv hv=>?_);subst hv;refine au ?_;refine WT.bN Tryz.func124 Z Z Z Z Z Z (jF _ _ _) (λv hv=>?_);subst hv;refine WT.bd hT Z Z Z Z Z Z Z Z Z Z Z Z Z Z (λi9 hi9=>?_)
 refine WT.eK 0 Tryz.func123 Z Z Z Z Z Z Z (λG hG hBG=>Et G (l:=[dn x.aA y.aA,dn x.dot y.dot]) (dy.frozen (F:=F) (B:=[(i9,.cells false [.int .i64 (dn x.aA y.aA),.int .i64 (dn x.dot y.dot)])]) ⟨rfl,.inr ⟨i9,_,rfl,rfl,rfl,aF.cons (l:=[_]) Z (aF.single (x:=dn x.dot y.dot) rfl),by decide⟩⟩ hG hBG) (by decide)) (λv hv=>?_);subst hv;refine au ?_;refine⟨oF,?_⟩;exact AW.ret ⟨_,[],⟨_,_,rfl,rfl,rfl⟩,bU,rfl,rfl⟩
theorem Bw(F:ar):jy dM pI F 196 [] []:=
 ⟨⟨_,Tryz.func196,rfl⟩,λG _ lx ly x y hx hy=>by
  obtain rfl:lx=_:=hx;obtain rfl:ly=_:=hy;exact Spec.mono (Aj G x y) (λF' v o _ h=>⟨h.1,_,h.2,IQ x y⟩)⟩
theorem yO(F:ar){a:Option Addr}{m c:Nat}{xs:List Lr}(hx:bw dM F a m c xs)(hm:m<=1000000)(x:Lr) :
  Abs.Spec CC 221 [.slice a m c,.agg ⟨[.int .i64 x.aA,.int .i64 x.dot]⟩] F [] λ_ v o=>o=[]/\∃i:Int,v=.int .i64 i/\(0<=i↔x∈xs):=by
 refine Abs.Spec.fn (n:=19) Tryz.func221 rfl rfl λown=>?_;have hxlen:=hx.len;refine AW.seq (AW.du ?_);refine WT.cC Z Z Z Z Z Z (λi3 hi3=>?_);refine au ?_;refine AW.range (S:=Unit) (λ_=>[]) (λ_=>_) (λj _ G=>x∉xs.take j) m () Z Z Z Z Z Z Z Z Z zo Z Z (λ_=>rfl) (λ_=>rfl) sM oR (by simp) ?_ ?_
 ·intro j _ F1 hF1 hj hP;have hx1:=hx.mono hF1;refine au ?_;refine WT.bG hT hx1 Z Z Z Z Z Z Z Z Z zo (λy hyj b1 off ro cs ly hb hp1 hrel=>?_);obtain rfl:ly=_:=hrel;refine au ?_;refine AW.cond Z (λhc=>?_) (λhc=>?_)
  ·refine au ?_;have e:x=y:=by
    simp at hc;cases x;cases y;simp only[Lr.mk.injEq] at *;omega
   subst e;refine AW.ret ⟨_,[],⟨_,_,rfl,rfl,rfl⟩,bU,rfl,_,rfl,?_⟩;exact⟨λ_=>gM hyj,λ_=>by omega⟩
  ·refine au ?_;refine⟨(),sM,cy,?_⟩;show x∉xs.take (j+1);rw[Rk,hyj];intro hm;rcases Rx.1 hm with h | h
   ·exact hP h
   ·have e:x=y:=by simpa using h
    subst e;simp at hc
 ·intro _ F1 hF1 hP;rw[No zo] at hP;refine au ?_;exact AW.ret ⟨_,[],⟨_,_,rfl,rfl,rfl⟩,bU,rfl,_,rfl,by simp[hP]⟩
theorem uv(F:ar){a:Option Addr}{m c:Nat}{xs:List Lr}(hx:bw dM F a m c xs)(hm:m<=1000000)(x:Lr) :
  Abs.Spec CC 194 [.slice a m c,.agg ⟨[.int .i64 x.aA,.int .i64 x.dot]⟩] F [] λ_ v o=>o=[]/\v=.bool (decide (x∈xs)):=by
 refine Abs.Spec.fn (n:=9) Tryz.func194 rfl rfl λown=>?_;refine AW.seq (AW.du ?_);refine WT.cC Z Z Z Z Z Z (λi3 hi3=>?_);refine au ?_;refine WT.bN Tryz.func221 Z Z Z Z Z Z (yO _ hx hm x) (λv hv=>?_);obtain⟨i,rfl,hi⟩:=hv;refine au ?_;refine AW.ret ⟨_,[],⟨_,_,rfl,rfl,rfl⟩,bU,rfl,?_⟩;rw[show decide (x∈xs)=decide (0<=i) from by simp[hi]];rfl
theorem C7(F:ar){lt:Lr->Lr->Bool}{g:Nat}{first capt:List Value}(hc:jy dM lt F g first capt){a0:Option Addr}{m c:Nat}{B:List (Nat×aD)}{d:Array Lr}(hv:dC dM F a0 m c B d.toList)(a b:Nat)(ha:a<=1000000)(hb:b<=m)(hm:m<=1000000) :
  Abs.Spec CC 246 [.slice a0 m c,.int .i64 a,.int .i64 b,.func (.func g) ⟨first⟩ ⟨capt⟩] F [B] λF' v o=>∃B',o=[B']/\dC dM F' a0 m c B' (Go.Sort.insertionSort lt d a b).toList:=by
 obtain⟨⟨fn,hg,hgb⟩,hcmp⟩:=hc;refine Abs.Spec.fn (n:=53) Tryz.func246 rfl rfl λown=>?_;refine aj ?_;refine AW.block ?_;refine AW.cK (S:=VS Lr) (λs=>[(8,.int .i64 (s.i:Nat))]) (λs=>s.B::own) (λs G=>dC dM G a0 m c s.B s.d.toList/\Go.Sort.insOuter lt a b s.i s.d=Go.Sort.insertionSort lt d a b) (λs=>b-s.i) ⟨a+1,d,B⟩
  sM oR ⟨hv,rfl⟩ ?_
 intro s F1 hF1 hP;obtain⟨hv1,heq1⟩:=hP;refine aj ?_;refine AW.cond Z (λh=>?_) (λh=>?_)
 ·have h:s.i<b:=by simpa using h
  refine aj ?_;refine AW.block ?_;refine aj ?_;refine AW.block ?_;refine AW.cK (S:=VS Lr) (λu=>[(9,.int .i64 (u.i:Nat))]) (λu=>u.B::own) (λu G=>dC dM G a0 m c u.B u.d.toList/\u.i<=s.i/\Go.Sort.insInner lt a u.i u.d=Go.Sort.insInner lt a s.i s.d) (λu=>u.i) ⟨s.i,s.d,s.B⟩
   sM oR ⟨hv1,AS _,rfl⟩ ?_
  intro u F2 hF2 hP2;obtain⟨hv2,hui,heq2⟩:=hP2;have hsz:m=u.d.size:=hv2.len;have stop:(a<u.i->lt u.d[u.i]! u.d[u.i-1]! = false)->Go.Sort.insOuter lt a b (s.i+1) u.d=Go.Sort.insertionSort lt d a b:=by
   intro h1;rw[<-heq1];have e:Go.Sort.insInner lt a s.i s.d=u.d:=by
    rw[<-heq2];cases hi:u.i with
    | zero=>rfl
    | succ j=>
     rw[hi] at h1;simp only[SY] at h1;rw[Go.Sort.insInner];by_cases h2:a<j+1
     ·rw[h1 h2];simp
     ·simp[h2]
   conv=>rhs;rw[Go.Sort.insOuter]
   rw[If h,e]
  refine aj ?_;refine WT.split 21 Z (λhja=>?_) (λhja=>?_)
  ·have hja:a<u.i:=by simp at hja;omega
   refine aj ?_;refine WT.be hT hv2 Z Z Z Z Z Z Z Z Z zo (λbl1 hbl1=>?_);refine WT.cz hT 0 hv2 hbl1 (aW zo) Z Z Z Z Z Z Z Z Z (λl1 hl1=>?_);refine aj ?_;refine WT.be hT hv2 Z Z Z Z Z Z Z Z Z zo (λbl2 hbl2=>?_);refine WT.cz hT 0 hv2 hbl2 (aW zo) Z Z Z Z Z Z Z Z Z (λl2 hl2=>?_);refine WT.fZ hg hgb Z Z Z Z Z Z Z (hcmp F2 (hF1.trans hF2) l1 l2 _ _ hl1 hl2) (λv hvz=>?_);obtain⟨z,rfl,hz⟩:=hvz;refine aj ?_;refine AW.cond Z (λhc=>?_) (λhc=>?_)
   ·have hlt:lt u.d[u.i]! u.d[u.i-1]! = true:=hz.1 (by simpa using hc);refine aj ?_;refine AW.block ?_;refine AW.draw (ps:=[(4,15)]) Z Z ?_;refine aj ?_;refine WT.be hT hv2 Z Z Z Z Z Z Z Z Z zo (λbl3 hbl3=>?_);refine WT.cz hT 0 hv2 hbl3 (aW zo) Z Z Z Z Z Z Z Z Z (λl3 hl3=>?_);refine aj ?_;refine WT.be hT hv2 Z Z Z Z Z Z Z Z Z zo (λbl4 hbl4=>?_);refine WT.cz hT 0 hv2 hbl4 (aW zo) Z Z Z Z Z Z Z Z Z (λl4 hl4=>?_);refine WT.be hT hv2 Z Z Z Z Z Z Z Z Z zo (λbl5 hbl5=>?_)
    refine WT.oY (y:=u.d[u.i-1]!) hT 0 hv2 hbl5 (gE (by simp;omega)) Z Z Z Z Z hl3 Z (λ_=>rfl) Z (λBl5 hBl5=>?_);refine WT.be hT hBl5 Z Z Z Z Z Z Z Z Z zo (λbl6 hbl6=>?_);refine WT.oY (y:=u.d[u.i]!) hT 0 hBl5 hbl6 (gE (by simp;omega)) Z Z Z Z Z hl4 Z (λ_=>rfl) Z (λBl6 hBl6=>?_);rw[<-dS] at hBl6;refine aj ?_;refine⟨oF,?_⟩;refine aj ?_;refine⟨⟨u.i-1,Go.Sort.swp u.d u.i (u.i-1),Bl6⟩,by dsimp only;omega,sM,ah.refl _,hBl6,by dsimp only;omega,?_⟩;rw[<-heq2];show Go.Sort.insInner lt a (u.i-1) (Go.Sort.swp u.d u.i (u.i-1))=_;cases hi:u.i with
    | zero=>omega
    | succ j=>
     rw[hi] at hlt;simp only[SY] at hlt ⊢
     conv=>rhs;rw[Go.Sort.insInner]
     rw[If (by simp[hlt];omega)]
   ·have hlt:lt u.d[u.i]! u.d[u.i-1]! = false:=by
     cases hh:lt u.d[u.i]! u.d[u.i-1]! with
     | false=>rfl
     | true=>exact absurd (hz.2 hh) (by simpa using hc)
    refine AW.exit ?_;refine aj ?_;exact⟨⟨s.i+1,u.d,u.B⟩,by dsimp only;omega,sM,ah.refl _,hv2,stop (λ_=>hlt)⟩
  ·have hja:¬a<u.i:=by simp at hja;omega
   refine aj ?_;refine AW.cond Z (λh=>(by cases h)) (λ_=>?_);refine AW.exit ?_;refine aj ?_;exact⟨⟨s.i+1,u.d,u.B⟩,by dsimp only;omega,sM,ah.refl _,hv2,stop (λh=>absurd h hja)⟩
 ·have h:¬s.i<b:=by simpa using h
  refine AW.exit ?_;refine⟨_,[_],rfl,bU,_,rfl,?_⟩;rw[<-heq1,Go.Sort.insOuter,By h];exact hv1
theorem tW(F:ar){lt:Lr->Lr->Bool}{g:Nat}{first capt:List Value}(hc:jy dM lt F g first capt){a0:Option Addr}{m c:Nat}{B:List (Nat×aD)}{d:Array Lr}(hv:dC dM F a0 m c B d.toList)(lo hi fst:Nat)(hlo:lo<=1000000)(hb:fst+hi<=m)(hm:m<=1000000) :
  Abs.Spec CC 273 [.slice a0 m c,.int .i64 lo,.int .i64 hi,.int .i64 fst,.func (.func g) ⟨first⟩ ⟨capt⟩] F [B] λF' v o=>∃B',o=[B']/\dC dM F' a0 m c B' (Go.Sort.siftDown lt hi fst lo d).toList:=by
 obtain⟨⟨fn,hg,hgb⟩,hcmp⟩:=hc;refine Abs.Spec.fn (n:=82) Tryz.func273 rfl rfl λown=>?_;refine aj ?_;refine AW.block ?_;refine AW.cK (S:=VS Lr) (λs=>[(10,.int .i64 (s.i:Nat))]) (λs=>s.B::own) (λs G=>dC dM G a0 m c s.B s.d.toList/\s.i<=1000000/\Go.Sort.siftDown lt hi fst s.i s.d=Go.Sort.siftDown lt hi fst lo d) (λs=>hi-s.i) ⟨lo,d,B⟩
  sM oR ⟨hv,hlo,rfl⟩ ?_
 intro u F1 hF1 hP;obtain⟨hv2,hui,heq⟩:=hP;have hsz:m=u.d.size:=hv2.len;refine AW.block ?_;refine aj ?_;refine AW.cond Z (λh=>?_) (λh=>?_)
 ·have h:hi<=2*u.i+1:=by simp at h;omega
  refine AW.exit ?_;refine⟨_,[_],rfl,bU,_,rfl,?_⟩;rw[<-heq,Go.Sort.siftDown,dif_pos h];exact hv2
 ·have h:2*u.i+1<hi:=by simp at h;omega
  refine AW.skip ?_;refine AW.jn (S:=Nat) (λch=>[(11,.int .i64 (ch:Nat))]) (λ_=>u.B::own) (λch _=>u.i<ch/\ch<hi/\Go.Sort.siftDown lt hi fst u.i u.d=if (!lt u.d[fst+u.i]! u.d[fst+ch]!)=true then u.d else Go.Sort.siftDown lt hi fst ch (Go.Sort.swp u.d (fst+u.i) (fst+ch))) ?_ (λch F3 hF3 hch=>?_)
  ·have e1:(decide (2*u.i+1+1<hi)&&lt u.d[fst+(2*u.i+1)]! u.d[fst+(2*u.i+1)+1]!)=false->Go.Sort.siftDown lt hi fst u.i u.d=if (!lt u.d[fst+u.i]! u.d[fst+(2*u.i+1)]!)=true then u.d else Go.Sort.siftDown lt hi fst (2*u.i+1) (Go.Sort.swp u.d (fst+u.i) (fst+(2*u.i+1))):=by
    intro h1
    conv=>lhs;rw[Go.Sort.siftDown]
    rw[dif_neg zo];simp only[IN,RS,Bool.and_eq_false_imp] at h1 ⊢;rw[By (λh2=>by have:=h1 h2.1;rw[h2.2] at this;cases this)]
   refine aj ?_;refine WT.split 23 Z (λh2=>?_) (λh2=>?_)
   ·have h2:2*u.i+1+1<hi:=by simp at h2;omega
    refine aj ?_;refine WT.be hT hv2 Z Z Z Z Z Z Z Z Z zo (λbl1 hbl1=>?_);refine WT.cz hT 0 hv2 hbl1 (aW zo) Z Z Z Z Z Z Z Z Z (λl1 hl1=>?_);refine aj ?_;refine WT.be hT hv2 Z Z Z Z Z Z Z Z Z zo (λbl2 hbl2=>?_);refine WT.cz hT 0 hv2 hbl2 (aW zo) Z Z Z Z Z Z Z Z Z (λl2 hl2=>?_);refine WT.fZ hg hgb Z Z Z Z Z Z Z (hcmp F1 hF1 l1 l2 _ _ hl1 hl2) (λv hvz=>?_);obtain⟨z,rfl,hz⟩:=hvz;refine aj ?_;refine AW.cond Z (λhc=>?_) (λhc=>?_)
    ·have hlt:=hz.1 (by simpa using hc);refine aj ?_;refine⟨2*u.i+1+1,sM,ah.refl _,by omega,h2,?_⟩
     conv=>lhs;rw[Go.Sort.siftDown]
     rw[dif_neg zo,If (by simp[h2,hlt])];rw[dif_pos (show 2*u.i+2<hi by omega)]
    ·have hlt:lt u.d[fst+(2*u.i+1)]! u.d[fst+(2*u.i+1)+1]! = false:=by
      cases hh:lt u.d[fst+(2*u.i+1)]! u.d[fst+(2*u.i+1)+1]! with
      | false=>rfl
      | true=>exact absurd (hz.2 hh) (by simpa using hc)
     refine AW.skip ?_;exact⟨2*u.i+1,sM,ah.refl _,by omega,h,e1 (by rw[hlt];simp)⟩
   ·have h2:¬2*u.i+1+1<hi:=by simp at h2;omega
    refine aj ?_;refine AW.cond Z (λh=>(by cases h)) (λ_=>?_);refine AW.skip ?_;exact⟨2*u.i+1,sM,ah.refl _,by omega,h,e1 (by simp[h2])⟩
  ·obtain⟨hc1,hc2,hceq⟩:=hch;have hv3:=hv2.mono hF3;refine aj ?_;refine WT.be hT hv3 Z Z Z Z Z Z Z Z Z zo (λbl1 hbl1=>?_);refine WT.cz hT 0 hv3 hbl1 (aW zo) Z Z Z Z Z Z Z Z Z (λl1 hl1=>?_);refine aj ?_;refine WT.be hT hv3 Z Z Z Z Z Z Z Z Z zo (λbl2 hbl2=>?_);refine WT.cz hT 0 hv3 hbl2 (aW zo) Z Z Z Z Z Z Z Z Z (λl2 hl2=>?_);refine WT.fZ hg hgb Z Z Z Z Z Z Z (hcmp F3 (hF1.trans hF3) l1 l2 _ _ hl1 hl2) (λv hvz=>?_);obtain⟨z,rfl,hz⟩:=hvz;refine aj ?_;refine AW.cond Z (λhc=>?_) (λhc=>?_)
   ·have hlt:lt u.d[fst+u.i]! u.d[fst+ch]! = false:=by
     cases hh:lt u.d[fst+u.i]! u.d[fst+ch]! with
     | false=>rfl
     | true=>exact absurd (hz.2 hh) (by simpa using hc)
    refine AW.ret ⟨_,[_],rfl,bU,_,rfl,?_⟩;rw[<-heq,hceq,hlt,If (by decide)];exact hv3
   ·have hlt:=hz.1 (by simpa using hc);refine aj ?_;refine AW.draw (ps:=[(7,21)]) Z Z ?_;refine aj ?_;refine WT.be hT hv3 Z Z Z Z Z Z Z Z Z zo (λbl3 hbl3=>?_);refine WT.cz hT 0 hv3 hbl3 (aW zo) Z Z Z Z Z Z Z Z Z (λl3 hl3=>?_);refine aj ?_;refine WT.be hT hv3 Z Z Z Z Z Z Z Z Z zo (λbl4 hbl4=>?_);refine WT.cz hT 0 hv3 hbl4 (aW zo) Z Z Z Z Z Z Z Z Z (λl4 hl4=>?_);refine WT.be hT hv3 Z Z Z Z Z Z Z Z Z zo (λbl5 hbl5=>?_);refine WT.oY (y:=u.d[fst+ch]!) hT 0 hv3 hbl5 (gE (by simp;omega)) Z Z Z Z Z hl3 Z (λ_=>rfl) Z (λBl5 hBl5=>?_)
    refine WT.be hT hBl5 Z Z Z Z Z Z Z Z Z zo (λbl6 hbl6=>?_);refine WT.oY (y:=u.d[fst+u.i]!) hT 0 hBl5 hbl6 (gE (by simp;omega)) Z Z Z Z Z hl4 Z (λ_=>rfl) Z (λBl6 hBl6=>?_);rw[<-dS] at hBl6;refine aj ?_;refine⟨oF,?_⟩;refine aj ?_;refine⟨⟨ch,Go.Sort.swp u.d (fst+u.i) (fst+ch),Bl6⟩,by dsimp only;omega,sM,ah.refl _,hBl6,by dsimp only;omega,?_⟩;rw[<-heq,hceq,hlt,By (by simp)]
theorem AD(F:ar){lt:Lr->Lr->Bool}{g:Nat}{first capt:List Value}(hc:jy dM lt F g first capt){a0:Option Addr}{m c:Nat}{B:List (Nat×aD)}{d:Array Lr}(hv:dC dM F a0 m c B d.toList)(a b:Nat)(hab:a<b)(hb:b<=m)(hm:m<=1000000) :
  Abs.Spec CC 247 [.slice a0 m c,.int .i64 a,.int .i64 b,.func (.func g) ⟨first⟩ ⟨capt⟩] F [B] λF' v o=>∃B',o=[B']/\dC dM F' a0 m c B' (Go.Sort.heapSort lt d a b).toList:=by
 refine Abs.Spec.fn (n:=60) Tryz.func247 rfl rfl λown=>?_;refine aj ?_;refine WT.Du 2 Z Z Z Z Z Z (by decide) zo ?_;refine aj ?_;refine AW.iE (v':=.int .i64 ((((b-a-1) / 2+1:Nat):Int)-1)) 11 Z (by congr 1;omega) ?_;refine AW.EG (S:=VS Lr) (λ_=>[(11,.int .i64 (((0:Nat):Int)-1))]) (λs=>s.B::own) (λs G=>dC dM G a0 m c s.B s.d.toList/\s.d=Go.Sort.heapBuild lt (b-a) a ((b-a-1) / 2+1) d) ?_ (λs F1 hF1 hP=>?_)
 ·refine AW.block ?_;refine AW.cK (S:=VS Lr) (λs=>[(11,.int .i64 ((s.i:Int)-1))]) (λs=>s.B::own) (λs G=>dC dM G a0 m c s.B s.d.toList/\s.i<=1000000/\Go.Sort.heapBuild lt (b-a) a s.i s.d=Go.Sort.heapBuild lt (b-a) a ((b-a-1) / 2+1) d) (λs=>s.i) ⟨(b-a-1) / 2+1,d,B⟩
   sM oR ⟨hv,by dsimp only;omega,rfl⟩ ?_
  intro u F2 hF2 hP2;obtain⟨hv2,hui,heq⟩:=hP2;refine aj ?_;refine AW.cond Z (λh=>?_) (λh=>?_)
  ·have h:1<=u.i:=by simp at h;omega
   refine aj ?_;refine AW.block ?_;refine aj ?_;refine WT.iE (v':=.int .i64 ((u.i-1:Nat):Int)) 25 Z (by congr 1;omega) ?_;refine WT.bW 0 Tryz.func273 Z Z Z Z Z Z Z (λ_=>rfl) (tW _ (hc.mono hF2) hv2 (u.i-1) (b-a) a zo zo hm) (λF3 v B3 hF3 hv3=>?_);refine WT.nil ?_;refine AW.du ?_;refine WT.DR hT Z Z Z Z Z ?_;refine WT.Io Z Z Z Z Z Z zo ?_;refine WT.iE (v':=.int .i64 (((u.i-1:Nat):Int)-1)) 23 Z (by congr 1;omega) ?_;refine aj ?_;refine⟨⟨u.i-1,_,B3⟩,by dsimp only;omega,sM,ah.refl _,hv3,by dsimp only;omega,?_⟩;rw[<-heq];cases hi:u.i with
   | zero=>omega
   | succ j=>rfl
  ·have h:u.i=0:=by simp at h;omega
   refine AW.exit ?_;refine⟨⟨0,u.d,u.B⟩,bD.of_map (by rw[h];rfl),ah.refl _,hv2,?_⟩;rw[<-heq,h];rfl
 ·obtain⟨hv1,hd1⟩:=hP;refine aj ?_;refine AW.iE (v':=.int .i64 (((b-a:Nat):Int)-1)) 12 Z (by congr 1;omega) ?_;refine AW.block ?_;refine AW.cK (S:=VS Lr) (λs=>[(12,.int .i64 ((s.i:Int)-1))]) (λs=>s.B::own) (λs G=>dC dM G a0 m c s.B s.d.toList/\s.i<=b-a/\Go.Sort.heapPop lt a s.i s.d=Go.Sort.heapSort lt d a b) (λs=>s.i) ⟨b-a,s.d,s.B⟩
   sM oR ⟨hv1,AS _,by dsimp only;rw[hd1];rfl⟩ ?_
  intro u F2 hF2 hP2;obtain⟨hv2,hui,heq⟩:=hP2;have hsz:m=u.d.size:=hv2.len;refine aj ?_;refine AW.cond Z (λh=>?_) (λh=>?_)
  ·have h:1<=u.i:=by simp at h;omega
   refine aj ?_;refine AW.block ?_;refine AW.seq (AW.draw (ps:=[(5,17)]) Z Z ?_);refine aj ?_;refine WT.iE (v':=.int .i64 ((a+(u.i-1):Nat):Int)) 41 Z (by congr 1;omega) ?_;refine WT.iE (v':=.int .i64 ((a+(u.i-1):Nat):Int)) 45 Z (by congr 1;omega) ?_;refine WT.be hT hv2 Z Z Z Z Z Z Z Z Z zo (λbl3 hbl3=>?_);refine WT.cz hT 0 hv2 hbl3 (aW zo) Z Z Z Z Z Z Z Z Z (λl3 hl3=>?_);refine aj ?_;refine WT.be hT hv2 Z Z Z Z Z Z Z Z Z zo (λbl4 hbl4=>?_);refine WT.cz hT 0 hv2 hbl4 (aW zo) Z Z Z Z Z Z Z Z Z (λl4 hl4=>?_)
   refine WT.be hT hv2 Z Z Z Z Z Z Z Z Z zo (λbl5 hbl5=>?_);refine WT.oY (y:=u.d[a+(u.i-1)]!) hT 0 hv2 hbl5 (gE (by simp;omega)) Z Z Z Z Z hl3 Z (λ_=>rfl) Z (λBl5 hBl5=>?_);refine WT.be hT hBl5 Z Z Z Z Z Z Z Z Z zo (λbl6 hbl6=>?_);refine WT.oY (y:=u.d[a]!) hT 0 hBl5 hbl6 (gE (by simp;omega)) Z Z Z Z Z hl4 Z (λ_=>rfl) Z (λBl6 hBl6=>?_);rw[<-dS] at hBl6;refine aj ?_;refine⟨oF,?_⟩;refine aj ?_;refine WT.iE (v':=.int .i64 ((u.i-1:Nat):Int)) 56 Z (by congr 1;omega) ?_;refine WT.iE (v':=.int .i64 ((0:Nat):Int)) 55 Z Z ?_
   refine WT.bW 0 Tryz.func273 Z Z Z Z Z Z Z (λ_=>rfl) (tW _ ((hc.mono hF1).mono hF2) hBl6 0 (u.i-1) a zo zo hm) (λF3 v B3 hF3 hv3=>?_);refine WT.nil ?_;refine AW.du ?_;refine WT.DR hT Z Z Z Z Z ?_;refine WT.Io Z Z Z Z Z Z zo ?_;refine WT.iE (v':=.int .i64 (((u.i-1:Nat):Int)-1)) 35 Z (by congr 1;omega) ?_;refine aj ?_;refine⟨⟨u.i-1,_,B3⟩,by dsimp only;omega,sM,ah.refl _,hv3,by dsimp only;omega,?_⟩;rw[<-heq];cases hi:u.i with
   | zero=>omega
   | succ j=>rfl
  ·have h:u.i=0:=by simp at h;omega
   refine AW.exit ?_;refine⟨_,[_],rfl,bU,_,rfl,?_⟩;rw[<-heq,h];exact hv2
theorem Ct(F:ar){cv:Value}{a0:Option Addr}{m c:Nat}{B:List (Nat×aD)}{d:Array Lr}(hv:dC dM F a0 m c B d.toList)(a b:Nat)(hab:a<b)(hb:b<=m)(hm:m<=1000000) :
  Abs.Spec CC 250 [.slice a0 m c,.int .i64 a,.int .i64 b,cv] F [B] λF' v o=>∃B',o=[B']/\dC dM F' a0 m c B' (Go.Sort.reverseRange d a b).toList:=by
 refine Abs.Spec.fn (n:=34) Tryz.func250 rfl rfl λown=>?_;refine aj ?_;refine AW.block ?_;refine AW.cK (S:=Nat×VS Lr) (λs=>[(8,.int .i64 (s.2.i:Nat)),(9,.int .i64 (s.1:Nat))]) (λs=>s.2.B::own) (λs G=>dC dM G a0 m c s.2.B s.2.d.toList/\s.1<m/\s.2.i<=m/\Go.Sort.reverseLoop s.2.i s.1 s.2.d=Go.Sort.reverseRange d a b) (λs=>s.1-s.2.i) (b-1,⟨a,d,B⟩)
  sM oR ⟨hv,by dsimp only;omega,by dsimp only;omega,rfl⟩ ?_
 intro u F2 hF2 hP2;obtain⟨hv2,hj,hi,heq⟩:=hP2;have hsz:m=u.2.d.size:=hv2.len;refine aj ?_;refine AW.cond Z (λh=>?_) (λh=>?_)
 ·have h:u.2.i<u.1:=by simp at h;omega
  refine aj ?_;refine AW.block ?_;refine aj ?_;refine WT.be hT hv2 Z Z Z Z Z Z Z Z Z zo (λbl3 hbl3=>?_);refine WT.cz hT 0 hv2 hbl3 (aW zo) Z Z Z Z Z Z Z Z Z (λl3 hl3=>?_);refine aj ?_;refine WT.be hT hv2 Z Z Z Z Z Z Z Z Z zo (λbl4 hbl4=>?_);refine WT.cz hT 0 hv2 hbl4 (aW zo) Z Z Z Z Z Z Z Z Z (λl4 hl4=>?_);refine WT.be hT hv2 Z Z Z Z Z Z Z Z Z zo (λbl5 hbl5=>?_);refine WT.oY (y:=u.2.d[u.1]!) hT 0 hv2 hbl5 (gE (by simp;omega)) Z Z Z Z Z hl3 Z (λ_=>rfl) Z (λBl5 hBl5=>?_);refine WT.be hT hBl5 Z Z Z Z Z Z Z Z Z zo (λbl6 hbl6=>?_)
  refine WT.oY (y:=u.2.d[u.2.i]!) hT 0 hBl5 hbl6 (gE (by simp;omega)) Z Z Z Z Z hl4 Z (λ_=>rfl) Z (λBl6 hBl6=>?_);rw[<-dS] at hBl6;refine aj ?_;refine⟨(u.1-1,⟨u.2.i+1,Go.Sort.swp u.2.d u.2.i u.1,Bl6⟩),by dsimp only;omega,sM,ah.refl _,hBl6,by dsimp only;omega,by dsimp only;omega,?_⟩;rw[<-heq]
  conv=>rhs;rw[Go.Sort.reverseLoop]
  rw[If h]
 ·have h:¬u.2.i<u.1:=by simp at h;omega
  refine AW.exit ?_;refine⟨_,[_],rfl,bU,_,rfl,?_⟩;rw[<-heq,Go.Sort.reverseLoop,By h];exact hv2
theorem Ov{p:Prop} (h:p:=by
 refine aj ?_;refine WT.be hT hv6 Z Z Z Z Z Z Z Z Z zo (λbl5 hbl5=>?_);refine WT.cz hT 0 hv6 hbl5 (aW zo) Z Z Z Z Z Z Z Z Z (λl5 hl5=>?_);refine aj ?_;refine WT.be hT hv6 Z Z Z Z Z Z Z Z Z zo (λbl6 hbl6=>?_);refine WT.cz hT 0 hv6 hbl6 (aW zo) Z Z Z Z Z Z Z Z Z (λl6 hl6=>?_);refine WT.be hT hv6 Z Z Z Z Z Z Z Z Z zo (λbl7 hbl7=>?_);refine WT.oY (y:=u.2.d[j2]!) hT 0 hv6 hbl7 (gE (by simp;omega)) Z Z Z Z Z hl5 Z (λ_=>rfl) Z (λBl7 hBl7=>?_);refine WT.be hT hBl7 Z Z Z Z Z Z Z Z Z zo (λbl8 hbl8=>?_)
 refine WT.oY (y:=u.2.d[i2]!) hT 0 hBl7 hbl8 (gE (by simp;omega)) Z Z Z Z Z hl6 Z (λ_=>rfl) Z (λBl8 hBl8=>?_);rw[<-dS] at hBl8;refine aj ?_;refine⟨(i2+1,⟨j2-1,Go.Sort.swp u.2.d i2 j2,Bl8⟩),by dsimp only;omega,sM,ah.refl _,hBl8,by dsimp only;omega,by dsimp only;omega,by dsimp only;omega,?_⟩;rw[hloop,By h]):p:=h
theorem Bx(F:ar){lt:Lr->Lr->Bool}{g:Nat}{first capt:List Value}(hc:jy dM lt F g first capt){a0:Option Addr}{m c:Nat}{B:List (Nat×aD)}{d:Array Lr}(hv:dC dM F a0 m c B d.toList)(a b pivot:Nat)(hp1:a<=pivot)(hp2:pivot<b)(hb:b<=m)(hm:m<=1000000) :
  Abs.Spec CC 253 [.slice a0 m c,.int .i64 a,.int .i64 b,.int .i64 pivot,.func (.func g) ⟨first⟩ ⟨capt⟩] F [B] λF' v o=>∃B',o=[B']/\v=.tuple ⟨[.int .i64 ((Go.Sort.partition lt d a b pivot).1:Nat),.bool (Go.Sort.partition lt d a b pivot).2.1]⟩/\dC dM F' a0 m c B' (Go.Sort.partition lt d a b pivot).2.2.toList:=by
 obtain⟨⟨fn,hg,hgb⟩,hcmp⟩:=hc;have hsz:m=d.size:=hv.len;refine Abs.Spec.fn (n:=178) Tryz.func253 rfl rfl λown=>?_;refine aj ?_;refine WT.be hT hv Z Z Z Z Z Z Z Z Z zo (λbl1 hbl1=>?_);refine WT.cz hT 0 hv hbl1 (aW zo) Z Z Z Z Z Z Z Z Z (λl1 hl1=>?_);refine aj ?_;refine WT.be hT hv Z Z Z Z Z Z Z Z Z zo (λbl2 hbl2=>?_);refine WT.cz hT 0 hv hbl2 (aW zo) Z Z Z Z Z Z Z Z Z (λl2 hl2=>?_);refine WT.be hT hv Z Z Z Z Z Z Z Z Z zo (λbl3 hbl3=>?_);refine WT.oY (y:=d[pivot]!) hT 0 hv hbl3 (gE (by simp;omega)) Z Z Z Z Z hl1 Z (λ_=>rfl) Z (λBl3 hBl3=>?_)
 refine WT.be hT hBl3 Z Z Z Z Z Z Z Z Z zo (λbl4 hbl4=>?_);refine WT.oY (y:=d[a]!) hT 0 hBl3 hbl4 (gE (by simp;omega)) Z Z Z Z Z hl2 Z (λ_=>rfl) Z (λBl4 hBl4=>?_);rw[<-dS] at hBl4;obtain⟨d1,hd1⟩:∃d1,Go.Sort.swp d a pivot=d1:=⟨_,rfl⟩;rw[hd1] at hBl4;have hsz1:m=d1.size:=hBl4.len;refine aj ?_;obtain⟨i1,hi1⟩:∃i1,Go.Sort.scanUp (λx=>lt x d1[a]!) d1 (b-1) (a+1)=i1:=⟨_,rfl⟩;obtain⟨j1,hj1⟩:∃j1,Go.Sort.scanDown (λx=>!lt x d1[a]!) d1 i1 (b-1)=j1:=⟨_,rfl⟩;obtain⟨u1,u2,u3,u4⟩:=Go.Sort.scanUp_spec (λx=>lt x d1[a]!) d1 (b-1) _ (a+1) rfl
 obtain⟨v1,v2,v3,v4⟩:=Go.Sort.scanDown_spec (λx=>!lt x d1[a]!) d1 i1 (b-1);rw[hi1] at u1 u2 u4;rw[hj1] at v1 v2 v4;have u2:=u2 zo;have v2:=v2 zo;refine AW.EG (S:=Unit) (λ_=>[(12,.int .i64 (Go.Sort.scanUp (λx=>lt x d1[a]!) d1 (b-1) (a+1):Nat))]) (λ_=>(Bl4::own)) (λ_ _=>True) ?_ (λ_ F1 hF1 _=>?_)
 ·refine AW.block ?_;refine AW.cK (S:=Nat) (λi=>[(12,.int .i64 (i:Nat))]) (λ_=>(Bl4::own)) (λi _=>(a+1)<=i/\i<=(b-1)+1/\Go.Sort.scanUp (λx=>lt x d1[a]!) d1 (b-1) i=Go.Sort.scanUp (λx=>lt x d1[a]!) d1 (b-1) (a+1)) (λi=>(b-1)+1-i) (a+1) sM oR ⟨AS _,by omega,rfl⟩ ?_;intro i G hG hP;obtain⟨hi1,hi2,hi3⟩:=hP;have hvG:=hBl4.mono hG;refine aj ?_;refine WT.split 35 Z (λh=>?_) (λh=>?_)
  ·have h:i<=(b-1):=by simp at h;omega
   refine aj ?_;refine WT.be hT hvG Z Z Z Z Z Z Z Z Z zo (λbl1 hbl1=>?_);refine WT.cz hT 0 hvG hbl1 (aW zo) Z Z Z Z Z Z Z Z Z (λl1 hl1=>?_);refine aj ?_;refine WT.be hT hvG Z Z Z Z Z Z Z Z Z zo (λbl2 hbl2=>?_);refine WT.cz hT 0 hvG hbl2 (aW zo) Z Z Z Z Z Z Z Z Z (λl2 hl2=>?_);refine WT.fZ hg hgb Z Z Z Z Z Z Z (hcmp G ((ar.le.refl F).trans hG) l1 l2 _ _ hl1 hl2) (λv hvz=>?_);obtain⟨z,rfl,hz⟩:=hvz;refine aj ?_;refine AW.cond Z (λhc=>?_) (λhc=>?_)
   ·have hlt:=hz.1 (by simpa using hc);refine aj ?_;refine AW.block ?_;refine aj ?_;refine⟨i+1,by omega,sM,ah.refl _,by omega,by omega,?_⟩;rw[<-hi3]
    conv=>rhs;rw[Go.Sort.scanUp]
    rw[If (by simp[h,hlt])]
   ·have hlt:=(Sn.2 (λhh=>absurd (hz.2 hh) (by simpa using hc)):lt d1[i]! d1[a]! = false);refine AW.exit ?_;refine⟨(),bD.of_map (by rw[<-hi3,Go.Sort.scanUp,By (by simp[hlt])];rfl),ah.refl _,trivial⟩
  ·have h:¬i<=(b-1):=by simp at h;omega
   refine aj ?_;refine AW.cond Z (λh=>(by cases h)) (λ_=>?_);refine AW.exit ?_;refine⟨(),bD.of_map (by rw[<-hi3,Go.Sort.scanUp,By (by simp[h])];rfl),ah.refl _,trivial⟩
 rw[hi1];have hv1:=hBl4.mono hF1;refine AW.seq ?_;refine AW.EG (S:=Unit) (λ_=>[(13,.int .i64 (Go.Sort.scanDown (λx=>!lt x d1[a]!) d1 i1 (b-1):Nat))]) (λ_=>(Bl4::own)) (λ_ _=>True) ?_ (λ_ F2 hF2 _=>?_)
 ·refine AW.block ?_;refine AW.cK (S:=Nat) (λj=>[(13,.int .i64 (j:Nat))]) (λ_=>(Bl4::own)) (λj _=>j<=(b-1)/\i1<=j+1/\Go.Sort.scanDown (λx=>!lt x d1[a]!) d1 i1 j=Go.Sort.scanDown (λx=>!lt x d1[a]!) d1 i1 (b-1)) (λj=>j) (b-1) sM oR ⟨AS _,by omega,rfl⟩ ?_;intro j G hG hP;obtain⟨hj1,hj2,hj3⟩:=hP;have hvG:=hv1.mono hG;have one:∀q,i1<=j->(λx=>!lt x d1[a]!) d1[j]! = q->Go.Sort.scanDown (λx=>!lt x d1[a]!) d1 i1 j=if q=true then Go.Sort.scanDown (λx=>!lt x d1[a]!) d1 i1 (j-1) else j:=by
   intro q h1 h2;cases j with
   | zero=>omega
   | succ k=>
    rw[Go.Sort.scanDown,SY];subst h2;simp[h1]
  refine aj ?_;refine WT.split 53 Z (λh=>?_) (λh=>?_)
  ·have h:i1<=j:=by simp at h;omega
   refine aj ?_;refine WT.be hT hvG Z Z Z Z Z Z Z Z Z zo (λbl1 hbl1=>?_);refine WT.cz hT 0 hvG hbl1 (aW zo) Z Z Z Z Z Z Z Z Z (λl1 hl1=>?_);refine aj ?_;refine WT.be hT hvG Z Z Z Z Z Z Z Z Z zo (λbl2 hbl2=>?_);refine WT.cz hT 0 hvG hbl2 (aW zo) Z Z Z Z Z Z Z Z Z (λl2 hl2=>?_);refine WT.fZ hg hgb Z Z Z Z Z Z Z (hcmp G (hF1.trans hG) l1 l2 _ _ hl1 hl2) (λv hvz=>?_);obtain⟨z,rfl,hz⟩:=hvz;refine aj ?_;refine AW.cond Z (λhc=>?_) (λhc=>?_)
   ·have hlt:=(Sn.2 (λhh=>absurd (hz.2 hh) (by simpa using hc)):lt d1[j]! d1[a]! = false);refine aj ?_;refine AW.block ?_;refine aj ?_;refine⟨j-1,by omega,sM,ah.refl _,by omega,by omega,?_⟩;rw[<-hj3,one true h (by simp[hlt]),If rfl]
   ·have hlt:=hz.1 (by simpa using hc);refine AW.exit ?_;refine⟨(),bD.of_map (by rw[<-hj3,one false h (by simp[hlt]),By (by decide)];rfl),ah.refl _,trivial⟩
  ·have h:¬i1<=j:=by simp at h;omega
   refine aj ?_;refine AW.cond Z (λh=>(by cases h)) (λ_=>?_);refine AW.exit ?_;have e:Go.Sort.scanDown (λx=>!lt x d1[a]!) d1 i1 j=j:=by
    cases j with
    | zero=>rfl
    | succ k=>rw[Go.Sort.scanDown,By (by simp;omega)]
   refine⟨(),bD.of_map (by rw[<-hj3,e];rfl),ah.refl _,trivial⟩
 rw[hj1];have hv2:=hv1.mono hF2;refine aj ?_;have hpart:Go.Sort.partition lt d a b pivot=if i1 > j1 then (j1,true,Go.Sort.swp d1 j1 a) else
   ((Go.Sort.partLoop lt a (i1+1) (j1-1) (Go.Sort.swp d1 i1 j1)).1,false,Go.Sort.swp (Go.Sort.partLoop lt a (i1+1) (j1-1) (Go.Sort.swp d1 i1 j1)).2 (Go.Sort.partLoop lt a (i1+1) (j1-1) (Go.Sort.swp d1 i1 j1)).1 a):=by
  simp only[Go.Sort.partition,hd1,hi1,hj1]
 refine AW.cond Z (λh=>?_) (λh=>?_)
 ·have h:j1<i1:=by simp at h;omega
  refine aj ?_;refine WT.be hT hv2 Z Z Z Z Z Z Z Z Z zo (λbl1 hbl1=>?_);refine WT.cz hT 0 hv2 hbl1 (aW zo) Z Z Z Z Z Z Z Z Z (λl1 hl1=>?_);refine aj ?_;refine WT.be hT hv2 Z Z Z Z Z Z Z Z Z zo (λbl2 hbl2=>?_);refine WT.cz hT 0 hv2 hbl2 (aW zo) Z Z Z Z Z Z Z Z Z (λl2 hl2=>?_);refine WT.be hT hv2 Z Z Z Z Z Z Z Z Z zo (λbl3 hbl3=>?_);refine WT.oY (y:=d1[a]!) hT 0 hv2 hbl3 (gE (by simp;omega)) Z Z Z Z Z hl1 Z (λ_=>rfl) Z (λBl3 hBl3=>?_);refine WT.be hT hBl3 Z Z Z Z Z Z Z Z Z zo (λbl4 hbl4=>?_)
  refine WT.oY (y:=d1[j1]!) hT 0 hBl3 hbl4 (gE (by simp;omega)) Z Z Z Z Z hl2 Z (λ_=>rfl) Z (λBl4 hBl4=>?_);rw[<-dS] at hBl4;refine aj ?_;refine AW.ret ⟨_,[_],⟨_,_,rfl,⟨_,_,rfl,rfl,rfl⟩,rfl⟩,bU,_,rfl,?_,?_⟩
  ·rw[hpart,If h];rfl
  ·rw[hpart,If h];exact hBl4
 ·have h:¬j1<i1:=by simp at h;omega
  have hlt1:i1<j1:=by
   rcases Rw i1 j1 with h1 | h1
   ·exact h1
   ·obtain rfl:i1=j1:=by omega
    have e1:=u4 zo;have e2:=v4 (AS _) zo;rw[e1] at e2;cases e2
  rw[By h] at hpart;refine aj ?_;refine WT.be hT hv2 Z Z Z Z Z Z Z Z Z zo (λbl1 hbl1=>?_);refine WT.cz hT 0 hv2 hbl1 (aW zo) Z Z Z Z Z Z Z Z Z (λl1 hl1=>?_);refine aj ?_;refine WT.be hT hv2 Z Z Z Z Z Z Z Z Z zo (λbl2 hbl2=>?_);refine WT.cz hT 0 hv2 hbl2 (aW zo) Z Z Z Z Z Z Z Z Z (λl2 hl2=>?_);refine WT.be hT hv2 Z Z Z Z Z Z Z Z Z zo (λbl3 hbl3=>?_);refine WT.oY (y:=d1[j1]!) hT 0 hv2 hbl3 (gE (by simp;omega)) Z Z Z Z Z hl1 Z (λ_=>rfl) Z (λBl3 hBl3=>?_);refine WT.be hT hBl3 Z Z Z Z Z Z Z Z Z zo (λbl4 hbl4=>?_)
  refine WT.oY (y:=d1[i1]!) hT 0 hBl3 hbl4 (gE (by simp;omega)) Z Z Z Z Z hl2 Z (λ_=>rfl) Z (λBl4 hBl4=>?_);rw[<-dS] at hBl4;refine aj ?_;refine AW.EG (S:=Nat×VS Lr) (λs=>[(12,.int .i64 (s.1:Nat)),(13,.int .i64 (s.2.i:Nat))]) (λs=>s.2.B::own) (λs G=>dC dM G a0 m c s.2.B s.2.d.toList/\a<=s.2.i/\s.2.i<b/\(s.2.i,s.2.d)=Go.Sort.partLoop lt a (i1+1) (j1-1) (Go.Sort.swp d1 i1 j1)) ?_ (λs F3 hF3 hP=>?_)
  ·refine AW.block ?_;refine AW.cK (S:=Nat×VS Lr) (λs=>[(12,.int .i64 (s.1:Nat)),(13,.int .i64 (s.2.i:Nat))]) (λs=>s.2.B::own) (λs G=>dC dM G a0 m c s.2.B s.2.d.toList/\a<s.1/\s.1<=s.2.i+1/\s.2.i<b/\Go.Sort.partLoop lt a s.1 s.2.i s.2.d=Go.Sort.partLoop lt a (i1+1) (j1-1) (Go.Sort.swp d1 i1 j1)) (λs=>s.2.i+1-s.1) (i1+1,⟨j1-1,Go.Sort.swp d1 i1 j1,Bl4⟩)
    sM oR ⟨hBl4,by dsimp only;omega,by dsimp only;omega,by dsimp only;omega,rfl⟩ ?_
   intro u F4 hF4 hP4;obtain⟨hv4,ha4,hij4,hb4,heq4⟩:=hP4;have hF4':=(hF1.trans hF2).trans hF4;have hsz4:m=u.2.d.size:=hv4.len;obtain⟨i2,hi2⟩:∃i2,Go.Sort.scanUp (λx=>lt x u.2.d[a]!) u.2.d u.2.i u.1=i2:=⟨_,rfl⟩;obtain⟨j2,hj2⟩:∃j2,Go.Sort.scanDown (λx=>!lt x u.2.d[a]!) u.2.d i2 u.2.i=j2:=⟨_,rfl⟩;obtain⟨w1,w2,w3,w4⟩:=Go.Sort.scanUp_spec (λx=>lt x u.2.d[a]!) u.2.d u.2.i _ u.1 rfl;obtain⟨x1,x2,x3,x4⟩:=Go.Sort.scanDown_spec (λx=>!lt x u.2.d[a]!) u.2.d i2 u.2.i;rw[hi2] at w1 w2 w4;rw[hj2] at x1 x2 x4;have w2:=w2 hij4;have x2:=x2 zo;have hloop:=Go.Sort.partLoop_eq lt a u.1 u.2.i u.2.d
   rw[hi2,hj2,heq4] at hloop;refine AW.block ?_;refine AW.seq ?_;refine AW.EG (S:=Unit) (λ_=>[(12,.int .i64 (Go.Sort.scanUp (λx=>lt x u.2.d[a]!) u.2.d u.2.i u.1:Nat))]) (λ_=>(u.2.B::own)) (λ_ _=>True) ?_ (λ_ F5 hF5 _=>?_)
   ·refine AW.block ?_;refine AW.cK (S:=Nat) (λi=>[(12,.int .i64 (i:Nat))]) (λ_=>(u.2.B::own)) (λi _=>u.1<=i/\i<=u.2.i+1/\Go.Sort.scanUp (λx=>lt x u.2.d[a]!) u.2.d u.2.i i=Go.Sort.scanUp (λx=>lt x u.2.d[a]!) u.2.d u.2.i u.1) (λi=>u.2.i+1-i) u.1 sM oR ⟨AS _,by omega,rfl⟩ ?_;intro i G hG hP;obtain⟨hi1,hi2,hi3⟩:=hP;have hvG:=hv4.mono hG;refine aj ?_;refine WT.split 108 Z (λh=>?_) (λh=>?_)
    ·have h:i<=u.2.i:=by simp at h;omega
     refine aj ?_;refine WT.be hT hvG Z Z Z Z Z Z Z Z Z zo (λbl1 hbl1=>?_);refine WT.cz hT 0 hvG hbl1 (aW zo) Z Z Z Z Z Z Z Z Z (λl1 hl1=>?_);refine aj ?_;refine WT.be hT hvG Z Z Z Z Z Z Z Z Z zo (λbl2 hbl2=>?_);refine WT.cz hT 0 hvG hbl2 (aW zo) Z Z Z Z Z Z Z Z Z (λl2 hl2=>?_);refine WT.fZ hg hgb Z Z Z Z Z Z Z (hcmp G (hF4'.trans hG) l1 l2 _ _ hl1 hl2) (λv hvz=>?_);obtain⟨z,rfl,hz⟩:=hvz;refine aj ?_;refine AW.cond Z (λhc=>?_) (λhc=>?_)
     ·have hlt:=hz.1 (by simpa using hc);refine aj ?_;refine AW.block ?_;refine aj ?_;refine⟨i+1,by omega,sM,ah.refl _,by omega,by omega,?_⟩;rw[<-hi3]
      conv=>rhs;rw[Go.Sort.scanUp]
      rw[If (by simp[h,hlt])]
     ·have hlt:=(Sn.2 (λhh=>absurd (hz.2 hh) (by simpa using hc)):lt u.2.d[i]! u.2.d[a]! = false);refine AW.exit ?_;refine⟨(),bD.of_map (by rw[<-hi3,Go.Sort.scanUp,By (by simp[hlt])];rfl),ah.refl _,trivial⟩
    ·have h:¬i<=u.2.i:=by simp at h;omega
     refine aj ?_;refine AW.cond Z (λh=>(by cases h)) (λ_=>?_);refine AW.exit ?_;refine⟨(),bD.of_map (by rw[<-hi3,Go.Sort.scanUp,By (by simp[h])];rfl),ah.refl _,trivial⟩
   rw[hi2];have hv5:=hv4.mono hF5;have hF5':=hF4'.trans hF5;refine AW.seq ?_;refine AW.EG (S:=Unit) (λ_=>[(13,.int .i64 (Go.Sort.scanDown (λx=>!lt x u.2.d[a]!) u.2.d i2 u.2.i:Nat))]) (λ_=>(u.2.B::own)) (λ_ _=>True) ?_ (λ_ F6 hF6 _=>?_)
   ·refine AW.block ?_;refine AW.cK (S:=Nat) (λj=>[(13,.int .i64 (j:Nat))]) (λ_=>(u.2.B::own)) (λj _=>j<=u.2.i/\i2<=j+1/\Go.Sort.scanDown (λx=>!lt x u.2.d[a]!) u.2.d i2 j=Go.Sort.scanDown (λx=>!lt x u.2.d[a]!) u.2.d i2 u.2.i) (λj=>j) u.2.i sM oR ⟨AS _,by omega,rfl⟩ ?_;intro j G hG hP;obtain⟨hj1,hj2,hj3⟩:=hP;have hvG:=hv5.mono hG;have one:∀q,i2<=j->(λx=>!lt x u.2.d[a]!) u.2.d[j]! = q->Go.Sort.scanDown (λx=>!lt x u.2.d[a]!) u.2.d i2 j=if q=true then Go.Sort.scanDown (λx=>!lt x u.2.d[a]!) u.2.d i2 (j-1) else j:=by
     intro q h1 h2;cases j with
     | zero=>omega
     | succ k=>
      rw[Go.Sort.scanDown,SY];subst h2;simp[h1]
    refine aj ?_;refine WT.split 126 Z (λh=>?_) (λh=>?_)
    ·have h:i2<=j:=by simp at h;omega
     refine aj ?_;refine WT.be hT hvG Z Z Z Z Z Z Z Z Z zo (λbl1 hbl1=>?_);refine WT.cz hT 0 hvG hbl1 (aW zo) Z Z Z Z Z Z Z Z Z (λl1 hl1=>?_);refine aj ?_;refine WT.be hT hvG Z Z Z Z Z Z Z Z Z zo (λbl2 hbl2=>?_);refine WT.cz hT 0 hvG hbl2 (aW zo) Z Z Z Z Z Z Z Z Z (λl2 hl2=>?_);refine WT.fZ hg hgb Z Z Z Z Z Z Z (hcmp G (hF5'.trans hG) l1 l2 _ _ hl1 hl2) (λv hvz=>?_);obtain⟨z,rfl,hz⟩:=hvz;refine aj ?_;refine AW.cond Z (λhc=>?_) (λhc=>?_)
     ·have hlt:=(Sn.2 (λhh=>absurd (hz.2 hh) (by simpa using hc)):lt u.2.d[j]! u.2.d[a]! = false);refine aj ?_;refine AW.block ?_;refine aj ?_;refine⟨j-1,by omega,sM,ah.refl _,by omega,by omega,?_⟩;rw[<-hj3,one true h (by simp[hlt]),If rfl]
     ·have hlt:=hz.1 (by simpa using hc);refine AW.exit ?_;refine⟨(),bD.of_map (by rw[<-hj3,one false h (by simp[hlt]),By (by decide)];rfl),ah.refl _,trivial⟩
    ·have h:¬i2<=j:=by simp at h;omega
     refine aj ?_;refine AW.cond Z (λh=>(by cases h)) (λ_=>?_);refine AW.exit ?_;have e:Go.Sort.scanDown (λx=>!lt x u.2.d[a]!) u.2.d i2 j=j:=by
      cases j with
      | zero=>rfl
      | succ k=>rw[Go.Sort.scanDown,By (by simp;omega)]
     refine⟨(),bD.of_map (by rw[<-hj3,e];rfl),ah.refl _,trivial⟩
   rw[hj2];have hv6:=hv5.mono hF6;refine aj ?_;refine AW.cond Z (λh=>?_) (λh=>?_)
   ·have h:j2<i2:=by simp at h;omega
    refine AW.exit ?_;refine⟨(i2,⟨j2,u.2.d,u.2.B⟩),sM,ah.refl _,hv6,by dsimp only;omega,by dsimp only;omega,?_⟩;rw[hloop,If h]
   ·have h:¬j2<i2:=by simp at h;omega
    have hlt2:i2<j2:=by
     rcases Rw i2 j2 with h1 | h1
     ·exact h1
     ·obtain rfl:i2=j2:=by omega
      have e1:=w4 zo;have e2:=x4 (AS _) zo;rw[e1] at e2;cases e2
    exact Ov
  ·obtain⟨hv3,ha3,hb3,heq3⟩:=hP;have hsz3:m=s.2.d.size:=hv3.len;rw[<-heq3] at hpart;refine aj ?_;refine WT.be hT hv3 Z Z Z Z Z Z Z Z Z zo (λbl5 hbl5=>?_);refine WT.cz hT 0 hv3 hbl5 (aW zo) Z Z Z Z Z Z Z Z Z (λl5 hl5=>?_);refine aj ?_;refine WT.be hT hv3 Z Z Z Z Z Z Z Z Z zo (λbl6 hbl6=>?_);refine WT.cz hT 0 hv3 hbl6 (aW zo) Z Z Z Z Z Z Z Z Z (λl6 hl6=>?_);refine WT.be hT hv3 Z Z Z Z Z Z Z Z Z zo (λbl7 hbl7=>?_);refine WT.oY (y:=s.2.d[a]!) hT 0 hv3 hbl7 (gE (by simp;omega)) Z Z Z Z Z hl5 Z (λ_=>rfl) Z (λBl7 hBl7=>?_)
   refine WT.be hT hBl7 Z Z Z Z Z Z Z Z Z zo (λbl8 hbl8=>?_);refine WT.oY (y:=s.2.d[s.2.i]!) hT 0 hBl7 hbl8 (gE (by simp;omega)) Z Z Z Z Z hl6 Z (λ_=>rfl) Z (λBl8 hBl8=>?_);rw[<-dS] at hBl8;refine aj ?_;refine AW.ret ⟨_,[_],⟨_,_,rfl,⟨_,_,rfl,rfl,rfl⟩,rfl⟩,bU,_,rfl,?_,?_⟩
   ·rw[hpart];rfl
   ·rw[hpart];exact hBl8
theorem xb(F:ar){lt:Lr->Lr->Bool}{g:Nat}{first capt:List Value}(hc:jy dM lt F g first capt){a0:Option Addr}{m c:Nat}{B:List (Nat×aD)}{d:Array Lr}(hv:dC dM F a0 m c B d.toList)(a b pivot:Nat)(hp1:a<=pivot)(hp2:pivot<b)(hb:b<=m)(hm:m<=1000000) :
  Abs.Spec CC 252 [.slice a0 m c,.int .i64 a,.int .i64 b,.int .i64 pivot,.func (.func g) ⟨first⟩ ⟨capt⟩] F [B] λF' v o=>∃B',o=[B']/\v=.int .i64 ((Go.Sort.partitionEqual lt d a b pivot).1:Nat)/\dC dM F' a0 m c B' (Go.Sort.partitionEqual lt d a b pivot).2.toList:=by
 obtain⟨⟨fn,hg,hgb⟩,hcmp⟩:=hc;have hsz:m=d.size:=hv.len;refine Abs.Spec.fn (n:=90) Tryz.func252 rfl rfl λown=>?_;refine aj ?_;refine WT.be hT hv Z Z Z Z Z Z Z Z Z zo (λbl1 hbl1=>?_);refine WT.cz hT 0 hv hbl1 (aW zo) Z Z Z Z Z Z Z Z Z (λl1 hl1=>?_);refine aj ?_;refine WT.be hT hv Z Z Z Z Z Z Z Z Z zo (λbl2 hbl2=>?_);refine WT.cz hT 0 hv hbl2 (aW zo) Z Z Z Z Z Z Z Z Z (λl2 hl2=>?_);refine WT.be hT hv Z Z Z Z Z Z Z Z Z zo (λbl3 hbl3=>?_);refine WT.oY (y:=d[pivot]!) hT 0 hv hbl3 (gE (by simp;omega)) Z Z Z Z Z hl1 Z (λ_=>rfl) Z (λBl3 hBl3=>?_)
 refine WT.be hT hBl3 Z Z Z Z Z Z Z Z Z zo (λbl4 hbl4=>?_);refine WT.oY (y:=d[a]!) hT 0 hBl3 hbl4 (gE (by simp;omega)) Z Z Z Z Z hl2 Z (λ_=>rfl) Z (λBl4 hBl4=>?_);rw[<-dS] at hBl4;obtain⟨d1,hd1⟩:∃d1,Go.Sort.swp d a pivot=d1:=⟨_,rfl⟩;rw[hd1] at hBl4;have hpart:Go.Sort.partitionEqual lt d a b pivot=Go.Sort.partEqLoop lt a (a+1) (b-1) d1:=by rw[Go.Sort.partitionEqual,hd1]
 refine aj ?_;refine AW.EG (S:=Nat×VS Lr) (λs=>[(11,.int .i64 (s.1:Nat)),(12,.int .i64 (s.2.i:Nat))]) (λs=>s.2.B::own) (λs G=>dC dM G a0 m c s.2.B s.2.d.toList/\(s.1,s.2.d)=Go.Sort.partEqLoop lt a (a+1) (b-1) d1) ?_ (λs F3 hF3 hP=>?_)
 ·refine AW.block ?_;refine AW.cK (S:=Nat×VS Lr) (λs=>[(11,.int .i64 (s.1:Nat)),(12,.int .i64 (s.2.i:Nat))]) (λs=>s.2.B::own) (λs G=>dC dM G a0 m c s.2.B s.2.d.toList/\a<s.1/\s.1<=s.2.i+1/\s.2.i<b/\Go.Sort.partEqLoop lt a s.1 s.2.i s.2.d=Go.Sort.partEqLoop lt a (a+1) (b-1) d1) (λs=>s.2.i+1-s.1) (a+1,⟨b-1,d1,Bl4⟩)
   sM oR ⟨hBl4,by dsimp only;omega,by dsimp only;omega,by dsimp only;omega,rfl⟩ ?_
  intro u F4 hF4 hP4;obtain⟨hv4,ha4,hij4,hb4,heq4⟩:=hP4;have hsz4:m=u.2.d.size:=hv4.len;obtain⟨i2,hi2⟩:∃i2,Go.Sort.scanUp (λx=>!lt u.2.d[a]! x) u.2.d u.2.i u.1=i2:=⟨_,rfl⟩;obtain⟨j2,hj2⟩:∃j2,Go.Sort.scanDown (λx=>lt u.2.d[a]! x) u.2.d i2 u.2.i=j2:=⟨_,rfl⟩;obtain⟨w1,w2,w3,w4⟩:=Go.Sort.scanUp_spec (λx=>!lt u.2.d[a]! x) u.2.d u.2.i _ u.1 rfl;obtain⟨x1,x2,x3,x4⟩:=Go.Sort.scanDown_spec (λx=>lt u.2.d[a]! x) u.2.d i2 u.2.i;rw[hi2] at w1 w2 w4;rw[hj2] at x1 x2 x4;have w2:=w2 hij4;have x2:=x2 zo;have hloop:=Go.Sort.partEqLoop_eq lt a u.1 u.2.i u.2.d;rw[hi2,hj2,heq4] at hloop
  refine AW.block ?_;refine AW.seq ?_;refine AW.EG (S:=Unit) (λ_=>[(11,.int .i64 (Go.Sort.scanUp (λx=>!lt u.2.d[a]! x) u.2.d u.2.i u.1:Nat))]) (λ_=>(u.2.B::own)) (λ_ _=>True) ?_ (λ_ F5 hF5 _=>?_)
  ·refine AW.block ?_;refine AW.cK (S:=Nat) (λi=>[(11,.int .i64 (i:Nat))]) (λ_=>(u.2.B::own)) (λi _=>u.1<=i/\i<=u.2.i+1/\Go.Sort.scanUp (λx=>!lt u.2.d[a]! x) u.2.d u.2.i i=Go.Sort.scanUp (λx=>!lt u.2.d[a]! x) u.2.d u.2.i u.1) (λi=>u.2.i+1-i) u.1 sM oR ⟨AS _,by omega,rfl⟩ ?_;intro i G hG hP;obtain⟨hi1,hi2,hi3⟩:=hP;have hvG:=hv4.mono hG;refine aj ?_;refine WT.split 34 Z (λh=>?_) (λh=>?_)
   ·have h:i<=u.2.i:=by simp at h;omega
    refine aj ?_;refine WT.be hT hvG Z Z Z Z Z Z Z Z Z zo (λbl1 hbl1=>?_);refine WT.cz hT 0 hvG hbl1 (aW zo) Z Z Z Z Z Z Z Z Z (λl1 hl1=>?_);refine aj ?_;refine WT.be hT hvG Z Z Z Z Z Z Z Z Z zo (λbl2 hbl2=>?_);refine WT.cz hT 0 hvG hbl2 (aW zo) Z Z Z Z Z Z Z Z Z (λl2 hl2=>?_);refine WT.fZ hg hgb Z Z Z Z Z Z Z (hcmp G (hF4.trans hG) l1 l2 _ _ hl1 hl2) (λv hvz=>?_);obtain⟨z,rfl,hz⟩:=hvz;refine aj ?_;refine AW.cond Z (λhc=>?_) (λhc=>?_)
    ·have hlt:=(Sn.2 (λhh=>absurd (hz.2 hh) (by simpa using hc)):lt u.2.d[a]! u.2.d[i]! = false);refine aj ?_;refine AW.block ?_;refine aj ?_;refine⟨i+1,by omega,sM,ah.refl _,by omega,by omega,?_⟩;rw[<-hi3]
     conv=>rhs;rw[Go.Sort.scanUp]
     rw[If (by simp[h,hlt])]
    ·have hlt:=hz.1 (by simpa using hc);refine AW.exit ?_;refine⟨(),bD.of_map (by rw[<-hi3,Go.Sort.scanUp,By (by simp[hlt])];rfl),ah.refl _,trivial⟩
   ·have h:¬i<=u.2.i:=by simp at h;omega
    refine aj ?_;refine AW.cond Z (λh=>(by cases h)) (λ_=>?_);refine AW.exit ?_;refine⟨(),bD.of_map (by rw[<-hi3,Go.Sort.scanUp,By (by simp[h])];rfl),ah.refl _,trivial⟩
  rw[hi2];have hv5:=hv4.mono hF5;have hF5':=hF4.trans hF5;refine AW.seq ?_;refine AW.EG (S:=Unit) (λ_=>[(12,.int .i64 (Go.Sort.scanDown (λx=>lt u.2.d[a]! x) u.2.d i2 u.2.i:Nat))]) (λ_=>(u.2.B::own)) (λ_ _=>True) ?_ (λ_ F6 hF6 _=>?_)
  ·refine AW.block ?_;refine AW.cK (S:=Nat) (λj=>[(12,.int .i64 (j:Nat))]) (λ_=>(u.2.B::own)) (λj _=>j<=u.2.i/\i2<=j+1/\Go.Sort.scanDown (λx=>lt u.2.d[a]! x) u.2.d i2 j=Go.Sort.scanDown (λx=>lt u.2.d[a]! x) u.2.d i2 u.2.i) (λj=>j) u.2.i sM oR ⟨AS _,by omega,rfl⟩ ?_;intro j G hG hP;obtain⟨hj1,hj2,hj3⟩:=hP;have hvG:=hv5.mono hG;have one:∀q,i2<=j->(λx=>lt u.2.d[a]! x) u.2.d[j]! = q->Go.Sort.scanDown (λx=>lt u.2.d[a]! x) u.2.d i2 j=if q=true then Go.Sort.scanDown (λx=>lt u.2.d[a]! x) u.2.d i2 (j-1) else j:=by
    intro q h1 h2;cases j with
    | zero=>omega
    | succ k=>
     rw[Go.Sort.scanDown,SY];subst h2;simp[h1]
   refine aj ?_;refine WT.split 53 Z (λh=>?_) (λh=>?_)
   ·have h:i2<=j:=by simp at h;omega
    refine aj ?_;refine WT.be hT hvG Z Z Z Z Z Z Z Z Z zo (λbl1 hbl1=>?_);refine WT.cz hT 0 hvG hbl1 (aW zo) Z Z Z Z Z Z Z Z Z (λl1 hl1=>?_);refine aj ?_;refine WT.be hT hvG Z Z Z Z Z Z Z Z Z zo (λbl2 hbl2=>?_);refine WT.cz hT 0 hvG hbl2 (aW zo) Z Z Z Z Z Z Z Z Z (λl2 hl2=>?_);refine WT.fZ hg hgb Z Z Z Z Z Z Z (hcmp G (hF5'.trans hG) l1 l2 _ _ hl1 hl2) (λv hvz=>?_);obtain⟨z,rfl,hz⟩:=hvz;refine aj ?_;refine AW.cond Z (λhc=>?_) (λhc=>?_)
    ·have hlt:=hz.1 (by simpa using hc);refine aj ?_;refine AW.block ?_;refine aj ?_;refine⟨j-1,by omega,sM,ah.refl _,by omega,by omega,?_⟩;rw[<-hj3,one true h (by simp[hlt]),If rfl]
    ·have hlt:=(Sn.2 (λhh=>absurd (hz.2 hh) (by simpa using hc)):lt u.2.d[a]! u.2.d[j]! = false);refine AW.exit ?_;refine⟨(),bD.of_map (by rw[<-hj3,one false h (by simp[hlt]),By (by decide)];rfl),ah.refl _,trivial⟩
   ·have h:¬i2<=j:=by simp at h;omega
    refine aj ?_;refine AW.cond Z (λh=>(by cases h)) (λ_=>?_);refine AW.exit ?_;have e:Go.Sort.scanDown (λx=>lt u.2.d[a]! x) u.2.d i2 j=j:=by
     cases j with
     | zero=>rfl
     | succ k=>rw[Go.Sort.scanDown,By (by simp;omega)]
    refine⟨(),bD.of_map (by rw[<-hj3,e];rfl),ah.refl _,trivial⟩
  rw[hj2];have hv6:=hv5.mono hF6;refine aj ?_;refine AW.cond Z (λh=>?_) (λh=>?_)
  ·have h:j2<i2:=by simp at h;omega
   refine AW.exit ?_;refine⟨(i2,⟨j2,u.2.d,u.2.B⟩),sM,ah.refl _,hv6,?_⟩;rw[hloop,If h]
  ·have h:¬j2<i2:=by simp at h;omega
   have hlt2:i2<j2:=by
    rcases Rw i2 j2 with h1 | h1
    ·exact h1
    ·obtain rfl:i2=j2:=by omega
     have e1:=w4 zo;have e2:=x4 (AS _) zo;rw[e2] at e1;cases e1
   exact Ov
 ·obtain⟨hv3,heq3⟩:=hP;refine aj ?_;refine AW.ret ⟨_,[_],⟨_,_,rfl,rfl,rfl⟩,bU,_,rfl,?_,?_⟩
  ·rw[hpart,<-heq3];rfl
  ·rw[hpart,<-heq3];exact hv3
theorem kN(F:ar){lt:Lr->Lr->Bool}{g:Nat}{first capt:List Value}(hc:jy dM lt F g first capt){a0:Option Addr}{m c:Nat}{d:Array Lr}(hv:bw dM F a0 m c d.toList)(a b:Nat)(ha:a<m)(hb:b<m)(hm:m<=1000000){ip sw:Nat}(hsw:sw<=1000) :
  Abs.Spec CC 282 [.slice a0 m c,.int .i64 a,.int .i64 b,.pointer (some ⟨ip,0,none⟩),.func (.func g) ⟨first⟩ ⟨capt⟩] F [[(ip,.cells false [.int .i64 sw])]] λF' v o=>∃B',o=[B']/\v=.tuple ⟨[.int .i64 ((Go.Sort.order2 lt d a b sw).1:Nat),.int .i64 ((Go.Sort.order2 lt d a b sw).2.1:Nat)]⟩/\B'=[(ip,.cells false [.int .i64 ((Go.Sort.order2 lt d a b sw).2.2:Nat)])]:=by
 obtain⟨⟨fn,hg,hgb⟩,hcmp⟩:=hc;have hsz:m=d.size:=hv.len;refine Abs.Spec.fn (n:=32) Tryz.func282 rfl rfl λown=>?_;refine aj ?_;refine WT.bG hT hv Z Z Z Z Z Z Z Z Z (by simp;omega) (λx1 hx1 b1 off1 ro1 cs1 l1 hb1 hp1 hl1=>?_);obtain rfl:x1=d[b]!:=by rw[aW zo] at hx1;exact(AT hx1).symm
 refine WT.LO hT hb1 hp1 Z Z Z Z Z Z Z Z ?_;refine aj ?_;refine WT.bG hT hv Z Z Z Z Z Z Z Z Z (by simp;omega) (λx2 hx2 b2 off2 ro2 cs2 l2 hb2 hp2 hl2=>?_);obtain rfl:x2=d[a]!:=by rw[aW zo] at hx2;exact(AT hx2).symm
 refine WT.LO hT hb2 hp2 Z Z Z Z Z Z Z Z ?_;refine WT.fZ hg hgb Z Z Z Z Z Z Z (hcmp F (ar.le.refl F) l1 l2 _ _ hl1 hl2) (λv hvz=>?_);obtain⟨z,rfl,hz⟩:=hvz;refine aj ?_;refine AW.cond Z (λhc=>?_) (λhc=>?_)
 ·have hlt:=hz.1 (by simpa using hc);have e:Go.Sort.order2 lt d a b sw=(b,a,sw+1):=by rw[Go.Sort.order2,If hlt]
  refine aj ?_;exact AW.ret ⟨_,[_],⟨_,_,rfl,⟨_,_,rfl,rfl,rfl⟩,rfl⟩,bU,_,rfl,(by rw[e];first | done | rfl),(by rw[e];first | done | rfl)⟩
 ·have hlt:lt d[b]! d[a]! = false:=Sn.2 (λhh=>absurd (hz.2 hh) (by simpa using hc));have e:Go.Sort.order2 lt d a b sw=(a,b,sw):=by rw[Go.Sort.order2,By (by rw[hlt];decide)]
  refine aj ?_;exact AW.ret ⟨_,[_],⟨_,_,rfl,⟨_,_,rfl,rfl,rfl⟩,rfl⟩,bU,_,rfl,(by rw[e];first | done | rfl),(by rw[e];first | done | rfl)⟩
theorem pg(F:ar){lt:Lr->Lr->Bool}{g:Nat}{first capt:List Value}(hc:jy dM lt F g first capt){a0:Option Addr}{m c0:Nat}{d:Array Lr}(hv:bw dM F a0 m c0 d.toList)(a b c:Nat)(ha:a<m)(hb:b<m)(hcm:c<m)(hm:m<=1000000){ip sw:Nat}(hsw:sw<=900) :
  Abs.Spec CC 275 [.slice a0 m c0,.int .i64 a,.int .i64 b,.int .i64 c,.pointer (some ⟨ip,0,none⟩),.func (.func g) ⟨first⟩ ⟨capt⟩] F [[(ip,.cells false [.int .i64 sw])]] λF' v o=>∃B',o=[B']/\v=.int .i64 ((Go.Sort.median lt d a b c sw).1:Nat)/\B'=[(ip,.cells false [.int .i64 ((Go.Sort.median lt d a b c sw).2:Nat)])]:=by
 obtain⟨r1,hr1⟩:∃r,Go.Sort.order2 lt d a b sw=r:=⟨_,rfl⟩;obtain⟨r2,hr2⟩:∃r,Go.Sort.order2 lt d r1.2.1 c r1.2.2=r:=⟨_,rfl⟩;obtain⟨r3,hr3⟩:∃r,Go.Sort.order2 lt d r1.1 r2.1 r2.2.2=r:=⟨_,rfl⟩;have hmed:Go.Sort.median lt d a b c sw=(r3.2.1,r3.2.2):=by simp only[Go.Sort.median,hr1,hr2,hr3]
 have m1:=Go.Sort.order2_mem lt d a b sw;have m2:=Go.Sort.order2_mem lt d r1.2.1 c r1.2.2;have n1:=Go.Sort.order2_count lt d a b sw;have n2:=Go.Sort.order2_count lt d r1.2.1 c r1.2.2;rw[hr1] at m1 n1;rw[hr2] at m2 n2;have b1:r1.1<m/\r1.2.1<m:=by omega
 have b2:r2.1<m/\r2.2.1<m:=by omega
 refine Abs.Spec.fn (n:=41) Tryz.func275 rfl rfl λown=>?_;refine aj ?_;refine WT.bW 0 Tryz.func282 Z Z Z Z Z Z Z (λ_=>rfl) (kN _ hc hv a b ha hb hm zo) (λF1 v B1 hF1 hv1=>?_);obtain⟨rfl,rfl⟩:=hv1;rw[hr1];refine aj ?_;refine WT.bW 0 Tryz.func282 Z Z Z Z Z Z Z (λ_=>rfl) (kN _ (hc.mono hF1) (hv.mono hF1) r1.2.1 c b1.2 hcm hm (sw:=r1.2.2) zo) (λF2 v B2 hF2 hv2=>?_);obtain⟨rfl,rfl⟩:=hv2;rw[hr2];refine aj ?_
 refine WT.bW 0 Tryz.func282 Z Z Z Z Z Z Z (λ_=>rfl) (kN _ ((hc.mono hF1).mono hF2) ((hv.mono hF1).mono hF2) r1.1 r2.1 b1.1 b2.1 hm (sw:=r2.2.2) zo) (λF3 v B3 hF3 hv3=>?_);obtain⟨rfl,rfl⟩:=hv3;rw[hr3];refine aj ?_;exact AW.ret ⟨_,[_],⟨_,_,rfl,rfl,rfl⟩,bU,_,rfl,(by rw[hmed];first | done | rfl),(by rw[hmed])⟩
theorem kT(F:ar){lt:Lr->Lr->Bool}{g:Nat}{first capt:List Value}(hc:jy dM lt F g first capt){a0:Option Addr}{m c0:Nat}{d:Array Lr}(hv:bw dM F a0 m c0 d.toList)(a:Nat)(ha:1<=a)(hb:a+1<m)(hm:m<=1000000){ip sw:Nat}(hsw:sw<=900) :
  Abs.Spec CC 274 [.slice a0 m c0,.int .i64 a,.pointer (some ⟨ip,0,none⟩),.func (.func g) ⟨first⟩ ⟨capt⟩] F [[(ip,.cells false [.int .i64 sw])]] λF' v o=>∃B',o=[B']/\v=.int .i64 ((Go.Sort.medianAdjacent lt d a sw).1:Nat)/\B'=[(ip,.cells false [.int .i64 ((Go.Sort.medianAdjacent lt d a sw).2:Nat)])]:=by
 refine Abs.Spec.fn (n:=18) Tryz.func274 rfl rfl λown=>?_;refine aj ?_;refine WT.bW 0 Tryz.func275 Z Z Z Z Z Z Z (λ_=>rfl) (pg _ hc hv (a-1) a (a+1) zo zo zo hm hsw) (λF1 v B1 hF1 hv1=>?_);obtain⟨rfl,rfl⟩:=hv1;refine aj ?_;exact AW.ret ⟨_,[_],⟨_,_,rfl,rfl,rfl⟩,bU,_,rfl,rfl,rfl⟩
theorem zP(F:ar){lt:Lr->Lr->Bool}{g:Nat}{first capt:List Value}(hc:jy dM lt F g first capt){a0:Option Addr}{m c0:Nat}{d:Array Lr}(hv:bw dM F a0 m c0 d.toList)(a b:Nat)(hab:a+13<=b)(hb:b<=m)(hm:m<=1000000) :
  Abs.Spec CC 249 [.slice a0 m c0,.int .i64 a,.int .i64 b,.func (.func g) ⟨first⟩ ⟨capt⟩] F [] λF' v o=>o=[]/\v=.tuple ⟨[.int .i64 ((Go.Sort.choosePivot lt d a b).1:Nat),.int .i64 (Go.Sort.hintCode (Go.Sort.choosePivot lt d a b).2)]⟩:=by
 have hd4:(b-a) / 4*4<=b-a:=Nat.div_mul_le_self _ _;have hd3:3<=(b-a) / 4:=by omega
 obtain⟨e,he⟩:∃e,(b-a) / 4=e:=⟨_,rfl⟩;rw[he] at hd4 hd3;refine Abs.Spec.fn (n:=63) Tryz.func249 rfl rfl λown=>?_;refine aj ?_;refine WT.aI hT Z Z Z Z Z Z (λi11 hi11=>?_);refine aj ?_;refine WT.Du 4 Z Z Z Z Z Z (by decide) zo ?_;refine WT.mulL 1 Z Z Z Z Z Z zo ?_;rw[he];refine aj ?_;refine WT.Du 4 Z Z Z Z Z Z (by decide) zo ?_;refine WT.mulL 2 Z Z Z Z Z Z zo ?_;rw[he];refine aj ?_;refine WT.Du 4 Z Z Z Z Z Z (by decide) zo ?_;refine WT.mulL 3 Z Z Z Z Z Z zo ?_;rw[he];refine aj ?_;refine AW.cond Z (λ_=>?_) (λh=>(by simp at h;omega))
 refine AW.jn (S:=Nat×Nat×Nat×Nat) (λs=>[(12,.int .i64 (s.1:Nat)),(13,.int .i64 (s.2.1:Nat)),(14,.int .i64 (s.2.2.1:Nat))]) (λs=>[(i11,.cells false [.int .i64 (s.2.2.2:Nat)])]::own) (λs _=>s.1<m/\s.2.1<m/\s.2.2.1<m/\s.2.2.2<=9/\Go.Sort.rawPivot lt d a b=Go.Sort.median lt d s.1 s.2.1 s.2.2.1 s.2.2.2) ?_ (λs F5 hF5 hP=>?_)
 ·refine aj ?_;refine AW.cond Z (λh=>?_) (λh=>?_)
  ·have h:50<=b-a:=by simp at h;omega
   have h12:12<=e:=by omega
   obtain⟨r1,hr1⟩:∃r,Go.Sort.medianAdjacent lt d (a+e*1) 0=r:=⟨_,rfl⟩;obtain⟨r2,hr2⟩:∃r,Go.Sort.medianAdjacent lt d (a+e*2) r1.2=r:=⟨_,rfl⟩;obtain⟨r3,hr3⟩:∃r,Go.Sort.medianAdjacent lt d (a+e*3) r2.2=r:=⟨_,rfl⟩;have m1:=Go.Sort.medianAdjacent_mem lt d (a+e*1) 0;have m2:=Go.Sort.medianAdjacent_mem lt d (a+e*2) r1.2;have m3:=Go.Sort.medianAdjacent_mem lt d (a+e*3) r2.2;have n1:=Go.Sort.medianAdjacent_count lt d (a+e*1) 0;have n2:=Go.Sort.medianAdjacent_count lt d (a+e*2) r1.2;have n3:=Go.Sort.medianAdjacent_count lt d (a+e*3) r2.2;rw[hr1] at m1 n1;rw[hr2] at m2 n2;rw[hr3] at m3 n3;refine aj ?_
   refine WT.bW 0 Tryz.func274 Z Z Z Z Z Z Z (λ_=>rfl) (kT _ hc hv (a+e*1) zo zo hm (sw:=0) zo) (λF1 v B1 hF1 hv1=>?_);obtain⟨rfl,rfl⟩:=hv1;rw[hr1];refine aj ?_;refine WT.bW 0 Tryz.func274 Z Z Z Z Z Z Z (λ_=>rfl) (kT _ (hc.mono hF1) (hv.mono hF1) (a+e*2) zo zo hm (sw:=r1.2) zo) (λF2 v B2 hF2 hv2=>?_);obtain⟨rfl,rfl⟩:=hv2;rw[hr2];refine aj ?_;refine WT.bW 0 Tryz.func274 Z Z Z Z Z Z Z (λ_=>rfl) (kT _ ((hc.mono hF1).mono hF2) ((hv.mono hF1).mono hF2) (a+e*3) zo zo hm (sw:=r2.2) zo) (λF3 v B3 hF3 hv3=>?_);obtain⟨rfl,rfl⟩:=hv3;rw[hr3]
   refine aj ?_;refine⟨(r1.1,r2.1,r3.1,r3.2),sM,ah.refl _,by dsimp only;omega,by dsimp only;omega,by dsimp only;omega,by dsimp only;omega,?_⟩;rw[Go.Sort.rawPivot,If zo,If h,he,hr1,hr2,hr3]
  ·have h:¬50<=b-a:=by simp at h;omega
   refine AW.skip ?_;refine⟨(a+e*1,a+e*2,a+e*3,0),sM,ah.refl _,by dsimp only;omega,by dsimp only;omega,by dsimp only;omega,by dsimp only;omega,?_⟩;rw[Go.Sort.rawPivot,If zo,By zo,he]
 ·obtain⟨q1,q2,q3,q4,q5⟩:=hP;obtain⟨r,hr⟩:∃r,Go.Sort.median lt d s.1 s.2.1 s.2.2.1 s.2.2.2=r:=⟨_,rfl⟩;have n1:=Go.Sort.median_count lt d s.1 s.2.1 s.2.2.1 s.2.2.2;rw[hr] at n1 q5;have hch:Go.Sort.choosePivot lt d a b=(r.1,Go.Sort.hintOf r.2):=by rw[Go.Sort.choosePivot_eq,q5]
  refine aj ?_;refine WT.bW 0 Tryz.func275 Z Z Z Z Z Z Z (λ_=>rfl) (pg _ (hc.mono hF5) (hv.mono hF5) s.1 s.2.1 s.2.2.1 q1 q2 q3 hm (sw:=s.2.2.2) zo) (λF6 v B6 hF6 hv6=>?_);obtain⟨rfl,rfl⟩:=hv6;rw[hr];refine aj ?_;refine AW.block ?_;refine aj ?_;refine AW.cond Z (λh=>?_) (λh=>?_)
  ·have h:r.2=0:=by simp at h;omega
   refine aj ?_;refine AW.ret ⟨_,[],⟨_,_,rfl,⟨_,_,rfl,rfl,rfl⟩,rfl⟩,bU,rfl,?_⟩;rw[hch,h];rfl
  ·have h:r.2≠0:=by simp at h;omega
   refine aj ?_;refine AW.cond Z (λh2=>?_) (λh2=>?_)
   ·have h2:r.2=12:=by simp at h2;omega
    refine aj ?_;refine AW.ret ⟨_,[],⟨_,_,rfl,⟨_,_,rfl,rfl,rfl⟩,rfl⟩,bU,rfl,?_⟩;rw[hch,h2];rfl
   ·have h2:r.2≠12:=by simp at h2;omega
    refine aj ?_;refine AW.ret ⟨_,[],⟨_,_,rfl,⟨_,_,rfl,rfl,rfl⟩,rfl⟩,bU,rfl,?_⟩;rw[hch,show Go.Sort.hintOf r.2=.unknown by rw[Go.Sort.hintOf,By h,By h2]];rfl
theorem BJ(F:ar){lt:Lr->Lr->Bool}{g:Nat}{first capt:List Value}(hc:jy dM lt F g first capt){a0:Option Addr}{m c:Nat}{B:List (Nat×aD)}{d:Array Lr}(hv:dC dM F a0 m c B d.toList)(a b:Nat)(hab:a<b)(hb:b<=m)(hm:m<=1000000) :
  Abs.Spec CC 251 [.slice a0 m c,.int .i64 a,.int .i64 b,.func (.func g) ⟨first⟩ ⟨capt⟩] F [B] λF' v o=>∃B',o=[B']/\v=.bool (Go.Sort.partialInsertionSort lt d a b).2/\dC dM F' a0 m c B' (Go.Sort.partialInsertionSort lt d a b).1.toList:=by
 obtain⟨⟨fn,hg,hgb⟩,hcmp⟩:=hc;refine Abs.Spec.fn (n:=141) Tryz.func251 rfl rfl λown=>?_;refine aj ?_;refine AW.block ?_;refine AW.cK (S:=Nat×VS Lr) (λs=>[(10,.int .i64 (s.1:Nat)),(9,.int .i64 (s.2.i:Nat))]) (λs=>s.2.B::own) (λs G=>dC dM G a0 m c s.2.B s.2.d.toList/\s.1<=5/\a+1<=s.2.i/\s.2.i<=b/\Go.Sort.partialIns lt a b (5-s.1) s.2.i s.2.d=Go.Sort.partialInsertionSort lt d a b) (λs=>5-s.1) (0,⟨a+1,d,B⟩)
  sM oR ⟨hv,RC _,AS _,hab,rfl⟩ ?_
 intro u F1 hF1 hP;obtain⟨hv1,hk,hi1,hi2,heq⟩:=hP;refine aj ?_;refine AW.cond Z (λh=>?_) (λh=>?_)
 ·have h:u.1<5:=by simp at h;omega
  obtain⟨i2,hsc⟩:∃i2,Go.Sort.scanSorted lt u.2.d b u.2.i=i2:=⟨_,rfl⟩;rw[show 5-u.1=(5-(u.1+1))+1 by omega,Go.Sort.partialIns_succ,hsc] at heq;refine AW.skip ?_;refine AW.seq ?_;refine AW.block ?_;refine AW.jn (S:=Unit) (λ_=>[(9,.int .i64 (i2:Nat))]) (λ_=>u.2.B::own) (λ_ _=>u.2.i<=i2/\i2<=b) ?_ (λ_ F2 hF2 hi2'=>?_)
  ·refine AW.block ?_;refine AW.cK (S:=Nat) (λi=>[(9,.int .i64 (i:Nat))]) (λ_=>u.2.B::own) (λi _=>u.2.i<=i/\i<=b/\Go.Sort.scanSorted lt u.2.d b i=i2) (λi=>b-i) u.2.i sM oR ⟨AS _,hi2,hsc⟩ ?_;intro i G hG hP;obtain⟨j1,j2,j3⟩:=hP;have hvG:=hv1.mono hG;have hsz:m=u.2.d.size:=hv1.len;refine aj ?_;refine WT.split 22 Z (λh=>?_) (λh=>?_)
   ·have h:i<b:=by simp at h;omega
    refine aj ?_;refine WT.be hT hvG Z Z Z Z Z Z Z Z Z zo (λbl1 hbl1=>?_);refine WT.cz hT 0 hvG hbl1 (aW zo) Z Z Z Z Z Z Z Z Z (λl1 hl1=>?_);refine aj ?_;refine WT.be hT hvG Z Z Z Z Z Z Z Z Z zo (λbl2 hbl2=>?_);refine WT.cz hT 0 hvG hbl2 (aW zo) Z Z Z Z Z Z Z Z Z (λl2 hl2=>?_);refine WT.fZ hg hgb Z Z Z Z Z Z Z (hcmp G (hF1.trans hG) l1 l2 _ _ hl1 hl2) (λv hvz=>?_);obtain⟨z,rfl,hz⟩:=hvz;refine aj ?_;refine AW.cond Z (λhc=>?_) (λhc=>?_)
    ·have hlt:lt u.2.d[i]! u.2.d[i-1]! = false:=Sn.2 (λhh=>absurd (hz.2 hh) (by simpa using hc));refine aj ?_;refine AW.block ?_;refine aj ?_;refine⟨i+1,by omega,sM,ah.refl _,by omega,by omega,?_⟩;rw[<-j3]
     conv=>rhs;rw[Go.Sort.scanSorted]
     rw[If (by simp[h,hlt])]
    ·have hlt:=hz.1 (by simpa using hc);refine AW.exit ?_;have e:i=i2:=by rw[<-j3,Go.Sort.scanSorted,By (by simp[hlt])]
     exact⟨(),bD.of_map (by rw[e];rfl),ah.refl _,by omega,by omega⟩
   ·have h:¬i<b:=by simp at h;omega
    refine aj ?_;refine AW.cond Z (λh=>(by cases h)) (λ_=>?_);refine AW.exit ?_;have e:i=i2:=by rw[<-j3,Go.Sort.scanSorted,By (by simp[h])]
    exact⟨(),bD.of_map (by rw[e];rfl),ah.refl _,by omega,by omega⟩
  ·obtain⟨j1,j2⟩:=hi2';have hv2:=hv1.mono hF2;have hsz:m=u.2.d.size:=hv1.len;have hF2':=hF1.trans hF2;refine aj ?_;refine AW.cond Z (λh=>?_) (λh=>?_)
   ·have h:i2=b:=by simp at h;omega
    refine aj ?_;refine AW.ret ⟨_,[_],⟨_,_,rfl,rfl,rfl⟩,bU,_,rfl,?_,?_⟩
    ·rw[<-heq,If h];rfl
    ·rw[<-heq,If h];exact hv2
   ·have h:i2≠b:=by simp at h;omega
    rw[By h] at heq;refine aj ?_;refine AW.cond Z (λh5=>?_) (λh5=>?_)
    ·have h5:b-a<50:=by simp at h5;omega
     refine aj ?_;refine AW.ret ⟨_,[_],⟨_,_,rfl,rfl,rfl⟩,bU,_,rfl,?_,?_⟩
     ·rw[<-heq,If h5];rfl
     ·rw[<-heq,If h5];exact hv2
    ·have h5:¬b-a<50:=by simp at h5;omega
     rw[By h5] at heq;refine aj ?_;refine AW.draw (ps:=[(4,15)]) Z Z ?_;refine aj ?_;refine WT.be hT hv2 Z Z Z Z Z Z Z Z Z zo (λbl3 hbl3=>?_);refine WT.cz hT 0 hv2 hbl3 (aW zo) Z Z Z Z Z Z Z Z Z (λl3 hl3=>?_);refine aj ?_;refine WT.be hT hv2 Z Z Z Z Z Z Z Z Z zo (λbl4 hbl4=>?_);refine WT.cz hT 0 hv2 hbl4 (aW zo) Z Z Z Z Z Z Z Z Z (λl4 hl4=>?_);refine WT.be hT hv2 Z Z Z Z Z Z Z Z Z zo (λbl5 hbl5=>?_);refine WT.oY (y:=u.2.d[i2-1]!) hT 0 hv2 hbl5 (gE (by simp;omega)) Z Z Z Z Z hl3 Z (λ_=>rfl) Z (λBl5 hBl5=>?_)
     refine WT.be hT hBl5 Z Z Z Z Z Z Z Z Z zo (λbl6 hbl6=>?_);refine WT.oY (y:=u.2.d[i2]!) hT 0 hBl5 hbl6 (gE (by simp;omega)) Z Z Z Z Z hl4 Z (λ_=>rfl) Z (λBl6 hBl6=>?_);rw[<-dS] at hBl6;obtain⟨d1,hd1⟩:∃d1,Go.Sort.swp u.2.d i2 (i2-1)=d1:=⟨_,rfl⟩;rw[hd1] at heq hBl6;refine aj ?_;refine⟨oF,?_⟩;refine AW.jn (S:=VS Lr) (λ_=>[]) (λs=>s.B::own) (λs G=>dC dM G a0 m c s.B s.d.toList/\s.d=Go.Sort.fixDown lt a i2 d1) ?_ (λs F3 hF3 hP3=>?_)
     ·refine aj ?_;refine AW.cond Z (λh2=>?_) (λh2=>?_)
      ·have h2:2<=i2-a:=by simp at h2;omega
       rw[Go.Sort.fixDown,If h2];refine aj ?_;refine AW.block ?_;refine AW.cK (S:=VS Lr) (λs=>[(11,.int .i64 (s.i:Nat))]) (λs=>s.B::own) (λs G=>dC dM G a0 m c s.B s.d.toList/\s.i<m/\Go.Sort.shiftDown lt s.i s.d=Go.Sort.shiftDown lt (i2-1) d1) (λs=>s.i) ⟨i2-1,d1,Bl6⟩ sM oR ⟨hBl6,by dsimp only;omega,rfl⟩ ?_;intro w G hG hP4;obtain⟨hw,hwi,hwe⟩:=hP4;have hszw:m=w.d.size:=hw.len;refine aj ?_;refine AW.cond Z (λh3=>?_) (λh3=>?_)
       ·have h3:1<=w.i:=by simp at h3;omega
        have one:Go.Sort.shiftDown lt w.i w.d=if lt w.d[w.i]! w.d[w.i-1]! = true then Go.Sort.shiftDown lt (w.i-1) (Go.Sort.swp w.d w.i (w.i-1)) else w.d:=by
         cases hi:w.i with
         | zero=>omega
         | succ k=>
          rw[Go.Sort.shiftDown,SY];cases lt w.d[k+1]! w.d[k]!<;>simp
        refine aj ?_;refine AW.block ?_;refine aj ?_;refine WT.be hT hw Z Z Z Z Z Z Z Z Z zo (λbl7 hbl7=>?_);refine WT.cz hT 0 hw hbl7 (aW zo) Z Z Z Z Z Z Z Z Z (λl7 hl7=>?_);refine aj ?_;refine WT.be hT hw Z Z Z Z Z Z Z Z Z zo (λbl8 hbl8=>?_);refine WT.cz hT 0 hw hbl8 (aW zo) Z Z Z Z Z Z Z Z Z (λl8 hl8=>?_);refine WT.fZ hg hgb Z Z Z Z Z Z Z (hcmp G (hF2'.trans hG) l7 l8 _ _ hl7 hl8) (λv hvz=>?_);obtain⟨z,rfl,hz⟩:=hvz;refine aj ?_;refine AW.cond Z (λhc=>?_) (λhc=>?_)
        ·have hlt:lt w.d[w.i]! w.d[w.i-1]! = false:=Sn.2 (λhh=>absurd (hz.2 hh) (by simpa using hc));refine AW.exit ?_;refine⟨⟨0,w.d,w.B⟩,sM,ah.refl _,hw,?_⟩;rw[<-hwe,one,By (by rw[hlt];decide)]
        ·have hlt:=hz.1 (by simpa using hc);refine aj ?_;refine AW.draw (ps:=[(4,15)]) Z Z ?_;refine aj ?_;refine WT.be hT hw Z Z Z Z Z Z Z Z Z zo (λbl9 hbl9=>?_);refine WT.cz hT 0 hw hbl9 (aW zo) Z Z Z Z Z Z Z Z Z (λl9 hl9=>?_);refine aj ?_;refine WT.be hT hw Z Z Z Z Z Z Z Z Z zo (λbl10 hbl10=>?_);refine WT.cz hT 0 hw hbl10 (aW zo) Z Z Z Z Z Z Z Z Z (λl10 hl10=>?_);refine WT.be hT hw Z Z Z Z Z Z Z Z Z zo (λbl11 hbl11=>?_);refine WT.oY (y:=w.d[w.i-1]!) hT 0 hw hbl11 (gE (by simp;omega)) Z Z Z Z Z hl9 Z (λ_=>rfl) Z (λBl11 hBl11=>?_)
         refine WT.be hT hBl11 Z Z Z Z Z Z Z Z Z zo (λbl12 hbl12=>?_);refine WT.oY (y:=w.d[w.i]!) hT 0 hBl11 hbl12 (gE (by simp;omega)) Z Z Z Z Z hl10 Z (λ_=>rfl) Z (λBl12 hBl12=>?_);rw[<-dS] at hBl12;refine aj ?_;refine⟨oF,?_⟩;refine aj ?_;refine⟨⟨w.i-1,Go.Sort.swp w.d w.i (w.i-1),Bl12⟩,by dsimp only;omega,sM,ah.refl _,hBl12,by dsimp only;omega,?_⟩;rw[<-hwe,one,If hlt]
       ·have h3:w.i=0:=by simp at h3;omega
        refine AW.exit ?_;refine⟨⟨0,w.d,w.B⟩,sM,ah.refl _,hw,?_⟩;rw[<-hwe,h3];rfl
      ·have h2:¬2<=i2-a:=by simp at h2;omega
       rw[Go.Sort.fixDown,By h2];refine AW.skip ?_;exact⟨⟨0,d1,Bl6⟩,sM,ah.refl _,hBl6,rfl⟩
     ·obtain⟨hs,hsd⟩:=hP3;have hszs:m=s.d.size:=hs.len;have hF3':=hF2'.trans hF3;rw[<-hsd] at heq;refine aj ?_;refine AW.cond Z (λh2=>?_) (λh2=>?_)
      ·have h2:2<=b-i2:=by simp at h2;omega
       rw[Go.Sort.fixUp,If h2] at heq;refine aj ?_;refine AW.block ?_;refine AW.cK (S:=VS Lr) (λs=>[(12,.int .i64 (s.i:Nat))]) (λs=>s.B::own) (λw G=>dC dM G a0 m c w.B w.d.toList/\i2+1<=w.i/\Go.Sort.shiftUp lt b w.i w.d=Go.Sort.shiftUp lt b (i2+1) s.d) (λs=>b-s.i) ⟨i2+1,s.d,s.B⟩ sM oR ⟨hs,AS _,rfl⟩ ?_;intro w G hG hP4;obtain⟨hw,hwi,hwe⟩:=hP4;have hszw:m=w.d.size:=hw.len;refine aj ?_;refine AW.cond Z (λh3=>?_) (λh3=>?_)
       ·have h3:w.i<b:=by simp at h3;omega
        have one:Go.Sort.shiftUp lt b w.i w.d=if lt w.d[w.i]! w.d[w.i-1]! = true then Go.Sort.shiftUp lt b (w.i+1) (Go.Sort.swp w.d w.i (w.i-1)) else w.d:=by
         conv=>lhs;rw[Go.Sort.shiftUp]
         rw[If h3];cases lt w.d[w.i]! w.d[w.i-1]!<;>simp
        refine aj ?_;refine AW.block ?_;refine aj ?_;refine WT.be hT hw Z Z Z Z Z Z Z Z Z zo (λbl7 hbl7=>?_);refine WT.cz hT 0 hw hbl7 (aW zo) Z Z Z Z Z Z Z Z Z (λl7 hl7=>?_);refine aj ?_;refine WT.be hT hw Z Z Z Z Z Z Z Z Z zo (λbl8 hbl8=>?_);refine WT.cz hT 0 hw hbl8 (aW zo) Z Z Z Z Z Z Z Z Z (λl8 hl8=>?_);refine WT.fZ hg hgb Z Z Z Z Z Z Z (hcmp G (hF3'.trans hG) l7 l8 _ _ hl7 hl8) (λv hvz=>?_);obtain⟨z,rfl,hz⟩:=hvz;refine aj ?_;refine AW.cond Z (λhc=>?_) (λhc=>?_)
        ·have hlt:lt w.d[w.i]! w.d[w.i-1]! = false:=Sn.2 (λhh=>absurd (hz.2 hh) (by simpa using hc));refine AW.exit ?_;refine aj ?_;refine⟨(u.1+1,⟨i2,w.d,w.B⟩),by dsimp only;omega,sM,ah.refl _,hw,by dsimp only;omega,by dsimp only;omega,j2,?_⟩;rw[<-heq,<-hwe,one,By (by rw[hlt];decide)]
        ·have hlt:=hz.1 (by simpa using hc);refine aj ?_;refine AW.draw (ps:=[(4,15)]) Z Z ?_;refine aj ?_;refine WT.be hT hw Z Z Z Z Z Z Z Z Z zo (λbl9 hbl9=>?_);refine WT.cz hT 0 hw hbl9 (aW zo) Z Z Z Z Z Z Z Z Z (λl9 hl9=>?_);refine aj ?_;refine WT.be hT hw Z Z Z Z Z Z Z Z Z zo (λbl10 hbl10=>?_);refine WT.cz hT 0 hw hbl10 (aW zo) Z Z Z Z Z Z Z Z Z (λl10 hl10=>?_);refine WT.be hT hw Z Z Z Z Z Z Z Z Z zo (λbl11 hbl11=>?_);refine WT.oY (y:=w.d[w.i-1]!) hT 0 hw hbl11 (gE (by simp;omega)) Z Z Z Z Z hl9 Z (λ_=>rfl) Z (λBl11 hBl11=>?_)
         refine WT.be hT hBl11 Z Z Z Z Z Z Z Z Z zo (λbl12 hbl12=>?_);refine WT.oY (y:=w.d[w.i]!) hT 0 hBl11 hbl12 (gE (by simp;omega)) Z Z Z Z Z hl10 Z (λ_=>rfl) Z (λBl12 hBl12=>?_);rw[<-dS] at hBl12;refine aj ?_;refine⟨oF,?_⟩;refine aj ?_;refine⟨⟨w.i+1,Go.Sort.swp w.d w.i (w.i-1),Bl12⟩,by dsimp only;omega,sM,ah.refl _,hBl12,by dsimp only;omega,?_⟩;rw[<-hwe,one,If hlt]
       ·have h3:¬w.i<b:=by simp at h3;omega
        refine AW.exit ?_;refine aj ?_;refine⟨(u.1+1,⟨i2,w.d,w.B⟩),by dsimp only;omega,sM,ah.refl _,hw,by dsimp only;omega,by dsimp only;omega,j2,?_⟩;rw[<-heq,<-hwe,Go.Sort.shiftUp,By h3]
      ·have h2:¬2<=b-i2:=by simp at h2;omega
       rw[Go.Sort.fixUp,By h2] at heq;refine aj ?_;exact⟨(u.1+1,⟨i2,s.d,s.B⟩),by dsimp only;omega,sM,ah.refl _,hs,by dsimp only;omega,by dsimp only;omega,j2,heq⟩
 ·have h:u.1=5:=by simp at h;omega
  refine AW.exit ?_;refine aj ?_;rw[h] at heq;refine AW.ret ⟨_,[_],⟨_,_,rfl,rfl,rfl⟩,bU,_,rfl,?_,?_⟩
  ·rw[<-heq];rfl
  ·rw[<-heq];exact hv1
theorem Ap(F:ar){cv:Value}{a0:Option Addr}{m c:Nat}{B:List (Nat×aD)}{d:Array Lr}(hv:dC dM F a0 m c B d.toList)(a b:Nat)(hab:a+13<=b)(hb:b<=m)(hm:m<=1000000) :
  Abs.Spec CC 248 [.slice a0 m c,.int .i64 a,.int .i64 b,cv] F [B] λF' v o=>∃B',o=[B']/\dC dM F' a0 m c B' (Go.Sort.breakPatterns d a b).toList:=by
 obtain⟨l,hl⟩:∃l,b-a=l:=⟨_,rfl⟩;obtain⟨e,he⟩:∃e,l / 4=e:=⟨_,rfl⟩;obtain⟨p2,hp2⟩:∃p,2 ^ Go.Sort.bitsLen l=p:=⟨_,rfl⟩;have h1p:=Go.Sort.two_pow_bitsLen_le (n:=l) zo;have h2p:=Go.Sort.lt_two_pow_bitsLen l;rw[hp2] at h1p h2p;have hbr:Go.Sort.breakPatterns d a b=(JO a l p2 (a+e*2-1) (UInt64.ofNat l,d) 3).2:=by
  unfold Go.Sort.breakPatterns;simp only[hl];rw[If zo,he,Nat.one_shiftLeft,hp2];rfl
 refine Abs.Spec.fn (n:=67) Tryz.func248 rfl rfl λown=>?_;refine aj ?_;rw[hl];refine AW.cond Z (λ_=>?_) (λh=>(by simp at h;omega));refine aj ?_;refine WT.conv hT (k2:=.u64) Z Z Z Z Z Z Z Z (jD zo) ?_
 refine WT.aI hT Z Z Z Z Z Z (λi9 hi9=>?_);refine aj ?_;refine WT.bN Tryz.func237 Z Z Z Z Z Z (Gm _ l zo) (λv hv'=>?_);rw[hp2] at hv';subst hv';refine aj ?_;refine WT.Du 4 Z Z Z Z Z Z (by decide) zo ?_;rw[he];refine WT.mulL 2 Z Z Z Z Z Z zo ?_;refine aj ?_;refine AW.block ?_
 refine AW.cK (S:=VS Lr) (λs=>[(11,.int .i64 ((a+e*2-1+s.i:Nat):Int))]) (λs=>[(i9,.cells false [.int .u64 ((JO a l p2 (a+e*2-1) (UInt64.ofNat l,d) s.i).1.toNat:Nat)])]::s.B::own) (λs G=>dC dM G a0 m c s.B s.d.toList/\s.i<=3/\s.d=(JO a l p2 (a+e*2-1) (UInt64.ofNat l,d) s.i).2) (λs=>3-s.i) ⟨0,d,B⟩
  sM (ah.flat (Ss ?_)) ⟨hv,RC _,rfl⟩ ?_
 ·rw[show (JO a l p2 (a+e*2-1) (UInt64.ofNat l,d) 0).1.toNat=l from by
   show (UInt64.ofNat l).toNat=l;rw[UInt64.toNat_ofNat']
   exact TF (by
    have : 2 ^ 64 = 18446744073709551616 := rfl
    omega)]
  rfl
 intro u F2 hF2 hP2;obtain⟨hv2,hi,heq⟩:=hP2;have hsz:m=u.d.size:=hv2.len;have hr64:=(JO a l p2 (a+e*2-1) (UInt64.ofNat l,d) u.i).1.toNat_lt;rw[show (2:Nat) ^ 64=18446744073709551616 from rfl] at hr64;obtain⟨r,hr⟩:∃r,(JO a l p2 (a+e*2-1) (UInt64.ofNat l,d) u.i).1.toNat=r:=⟨_,rfl⟩;have hnext:(JO a l p2 (a+e*2-1) (UInt64.ofNat l,d) (u.i+1)).1.toNat=Go.Sort.xorNextN r:=by
  rw[<-hr,<-Go.Sort.xorNext_toNat];rfl
 rw[hr] at hr64;rw[hr];have hx64:=Go.Sort.xorNextN_lt r hr64;obtain⟨o0,ho0⟩:∃o0,Go.Sort.xorNextN r &&& (p2-1)=o0:=⟨_,rfl⟩;have ho1:o0<=p2-1:=by rw[<-ho0];exact Nat.and_le_right
 have hswap:(JO a l p2 (a+e*2-1) (UInt64.ofNat l,d) (u.i+1)).2=Go.Sort.swp u.d (a+e*2-1+u.i) (a+(if o0≥l then o0-l else o0)):=by
  show (Go.Sort.breakStep a l p2 (JO a l p2 (a+e*2-1) (UInt64.ofNat l,d) u.i) (a+e*2-1+u.i)).2=_;unfold Go.Sort.breakStep;simp only[Go.Sort.xorNext_toNat,hr,ho0,<-heq]
 have hel:e*4<=l:=by rw[<-he];exact Nat.div_mul_le_self _ _
 have he3:3<=e:=by rw[<-he];omega
 refine aj ?_;refine WT.Du 4 Z Z Z Z Z Z (by decide) zo ?_;rw[he];refine WT.mulL 2 Z Z Z Z Z Z zo ?_;refine aj ?_;refine AW.cond Z (λh=>?_) (λh=>?_)
 ·have h:u.i<3:=by simp at h;omega
  refine aj ?_;refine AW.block ?_;refine aj ?_;refine WT.bW 0 Tryz.func238 Z Z Z Z Z Z Z (λ_=>rfl) (Gy _ i9 r hr64) (λF3 v B3 hF3 hv3=>?_);obtain⟨rfl,rfl⟩:=hv3;have hv3:=hv2.mono hF3;refine aj ?_;refine WT.lB Z Z Z Z Z Z (by decide) (Nz (x:=p2) (y:=1) zo zo) ?_;refine WT.lB Z Z Z Z Z Z (by decide) (LK hx64 zo) ?_;rw[ho0];refine WT.conv hT (k2:=.i64) Z Z Z Z Z Z Z Z (wrap64 zo) ?_
  refine aj ?_;refine AW.EG (S:=Unit) (λ_=>[(12,.int .i64 ((if o0≥l then o0-l else o0:Nat):Int))]) (λ_=>[(i9,.cells false [.int .u64 (Go.Sort.xorNextN r:Nat)])]::u.B::own) (λ_ _=>True) ?_ (λ_ F4 hF4 _=>?_)
  ·refine AW.cond Z (λh=>?_) (λh=>?_)
   ·have h:l<=o0:=by simp at h;omega
    refine aj ?_;refine⟨(),bD.of_map (by rw[If h];rfl),ah.refl _,trivial⟩
   ·have h:¬l<=o0:=by simp at h;omega
    refine AW.skip ?_;refine⟨(),bD.of_map (by rw[By h];rfl),ah.refl _,trivial⟩
  ·obtain⟨o1,ho2⟩:∃o1,(if o0≥l then o0-l else o0)=o1:=⟨_,rfl⟩;have ho3:o1<l:=by rw[<-ho2];split<;>omega
   rw[ho2] at hswap ⊢;have hv4:=hv3.mono hF4;refine AW.draw (ps:=[(5,17)]) Z Z ?_;refine aj ?_;refine WT.be hT hv4 Z Z Z Z Z Z Z Z Z zo (λbl3 hbl3=>?_);refine WT.cz hT 1 hv4 hbl3 (aW zo) Z Z Z Z Z Z Z Z Z (λl3 hl3=>?_);refine aj ?_;refine WT.be hT hv4 Z Z Z Z Z Z Z Z Z zo (λbl4 hbl4=>?_);refine WT.cz hT 1 hv4 hbl4 (aW zo) Z Z Z Z Z Z Z Z Z (λl4 hl4=>?_);refine WT.be hT hv4 Z Z Z Z Z Z Z Z Z zo (λbl5 hbl5=>?_);refine WT.oY (y:=u.d[a+o1]!) hT 1 hv4 hbl5 (gE (by simp;omega)) Z Z Z Z Z hl3 Z (λ_=>rfl) Z (λBl5 hBl5=>?_)
   refine WT.be hT hBl5 Z Z Z Z Z Z Z Z Z zo (λbl6 hbl6=>?_);refine WT.oY (y:=u.d[a+e*2-1+u.i]!) hT 1 hBl5 hbl6 (gE (by simp;omega)) Z Z Z Z Z hl4 Z (λ_=>rfl) Z (λBl6 hBl6=>?_);rw[<-dS] at hBl6;refine aj ?_;refine⟨oF,?_⟩;refine aj ?_;refine⟨⟨u.i+1,_,Bl6⟩,by dsimp only;omega,sM,ah.flat (Ss (by rw[hnext])),hBl6,by dsimp only;omega,hswap.symm⟩
 ·have h:u.i=3:=by simp at h;omega
  refine AW.exit ?_;refine⟨_,[_],rfl,bU,_,rfl,?_⟩;rw[hbr,<-h,<-heq];exact hv2
theorem nj{lt:Lr->Lr->Bool}{g:Nat}{first capt:List Value}:∀(N:Nat) (F:ar) (hc:jy dM lt F g first capt) {a0:Option Addr} {m c:Nat} {B:List (Nat×aD)} {d:Array Lr} (hv:dC dM F a0 m c B d.toList) (a b limit:Nat) (hN:b-a<N) (hab:a<=b) (hb:b<=m) (hm:m<=1000000) (hlim:limit<=1000000),
  Abs.Spec CC 222 [.slice a0 m c,.int .i64 a,.int .i64 b,.int .i64 limit,.func (.func g) ⟨first⟩ ⟨capt⟩] F [B] λF' v o=>∃B',o=[B']/\dC dM F' a0 m c B' (Go.Sort.pdq lt d a b limit true true).toList
 | 0,_,_,_,_,_,_,_,_,_,_,_,h,_,_,_,_=>absurd h (Tr _)
 | N+1,F,hc,a0,m,c,B,d,hv,a,b,limit,hN,hab,hb,hm,hlim=>by
  obtain⟨⟨fn,hg,hgb⟩,hcmp⟩:=id hc;refine Abs.Spec.fn (n:=148) Tryz.func222 rfl rfl λown=>?_;refine aj ?_;refine AW.block ?_;refine AW.cK (S:=PS Lr) (λs=>[(1,.int .i64 (s.a:Nat)),(2,.int .i64 (s.b:Nat)),(3,.int .i64 (s.lim:Nat)),(10,.bool s.wb),(11,.bool s.wp)]) (λs=>s.B::own)
   (λs G=>dC dM G a0 m c s.B s.d.toList/\s.a<=s.b/\s.b<=m/\s.b-s.a<=b-a/\s.lim<=1000000/\Go.Sort.pdq lt s.d s.a s.b s.lim s.wb s.wp=Go.Sort.pdq lt d a b limit true true) (λs=>s.b-s.a) ⟨a,b,limit,true,true,d,B⟩
   sM oR ⟨hv,hab,hb,AS _,hlim,rfl⟩ ?_
  intro s F1 hF1 hP;obtain⟨hv1,hab1,hb1,hle1,hlim1,heq⟩:=hP;have hc1:=hc.mono hF1;refine AW.block ?_;refine aj ?_;refine AW.cond Z (λh=>?_) (λh=>?_)
  ·have h:s.b-s.a<=12:=by simp at h;omega
   refine aj ?_;refine WT.bW 0 Tryz.func246 Z Z Z Z Z Z Z (λ_=>rfl) (C7 _ hc1 hv1 s.a s.b zo hb1 hm) (λF2 v B2 hF2 hv2=>?_);refine aj ?_;refine AW.ret ⟨_,[_],rfl,bU,_,rfl,?_⟩;rw[<-heq,Go.Sort.pdq_small h];exact hv2
  ·have h:¬s.b-s.a<=12:=by simp at h;omega
   refine aj ?_;refine AW.cond Z (λh0=>?_) (λh0=>?_)
   ·have h0:s.lim=0:=by simp at h0;omega
    refine aj ?_;refine WT.bW 0 Tryz.func247 Z Z Z Z Z Z Z (λ_=>rfl) (AD _ hc1 hv1 s.a s.b zo hb1 hm) (λF2 v B2 hF2 hv2=>?_);refine aj ?_;refine AW.ret ⟨_,[_],rfl,bU,_,rfl,?_⟩;rw[<-heq,Go.Sort.pdq_heap h h0];exact hv2
   ·have h0:¬s.lim=0:=by simp at h0;omega
    obtain⟨R,hR⟩:∃R,Go.Sort.rd lt s.d s.a s.b s.lim s.wb s.wp=R:=⟨_,rfl⟩;refine AW.skip ?_;refine AW.jn (S:=VS Lr) (λt=>[(3,.int .i64 (t.i:Nat))]) (λt=>t.B::own) (λt G=>dC dM G a0 m c t.B t.d.toList/\t.i=R.lim/\t.d=R.d1) ?_ (λt F2 hF2 hP2=>?_)
    ·refine aj ?_;cases hwb:s.wb with
     | true=>
      refine AW.cond Z (λh=>(by cases h)) (λ_=>?_);refine AW.skip ?_;exact⟨⟨s.lim,s.d,s.B⟩,sM,ah.refl _,hv1,by rw[<-hR,hwb];rfl,by rw[<-hR,hwb];rfl⟩
     | false=>
      refine AW.cond Z (λ_=>?_) (λh=>(by cases h));refine aj ?_;refine WT.bW 0 Tryz.func248 Z Z Z Z Z Z Z (λ_=>rfl) (Ap _ hv1 s.a s.b zo hb1 hm) (λF2 v B2 hF2 hv2=>?_);refine aj ?_;exact⟨⟨s.lim-1,_,B2⟩,sM,ah.refl _,hv2,by rw[<-hR,hwb];rfl,by rw[<-hR,hwb];rfl⟩
    ·obtain⟨hv2,hlm,hd1⟩:=hP2;have hc2:=hc1.mono hF2;have hsz2:m=t.d.size:=hv2.len;have hcc:Go.Sort.choosePivot lt t.d s.a s.b=R.c:=by rw[hd1,<-hR];rfl
     have hcr:=Go.Sort.choosePivot_holds lt t.d s.a s.b zo;rw[hcc] at hcr;have hlim2:R.lim<=s.lim:=by rw[<-hR];exact Go.Sort.rd_lim_le
     refine aj ?_;refine WT.eK 0 Tryz.func249 Z Z Z Z Z Z Z (λG hG hBG=>zP G (hc2.mono hG) (hv2.arr hG hBG) s.a s.b zo hb1 hm) (λv hv'=>?_);rw[hcc] at hv';subst hv'
     (iterate 5 (refine WT.DR hT Z Z Z Z Z ?_))
     refine WT.nil ?_;refine AW.jn (S:=Nat×Go.Sort.Hint×VS Lr) (λu=>[(13,.int .i64 (u.1:Nat)),(14,.int .i64 (Go.Sort.hintCode u.2.1))]) (λu=>u.2.2.B::own) (λu G=>dC dM G a0 m c u.2.2.B u.2.2.d.toList/\u.1=R.pivot/\u.2.1=R.hint/\u.2.2.d=R.d2/\s.a<=u.1/\u.1<s.b) ?_ (λu F3 hF3 hP3=>?_)
     ·refine aj ?_;refine AW.cond Z (λhh=>?_) (λhh=>?_)
      ·have hdec:R.c.2=.decreasing:=by
        cases e:R.c.2 with
        | decreasing=>rfl
        | increasing=>rw[e] at hh;cases hh
        | unknown=>rw[e] at hh;cases hh
       obtain⟨q1,q2,q3⟩:=Go.Sort.rd_dec (lt:=lt) (d:=s.d) (a:=s.a) (b:=s.b) (limit:=s.lim) (wb:=s.wb) (wp:=s.wp) (by rw[hR];exact hdec);rw[hR] at q1 q2 q3;refine aj ?_;refine WT.bW 0 Tryz.func250 Z Z Z Z Z Z Z (λ_=>rfl) (Ct _ hv2 s.a s.b zo hb1 hm) (λF3 v B3 hF3 hv3=>?_);refine aj ?_;refine⟨(s.b-1-(R.c.1-s.a),.increasing,⟨0,_,B3⟩),sM,ah.refl _,hv3,q2.symm,q3.symm,(by rw[q1,hd1];rfl),by dsimp only;omega,by dsimp only;omega⟩
      ·have hdec:R.c.2≠.decreasing:=by intro e;rw[e] at hh;cases hh
       obtain⟨q1,q2,q3⟩:=Go.Sort.rd_not (lt:=lt) (d:=s.d) (a:=s.a) (b:=s.b) (limit:=s.lim) (wb:=s.wb) (wp:=s.wp) (by rw[hR];exact hdec);rw[hR] at q1 q2 q3;refine AW.skip ?_;exact⟨(R.c.1,R.c.2,⟨0,t.d,t.B⟩),sM,ah.refl _,hv2,q2.symm,q3.symm,by rw[q1,hd1],hcr.1,hcr.2⟩
     ·obtain⟨hv3,hpv,hhint,hd2,hpa,hpb⟩:=hP3;have hc3:=hc2.mono hF3;have hno:(s.wb&&s.wp&&decide (R.hint=.increasing))=false->R.pi=(R.d2,false):=λh=>by
       have:=Go.Sort.rd_pi_no (lt:=lt) (d:=s.d) (a:=s.a) (b:=s.b) (limit:=s.lim) (wb:=s.wb) (wp:=s.wp) (by rw[hR];exact h);rw[hR] at this;exact this
      have hyes:(s.wb&&s.wp&&decide (R.hint=.increasing))=true->R.pi=Go.Sort.partialInsertionSort lt R.d2 s.a s.b:=λh=>by
       have:=Go.Sort.rd_pi_yes (lt:=lt) (d:=s.d) (a:=s.a) (b:=s.b) (limit:=s.lim) (wb:=s.wb) (wp:=s.wp) (by rw[hR];exact h);rw[hR] at this;exact this
      refine AW.jn (S:=VS Lr) (λ_=>[]) (λw=>w.B::own) (λw G=>dC dM G a0 m c w.B w.d.toList/\R.pi=(w.d,false)) ?_ (λw F4 hF4 hP4=>?_)
      ·refine AW.split 10 Z (λhwb=>?_) (λhwb=>?_)
       ·refine AW.split 11 Z (λhwp=>?_) (λhwp=>?_)
        ·refine aj ?_;refine AW.cond Z (λhh=>?_) (λhh=>?_)
         ·have hinc:R.hint=.increasing:=by
           rw[<-hhint];cases e:u.2.1 with
           | increasing=>rfl
           | decreasing=>rw[e] at hh;cases hh
           | unknown=>rw[e] at hh;cases hh
          have hpi:=hyes (by rw[hwb,hwp,hinc];rfl);refine aj ?_;refine WT.bW 0 Tryz.func251 Z Z Z Z Z Z Z (λ_=>rfl) (BJ _ hc3 hv3 s.a s.b zo hb1 hm) (λF4 v B4 hF4 hv4=>?_);obtain⟨rfl,hv4⟩:=hv4;rw[hd2,<-hpi] at hv4 ⊢;refine aj ?_;refine AW.cond Z (λhp2=>?_) (λhp2=>?_)
          ·have hp2:R.pi.2=true:=hp2;refine AW.ret ⟨_,[_],rfl,bU,_,rfl,?_⟩;rw[<-heq,Go.Sort.pdq_done h h0 (by rw[hR];exact hp2),hR];exact hv4
          ·have hp2:R.pi.2=false:=hp2;refine AW.skip ?_;exact⟨⟨0,R.pi.1,B4⟩,bD.of_map (by rw[hwb,hwp];rfl),ah.refl _,hv4,by rw[<-hp2]⟩
         ·have hinc:R.hint≠.increasing:=by intro e;rw[<-hhint] at e;rw[e] at hh;cases hh
          refine AW.skip ?_;exact⟨⟨0,u.2.2.d,u.2.2.B⟩,bD.of_map (by rw[hwb,hwp];rfl),ah.refl _,hv3,by rw[hno (by simp[hinc]),hd2]⟩
        ·refine aj ?_;refine AW.cond Z (λhh=>(by cases hh)) (λhh=>?_);refine AW.skip ?_;exact⟨⟨0,u.2.2.d,u.2.2.B⟩,bD.of_map (by rw[hwb,hwp];rfl),ah.refl _,hv3,by rw[hno (by simp[hwp]),hd2]⟩
       ·refine aj ?_;refine AW.cond Z (λhh=>(by cases hh)) (λhh=>?_);refine AW.skip ?_;exact⟨⟨0,u.2.2.d,u.2.2.B⟩,bD.of_map (by rw[hwb];rfl),ah.refl _,hv3,by rw[hno (by simp[hwb]),hd2]⟩
      ·obtain⟨hv4,hpi⟩:=hP4;have hc4:=hc3.mono hF4;have hsz4:m=w.d.size:=hv4.len;have hp2:(Go.Sort.rd lt s.d s.a s.b s.lim s.wb s.wp).pi.2=false:=by rw[hR,hpi]
       have hcm:=hc4.2;refine AW.jn (S:=Unit) (λ_=>[]) (λ_=>w.B::own) (λ_ _=>(decide (s.a > 0)&&!lt w.d[s.a-1]! w.d[u.1]!)=false) ?_ (λ_ F5 hF5 hx=>?_)
       ·refine aj ?_;refine WT.split 83 Z (λha0=>?_) (λha0=>?_)
        ·have ha0:0<s.a:=by simp at ha0;omega
         refine aj ?_;refine WT.be hT hv4 Z Z Z Z Z Z Z Z Z zo (λbl1 hbl1=>?_);refine WT.cz hT 0 hv4 hbl1 (aW zo) Z Z Z Z Z Z Z Z Z (λl1 hl1=>?_);refine aj ?_;refine WT.be hT hv4 Z Z Z Z Z Z Z Z Z zo (λbl2 hbl2=>?_);refine WT.cz hT 0 hv4 hbl2 (aW zo) Z Z Z Z Z Z Z Z Z (λl2 hl2=>?_);refine WT.fZ hg hgb Z Z Z Z Z Z Z (hcm F4 (ar.le.refl F4) l1 l2 _ _ hl1 hl2) (λv hvz=>?_);obtain⟨z,rfl,hz⟩:=hvz;refine aj ?_;refine AW.cond Z (λhq=>?_) (λhq=>?_)
         ·have hlt:lt w.d[s.a-1]! w.d[u.1]! = false:=Sn.2 (λhh=>absurd (hz.2 hh) (by simpa using hq));have hrange:=Ae lt w.d (a:=s.a) (b:=s.b) (p:=u.1) hpa hpb zo;have e:=Go.Sort.pdq_eq (lt:=lt) h h0 hp2 (by rw[hR,hpi,<-hpv];simp[ha0,hlt]) (by rw[hR,hpi,<-hpv];exact hrange);rw[hR,hpi,<-hpv,<-hlm] at e;obtain⟨pe,hpe⟩:∃pe,Go.Sort.partitionEqual lt w.d s.a s.b u.1=pe:=⟨_,rfl⟩;rw[hpe] at hrange;refine aj ?_;refine WT.bW 0 Tryz.func252 Z Z Z Z Z Z Z (λ_=>rfl) (xb _ hc4 hv4 s.a s.b u.1 hpa hpb hb1 hm) (λF5 v B5 hF5 hv5=>?_);obtain⟨rfl,hv5⟩:=hv5
          rw[hpe] at hv5 ⊢;refine aj ?_;refine AW.exit ?_;refine⟨⟨pe.1,s.b,t.i,s.wb,s.wp,pe.2,B5⟩,by dsimp only;omega,sM,ah.refl _,hv5,hrange.2,hb1,by dsimp only;omega,by dsimp only;omega,?_⟩;rw[<-heq,e,hpe]
         ·have hlt:=hz.1 (by simpa using hq);refine AW.skip ?_;exact⟨(),sM,ah.refl _,by rw[hlt];simp⟩
        ·have ha0:¬0<s.a:=by simp at ha0;omega
         refine aj ?_;refine AW.cond Z (λhq=>(by cases hq)) (λhq=>?_);refine AW.skip ?_;exact⟨(),sM,ah.refl _,by simp[ha0]⟩
       ·have hv5:=hv4.mono hF5;have hc5:=hc4.mono hF5;have hrange:=CO lt w.d (a:=s.a) (b:=s.b) (p:=u.1) hpa hpb zo;have hx':(decide (s.a > 0)&&!lt (Go.Sort.rd lt s.d s.a s.b s.lim s.wb s.wp).pi.1[s.a-1]! (Go.Sort.rd lt s.d s.a s.b s.lim s.wb s.wp).pi.1[(Go.Sort.rd lt s.d s.a s.b s.lim s.wb s.wp).pivot]!)=false:=by rw[hR,hpi,<-hpv];exact hx
        have hr':s.a<=(Go.Sort.partition lt (Go.Sort.rd lt s.d s.a s.b s.lim s.wb s.wp).pi.1 s.a s.b (Go.Sort.rd lt s.d s.a s.b s.lim s.wb s.wp).pivot).1/\(Go.Sort.partition lt (Go.Sort.rd lt s.d s.a s.b s.lim s.wb s.wp).pi.1 s.a s.b (Go.Sort.rd lt s.d s.a s.b s.lim s.wb s.wp).pivot).1<s.b:=by rw[hR,hpi,<-hpv];exact hrange
        have eL:=Go.Sort.pdq_left (lt:=lt) h h0 hp2 hx' hr';have eR:=Go.Sort.pdq_right (lt:=lt) h h0 hp2 hx' hr';rw[hR,hpi,<-hpv,<-hlm] at eL eR;obtain⟨pp,hpp⟩:∃pp,Go.Sort.partition lt w.d s.a s.b u.1=pp:=⟨_,rfl⟩;simp only[hpp] at hrange eL eR;refine aj ?_;refine WT.bW 0 Tryz.func253 Z Z Z Z Z Z Z (λ_=>rfl) (Bx _ hc5 hv5 s.a s.b u.1 hpa hpb hb1 hm) (λF6 v B6 hF6 hv6=>?_);obtain⟨rfl,hv6⟩:=hv6;rw[hpp] at hv6 ⊢;have hc6:=hc5.mono hF6;refine aj ?_;refine WT.Du 8 Z Z Z Z Z Z (by decide) zo ?_;refine aj ?_;refine AW.cond Z (λhl=>?_) (λhl=>?_)
        ·have hl:pp.1-s.a<s.b-pp.1:=by simp at hl;omega
         refine aj ?_;refine WT.iE (v':=.bool (decide (pp.1-s.a≥(s.b-s.a) / 8))) 10 Z (by congr 1;rw[decide_eq_decide];omega) ?_;refine WT.bW 0 Tryz.func222 Z Z Z Z Z Z Z (λ_=>rfl) (nj N _ hc6 hv6 s.a pp.1 t.i zo hrange.1 zo hm zo) (λF7 v B7 hF7 hv7=>?_);refine aj ?_;refine⟨⟨pp.1+1,s.b,t.i,decide (pp.1-s.a≥(s.b-s.a) / 8),pp.2.1,_,B7⟩,by dsimp only;omega,sM,ah.refl _,hv7,by dsimp only;omega,hb1,by dsimp only;omega,by dsimp only;omega,?_⟩;rw[<-heq,eL hl]
        ·have hl:¬pp.1-s.a<s.b-pp.1:=by simp at hl;omega
         refine aj ?_;refine WT.iE (v':=.bool (decide (s.b-pp.1≥(s.b-s.a) / 8))) 10 Z (by congr 1;rw[decide_eq_decide];omega) ?_;refine WT.bW 0 Tryz.func222 Z Z Z Z Z Z Z (λ_=>rfl) (nj N _ hc6 hv6 (pp.1+1) s.b t.i zo zo hb1 hm zo) (λF7 v B7 hF7 hv7=>?_);refine aj ?_;refine⟨⟨s.a,pp.1,t.i,decide (s.b-pp.1≥(s.b-s.a) / 8),pp.2.1,_,B7⟩,by dsimp only;omega,sM,ah.refl _,hv7,by dsimp only;omega,by dsimp only;omega,by dsimp only;omega,by dsimp only;omega,?_⟩;rw[<-heq,eR hl]
theorem Ax(F:ar){lt:Lr->Lr->Bool}{g:Nat}{first capt:List Value}(hc:jy dM lt F g first capt){a0:Option Addr}{m c:Nat}{B:List (Nat×aD)}{xs:List Lr}(hv:dC dM F a0 m c B xs)(hm:m<=1000000) :
  Abs.Spec CC 195 [.slice a0 m c,.func (.func g) ⟨first⟩ ⟨capt⟩] F [B] λF' v o=>∃B',o=[B']/\dC dM F' a0 m c B' (Go.Sort.sort lt xs.toArray).toList:=by
 have hl:=hv.len
 have hb : Go.Sort.bitsLen m <= 20 := (Go.Sort.bitsLen_le_iff _ _).2 (by
  have : 2 ^ 20 = 1048576 := rfl
  omega)
 refine Abs.Spec.fn (n:=14) Tryz.func195 rfl rfl λown=>?_;refine aj ?_;refine WT.conv hT (k2:=.u64) Z Z Z Z Z Z Z Z (jD zo) ?_
 refine WT.bN Tryz.func174 Z Z Z Z Z Z (rX _ m zo) (λv hv'=>?_);subst hv';refine aj ?_;refine WT.bW 0 Tryz.func222 Z Z Z Z Z Z Z (λ_=>rfl) (nj (m+1) _ hc (d:=xs.toArray) hv 0 m (Go.Sort.bitsLen m) zo (RC _) (AS _) hm zo) (λF7 v B7 hF7 hv7=>?_);refine aj ?_;refine⟨_,[_],rfl,bU,_,rfl,?_⟩;rw[Go.Sort.sort,show xs.toArray.size=m from by simp[hl]];exact hv7
def PG(l:List Lr):Prop:=l.Pairwise (λx y=>pI y x=false)
def ij(l:List Lr):Prop:=l.Pairwise (λx y=>pI x y=true)
theorem Cl{xs:List Lr}(h:PG xs){j:Nat}{x p z:Lr}(hx:xs[j]?=some x)(hp:xs[j-1]?=some p)(hj:0<j)(hne:x≠p)(hz:z∈xs.take j):pI z x=true:=by
 unfold PG at h;rw[List.pairwise_iff_getElem] at h;obtain⟨hjl,hx⟩:=gS hx;obtain⟨hpl,hp⟩:=gS hp;have h1:=h (j-1) j hpl hjl zo;rw[hx,hp] at h1;have h2:pI p x=true:=by
  cases e:pI p x with
  | true=>rfl
  | false=>exact absurd (Gu _ _ h1 e) hne
 obtain⟨i,hi,rfl⟩:=R2 hz;rw[RK] at hi;rw[List.getElem_take];have hil:i<xs.length:=by omega
 rcases Rw i (j-1) with h3 | h3
 ·have h4:=h i (j-1) hil hpl h3;rw[hp] at h4;rw[rE] at h4;rw[jW] at h2 ⊢;omega
 ·obtain rfl:i=j-1:=by omega
  rw[hp];exact h2
theorem lL{xs:List Lr}{j:Nat}{x:Lr}(hx:xs[j]?=some x):xs.take (j+1)=xs.take j++[x]:=by rw[Rk,hx];rfl
theorem B9{xs:List Lr}{j:Nat}{p:Lr}(hp:xs[j-1]?=some p)(hj:0<j):p∈xs.take j:=by
 refine gM (i:=j-1) ?_;rw[RD,If zo,hp]
structure Qw where
 i:Nat
 q:Nat
 ys:List Lr
 B:List (Nat×aD)
theorem vy(F:ar){a:Option Addr}{m c:Nat}{B:List (Nat×aD)}{xs:List Lr}(hv:dC dM F a m c B xs)(hm:m<=1000000)(hs:PG xs) :
  Abs.Spec CC 197 [.slice a m c] F [B] λF' v o=>o=[]/\∃a' m' c' zs,v=.slice a' m' c'/\bw dM F' a' m' c' zs/\m'<=m/\ij zs/\∀z,z∈zs↔z∈xs:=by
 have hl:=hv.len;refine Abs.Spec.fn (n:=61) Tryz.func197 rfl rfl λown=>?_;refine aj ?_;refine AW.cond Z (λh=>?_) (λh=>?_)
 ·have h:m<2:=by simp at h;omega
  refine AW.aw 0 Z Z (λF1 hF1 hB1=>?_);refine aj ?_;refine AW.ret ⟨_,[],⟨_,_,rfl,rfl,rfl⟩,bU,rfl,a,m,c,xs,rfl,hv.arr hF1 hB1,AS _,?_,λ_=>Iff.rfl⟩
  match xs,hl with
  | [],_=>exact List.Pairwise.nil
  | [x],_=>exact TY _ _
  | _::_::_,hl=>simp at hl;omega
 have h:2<=m:=by simp at h;omega
 obtain⟨x0,hx0⟩:∃x,xs[0]?=some x:=⟨_,gE zo⟩;obtain⟨ib,cs0,rfl,rfl,hcs0,_⟩:=hv.at_ hx0;obtain rfl:c=2:=by
  rcases hv.cap with h5 | h5
  ·have:=hv.zero h5;omega
  ·exact h5
 refine aj ?_;refine AW.block ?_;refine AW.cK (S:=Nat) (λi=>[(3,.int .i64 (i:Nat))]) (λ_=>_) (λi G=>1<=i/\i<=m/\ij (xs.take i)) (λi=>m-i) 1
  sM oR ⟨AS _,by omega,?_⟩ ?_
 ·rw[lL (j:=0) hx0];exact TY _ _
 intro i F1 hF1 hP;obtain⟨hi1,him,hst⟩:=hP;have hv1:=hv.mono hF1;refine aj ?_;refine AW.cond Z (λh2=>?_) (λh2=>?_)
 ·have h2:i<m:=by simpa using h2
  obtain⟨x,hx⟩:∃x,xs[i]?=some x:=⟨_,gE zo⟩;obtain⟨p,hp⟩:∃x,xs[i-1]?=some x:=⟨_,gE zo⟩;refine aj ?_;refine AW.block ?_;refine aj ?_;refine WT.be hT hv1 Z Z Z Z Z Z Z Z Z h2 (λb5 hb5=>?_);refine WT.cz hT 0 hv1 hb5 hx Z Z Z Z Z Z Z Z Z (λl hl=>?_);obtain rfl:l=_:=hl;refine aj ?_;refine WT.be hT hv1 Z Z Z Z Z Z Z Z Z zo (λb6 hb6=>?_);refine WT.cz hT 0 hv1 hb6 hp Z Z Z Z Z Z Z Z Z (λl hl=>?_);obtain rfl:l=_:=hl;refine aj ?_;refine AW.cond Z (λh3=>?_) (λh3=>?_)
  ·have e:x=p:=by
    simp at h3;cases x;cases p;simp only[Lr.mk.injEq] at *;omega
   subst e;refine aj ?_;refine WT.slice Z Z Z Z Z Z Z Z (λh0=>jj (lo:=i) (hi:=m) hT Z Z Z Z Z zo (AS _) (.inr rfl) h0) ?_;refine aj ?_;refine AW.block ?_;refine AW.cK (S:=Qw) (λs=>[(3,.int .i64 (s.i:Nat)),(5,.int .i64 (s.q:Nat))]) (λs=>s.B::own)
    (λs G=>dC dM G (some ⟨ib,0,none⟩) m 2 s.B s.ys/\1<=s.q/\i+s.q<=m/\s.i+1<=i+s.q/\s.ys.drop (i+s.q-1)=xs.drop (i+s.q-1)/\ij (s.ys.take s.i)/\∀z,z∈s.ys.take s.i↔z∈xs.take (i+s.q)) (λs=>m-s.q) ⟨i,1,xs,_⟩
    sM oR ⟨hv1,AS _,by dsimp only;omega,AS _,rfl,hst,λz=>?_⟩ ?_
   ·show z∈xs.take i↔z∈xs.take (i+1);rw[lL hx,Rx]
    exact⟨.inl,λhz=>hz.elim id λhz=>by
     have e:z=x:=by simpa using hz
     subst e;exact B9 hp zo⟩
   intro s F2 hF2 hP;obtain⟨hv2,hq1,hqm,hsi,hdr,hstr,hmem⟩:=hP;have hv2l:=hv2.len;refine aj ?_;refine AW.cond Z (λh4=>?_) (λh4=>?_)
   ·have h4:i+s.q<m:=by simp at h4;omega
    refine aj ?_;refine AW.block ?_;refine aj ?_;obtain⟨y,hy⟩:∃y,xs[i+s.q]?=some y:=⟨_,gE zo⟩;obtain⟨p2,hp2⟩:∃y,xs[i+s.q-1]?=some y:=⟨_,gE zo⟩;have up:∀d,s.ys[i+s.q-1+d]?=xs[i+s.q-1+d]?:=λd=>by
     rw[<-RI,hdr,RI]
    have hy2:s.ys[i+s.q]?=some y:=by
     have:=up 1;rw[show i+s.q-1+1=i+s.q by omega] at this;rw[this,hy]
    have hp3:s.ys[i+s.q-1]?=some p2:=by
     have:=up 0;rw[SJ] at this;rw[this,hp2]
    have hdr2:s.ys.drop (i+s.q)=xs.drop (i+s.q):=by
     have:=congrArg (List.drop 1) hdr;rw[Td,Td,show i+s.q-1+1=i+s.q by omega] at this;exact this
    refine WT.dL hT Z Z Z Z Z Z Z Z Z zo ?_;rw[show 0+i*2+s.q*2=(i+s.q)*2 by omega];refine WT.cz hT 0 hv2 Z hy2 Z Z Z Z Z Z Z Z Z (λl hl=>?_);obtain rfl:l=_:=hl;refine aj ?_;refine WT.dL hT Z Z Z Z Z Z Z Z Z zo ?_;rw[show 0+i*2+(s.q-1)*2=(i+s.q-1)*2 by omega];refine WT.cz hT 0 hv2 Z hp3 Z Z Z Z Z Z Z Z Z (λl hl=>?_);obtain rfl:l=_:=hl;refine aj ?_;refine AW.cond Z (λh5=>?_) (λh5=>?_)
    ·have hne:y≠p2:=by
      rintro rfl;simp at h5
     refine aj ?_;refine WT.dL hT Z Z Z Z Z Z Z Z Z zo ?_;rw[show 0+i*2+s.q*2=(i+s.q)*2 by omega];refine WT.cz hT 0 hv2 Z hy2 Z Z Z Z Z Z Z Z Z (λl hl=>?_);obtain rfl:l=_:=hl;refine WT.be hT hv2 Z Z Z Z Z Z Z Z Z zo (λb6 hb6=>?_);obtain⟨z,hz⟩:∃z,s.ys[s.i]?=some z:=⟨_,gE zo⟩;have hil:s.i<s.ys.length:=by omega
     refine WT.oY (y:=y) hT 0 hv2 hb6 hz Z Z Z Z Z Z Z (λ_=>rfl) Z (λB6 hB6=>?_);refine aj ?_;have ht:(s.ys.set s.i y).take (s.i+1)=s.ys.take s.i++[y]:=by
      rw[Rk,RA hil,List.take_set_of_le (AS _)];rfl
     refine⟨⟨s.i+1,s.q+1,s.ys.set s.i y,B6⟩,by dsimp only;omega,sM,cy,hB6,by dsimp only;omega,by dsimp only;omega,by dsimp only;omega,?_,?_,λw=>?_⟩
     ·show (s.ys.set s.i y).drop (i+(s.q+1)-1)=xs.drop (i+(s.q+1)-1);rw[show i+(s.q+1)-1=i+s.q by omega,List.drop_set_of_lt zo,hdr2]
     ·show ij ((s.ys.set s.i y).take (s.i+1));rw[ht];refine List.pairwise_append.2 ⟨hstr,TY _ _,λw hw w2 hw2=>?_⟩;obtain rfl:w2=y:=by simpa using hw2
      exact Cl hs hy hp2 zo hne ((hmem w).1 hw)
     ·show w∈(s.ys.set s.i y).take (s.i+1)↔w∈xs.take (i+(s.q+1));rw[ht,<-TA,lL hy,Rx,Rx,hmem]
    ·have e:y=p2:=by
      simp at h5;cases y;cases p2;simp only[Lr.mk.injEq] at *;omega
     subst e;refine aj ?_;refine⟨⟨s.i,s.q+1,s.ys,s.B⟩,by dsimp only;omega,sM,cy,hv2,by dsimp only;omega,by dsimp only;omega,by dsimp only;omega,?_,hstr,λw=>?_⟩
     ·show s.ys.drop (i+(s.q+1)-1)=xs.drop (i+(s.q+1)-1);rw[show i+(s.q+1)-1=i+s.q by omega,hdr2]
     ·show w∈s.ys.take s.i↔w∈xs.take (i+(s.q+1));rw[hmem,<-TA,lL hy,Rx]
      exact⟨.inl,λhz=>hz.elim id λhz=>by
       have e:w=y:=by simpa using hz
       subst e;exact B9 hp2 zo⟩
   ·have h4:i+s.q=m:=by simp at h4;omega
    refine AW.exit ?_;refine aj ?_;refine WT.slice Z Z Z Z Z Z Z Z (λh0=>jj (lo:=s.i) (hi:=m) hT Z Z Z Z Z zo (AS _) (.inr rfl) h0) ?_;refine WT.Ie (x0:=(⟨0,0⟩:Lr)) (i:=s.i) (l:=m-s.i) hT 0 hv2 Z Z Z Z Z Z Z Z Z zo zo Z (λ_=>rfl) (λB6 hB6=>?_);refine WT.aw 0 Z Z (λF6 hF6 hB6'=>?_);have harr:=hB6.arr hF6 hB6';obtain⟨sa,sc,hss,hsl⟩:=harr.slice (C:=CC) (lo:=0) (hi:=s.i) (RC _) zo hT (t:=259) Z Z Z none (some (.int .i64 (s.i:Nat))) rfl rfl;refine aj ?_;refine WT.slice Z Z Z Z Z Z Z Z hss ?_;refine aj ?_
    have e:(List.take s.i (List.take s.i s.ys++List.replicate (m-s.i) ⟨0,0⟩)).drop 0=s.ys.take s.i:=by
     rw[S6,T1 (by rw[RK];omega)]
    rw[e] at hsl;refine AW.ret ⟨_,[],⟨_,_,rfl,rfl,rfl⟩,bU,rfl,sa,_,sc,_,rfl,hsl,by omega,hstr,λw=>?_⟩;rw[hmem,h4,No zo]
  ·have hne:x≠p:=by
    rintro rfl;simp at h3
   refine aj ?_;refine⟨i+1,by omega,sM,cy,by omega,by omega,?_⟩;rw[lL hx];refine List.pairwise_append.2 ⟨hst,TY _ _,λw hw w2 hw2=>?_⟩;obtain rfl:w2=x:=by simpa using hw2
   exact Cl hs hx hp zo hne hw
 ·have h2:i=m:=by simp at h2;omega
  refine AW.exit ?_;refine AW.aw 0 Z Z (λF2 hF2 hB2=>?_);refine aj ?_;refine AW.ret ⟨_,[],⟨_,_,rfl,rfl,rfl⟩,bU,rfl,_,m,_,xs,rfl,hv1.arr hF2 hB2,AS _,?_,λ_=>Iff.rfl⟩;rw[No zo] at hst;exact hst
def aR(g:af)(x:Lr):Option Sym:=
 if x.aA=g.rules.length then (if x.dot=0 then some ⟨false,g.start⟩ else none) else match g.rules[x.aA]? with
  | some r=>r.right[x.dot]?
  | none=>none
theorem lY(F:ar)(g:af)(hg4:∀r∈g.rules,r.right.length<=100){a:Option Addr}{m c:Nat}(hr:bw bK F a m c g.rules)(hm:m<=1000000)(x:Lr)(hx:x.aA<=m) :
  Abs.Spec CC 150 [.agg ⟨ai g a m c⟩,.agg ⟨[.int .i64 x.aA,.int .i64 x.dot]⟩] F [] λ_ v o=>o=[]/\∃(y:Sym) (b:Bool),v=.tuple ⟨[.agg ⟨[.bool y.term,.int .i64 y.n]⟩,.bool b]⟩/\(b=true->aR g x=some y)/\(b=false->aR g x=none):=by
 have hml:=hr.len;unfold ai;refine Abs.Spec.fn (n:=37) Tryz.func150 rfl rfl λown=>?_;refine AW.seq (AW.du ?_);refine WT.cC Z Z Z Z Z Z (λi2 hi2=>?_);refine WT.cC Z Z Z Z Z Z (λi3 hi3=>?_);refine WT.aI hT Z Z Z Z Z Z (λi4 hi4=>?_);refine au ?_;refine AW.cond Z (λh=>?_) (λh=>?_)
 ·have h:x.aA=g.rules.length:=by simp at h;omega
  refine au ?_;refine AW.draw (ps:=[(4,2),(4,6),(5,2),(5,6)]) Z Z ?_;refine au ?_;refine WT.bN Tryz.func84 Z Z Z Z Z Z (qJ _ _) (λv hv=>?_);subst hv;refine au ?_;refine⟨oF,?_⟩;refine AW.ret ⟨_,[],⟨_,_,⟨_,rfl,λG h0 s0=>bV (s0.has (p:=0) Z me) (cl hT rfl)⟩,⟨_,_,rfl,rfl,rfl⟩,rfl⟩,bU,rfl,⟨false,g.start⟩,_,rfl,λhb=>?_,λhb=>?_⟩
  ·unfold aR;rw[If h,If (by simpa using hb)]
  ·unfold aR;rw[If h,By (by simpa using hb)]
 ·have h:x.aA<g.rules.length:=by simp at h;omega
  refine au ?_;refine WT.bG hT hr Z Z Z Z Z Z Z Z Z zo (λr hrx b5 off5 ro5 cs5 lx5 hb5 hp5 hrel5=>?_);obtain⟨ra,rn,rc,rfl,hra⟩:=hrel5;have hral:=hra.len;have hr4:=hg4 r (gM hrx);have ha:aR g x=r.right[x.dot]?:=by
   unfold aR;rw[By zo,hrx]
  refine au ?_;refine AW.cond Z (λh2=>?_) (λh2=>?_)
  ·have h2:x.dot<rn:=by simp at h2;omega
   refine au ?_;refine WT.bG hT hra Z Z Z Z Z Z Z Z Z zo (λy hy b6 off6 ro6 cs6 lx6 hb6 hp6 hrel6=>?_);obtain rfl:lx6=_:=hrel6;refine au ?_;refine AW.ret ⟨_,[],⟨_,_,⟨_,rfl,λG h0 s0=>bV (s0.has (p:=0) Z me) (cl hT rfl)⟩,⟨_,_,rfl,rfl,rfl⟩,rfl⟩,bU,rfl,y,true,rfl,λ_=>?_,λhb=>by cases hb⟩;rw[ha,hy]
  ·have h2:rn<=x.dot:=by simp at h2;omega
   refine au ?_;refine AW.ret ⟨_,[],⟨_,_,⟨_,rfl,λG h0 s0=>bV (s0.has (p:=0) Z me) (cl hT rfl)⟩,⟨_,_,rfl,rfl,rfl⟩,rfl⟩,bU,rfl,⟨false,0⟩,false,rfl,λhb=>(by cases hb),λ_=>?_⟩;rw[ha,S8];omega
inductive eT(g:af)(l:List Lr):Lr->Prop
 | base {x:Lr}:x∈l->eT g l x
 | more {x:Lr} {n k:Nat} {r:bz}:eT g l x->aR g x=some ⟨false,n⟩->g.rules[k]?=some r->r.left=n->eT g l ⟨k,0⟩
structure og(g:af)(l xs:List Lr):Prop where
 ad:∃ad:List Nat,xs=l++ad.map (λk=>⟨k,0⟩)/\ad.Nodup/\∀k∈ad,k<g.rules.length
 xf:∀x∈xs,eT g l x
def HF(g:af)(xs:List Lr)(x:Lr):Prop:=∀n k r,aR g x=some ⟨false,n⟩->g.rules[k]?=some r->r.left=n->(⟨k,0⟩:Lr)∈xs
theorem og.m5{g:af}{l xs:List Lr}(h:og g l xs):xs.length<=l.length+g.rules.length:=by
 obtain⟨ad,rfl,hn,hk⟩:=h.ad;have:=uS _ ad hn hk;rw[Rf,Rq];omega
theorem og.aA{g:af}{l xs:List Lr}(h:og g l xs)(hl:∀x∈l,x.aA<=g.rules.length):∀x∈xs,x.aA<=g.rules.length:=by
 obtain⟨ad,rfl,hn,hk⟩:=h.ad;intro x hx;rcases Rx.1 hx with h1 | h1
 ·exact hl x h1
 ·obtain⟨k,h2,rfl⟩:=Rg.1 h1;exact R9 (hk k h2)
theorem og.add{g:af}{l xs:List Lr}(h:og g l xs){x:Lr}(hx:x∈xs){n k:Nat}{r:bz}(h1:aR g x=some ⟨false,n⟩)(h2:g.rules[k]?=some r)(h3:r.left=n)(hno:(⟨k,0⟩:Lr)∉xs):og g l (xs++[⟨k,0⟩]):=by
 obtain⟨ad,e,hn,hk⟩:=h.ad;refine⟨⟨ad++[k],by rw[e];simp,?_,?_⟩,?_⟩
 ·rw[SD];refine⟨hn,by simp,λa ha b hb=>?_⟩;obtain rfl:b=k:=by simpa using hb
  rintro rfl;exact hno (by rw[e];exact R7 _ (Rg.2 ⟨_,ha,rfl⟩))
 ·intro a ha;rcases Rx.1 ha with ha | ha
  ·exact hk a ha
  ·obtain rfl:a=k:=by simpa using ha
   exact(gS h2).1
 ·intro y hy;rcases Rx.1 hy with hy | hy
  ·exact h.xf y hy
  ·obtain rfl:y=⟨k,0⟩:=by simpa using hy
   exact .more (h.xf x hx) h1 h2 h3
theorem og.full{g:af}{l xs:List Lr}(h:og g l xs)(hf:∀x∈xs,HF g xs x)(x:Lr):x∈xs↔eT g l x:=by
 refine⟨h.xf x,λhc=>?_⟩
 induction hc with
 | base h1=>obtain⟨ad,rfl,_⟩:=h.ad;exact R6 _ h1
 | more _ h2 h3 h4 ih=>exact hf _ ih _ _ _ h2 h3 h4
theorem HF.more{g:af}{xs:List Lr}{x y:Lr}(h:HF g xs x):HF g (xs++[y]) x:=λn k r h1 h2 h3=>R6 _ (h n k r h1 h2 h3)
structure PX where
 i:Nat
 xs:List Lr
 a:Option Addr
 c:Nat
 B:List (Nat×aD)
theorem qQ(F:ar)(g:af)(hg4:∀r∈g.rules,r.right.length<=100){a:Option Addr}{m c:Nat}(hr:bw bK F a m c g.rules)(hm:m<=100){b:Option Addr}{n d:Nat}{l:List Lr}(hl:bw dM F b n d l)(hn:n<=1000)(hok:∀x∈l,x.aA<=g.rules.length) :
  Abs.Spec CC 152 [.agg ⟨ai g a m c⟩,.slice b n d] F [] λF' v o=>o=[]/\∃a' m' c' zs,v=.slice a' m' c'/\bw dM F' a' m' c' zs/\m'<=n+m/\ij zs/\∀z,z∈zs↔eT g l z:=by
 have hml:=hr.len;have hll:=hl.len;unfold ai;refine Abs.Spec.fn (n:=65) Tryz.func152 rfl rfl λown=>?_;refine AW.seq (AW.du ?_);refine WT.cC Z Z Z Z Z Z (λi2 hi2=>?_);refine aj ?_;refine WT.lC Tryz.func193 Z Z Z Z Z Z (zH _ hl zo) (λF1 v B1 hF1 hv=>?_);obtain⟨ca,cc,rfl,hv⟩:=hv;have hr1:=hr.mono hF1;rw[hll] at hv;rw[hll];refine aj ?_;refine AW.block ?_;refine AW.cK (S:=PX) (λs=>[(6,.int .i64 (s.i:Nat)),(5,.slice s.a s.xs.length s.c)]) (λs=>s.B::[(i2,.cells false [.int .i64 g.ae,.int .i64 g.ak,.int .i64 g.start,.slice a m c])]::own)
  (λs G=>dC dM G s.a s.xs.length s.c s.B s.xs/\og g l s.xs/\s.i<=s.xs.length/\∀x∈s.xs.take s.i,HF g s.xs x) (λs=>n+m-s.i) ⟨0,l,ca,cc,B1⟩
  sM oR ⟨hv,⟨⟨[],by simp,Te,by simp⟩,λx hx=>.base hx⟩,RC _,by simp⟩ ?_
 intro s F2 hF2 hP;obtain⟨hv2,hci,hil,hfed⟩:=hP;have hr2:=hr1.mono hF2;have hfew:=hci.m5;have hrule:=hci.aA hok;refine aj ?_;refine AW.cond Z (λh=>?_) (λh=>?_)
 ·have h:s.i<s.xs.length:=by simpa using h
  obtain⟨x,hx⟩:∃x,s.xs[s.i]?=some x:=⟨_,gE h⟩;have hxm:=gM hx;have hxr:=hrule x hxm;refine aj ?_;refine AW.block ?_;refine aj ?_;refine AW.draw (ps:=[(0,9),(4,9)]) Z Z ?_;refine aj ?_;refine WT.be hT hv2 Z Z Z Z Z Z Z Z Z h (λb5 hb5=>?_);refine WT.cz hT 0 hv2 hb5 hx Z Z Z Z Z Z Z Z Z (λl hl=>?_);obtain rfl:l=_:=hl;refine WT.bN Tryz.func150 Z Z Z Z Z Z (lY _ g hg4 hr2 zo x zo) (λv hv=>?_);obtain⟨y,bo,rfl,hay,han⟩:=hv;refine aj ?_;refine WT.aI hT Z Z Z Z Z Z (λi7 hi7=>?_);refine aj ?_;obtain⟨jb,jcs,hja,hjB,_,_⟩:=hv2.at_ hx
  have hmb:(b5,aD.cells false jcs)∈s.B:=by
   rw[hjB];rw[hb5] at hja;cases hja;exact Rl ..
  refine⟨PV,?_⟩;refine aj ?_;have hnext:∀xs',s.xs.length<=xs'.length->xs'.take s.i=s.xs.take s.i->xs'[s.i]?=some x->(∀z∈s.xs.take s.i,HF g xs' z)->HF g xs' x->∀z∈xs'.take (s.i+1),HF g xs' z:=λxs' _ e1 e2 h1 h2 z hz=>by
   rw[Rk,e1,e2] at hz;rcases Rx.1 hz with hz | hz
   ·exact h1 z hz
   ·obtain rfl:z=x:=by simpa using hz
    exact h2
  have hskip:HF g s.xs x->∀z∈s.xs.take (s.i+1),HF g s.xs z:=λh=>hnext s.xs (AS _) rfl hx hfed h;cases bo
  ·have han:=han rfl;refine aj ?_;refine AW.cond Z (λ_=>?_) (λh=>(by cases h));refine AW.exit ?_;refine aj ?_;exact⟨⟨s.i+1,s.xs,s.a,s.c,s.B⟩,by dsimp only;omega,sM,cy,hv2,hci,h,hskip (λn k r h1 _ _=>by rw[han] at h1;cases h1)⟩
  have hay:=hay rfl;refine aj ?_;refine AW.cond Z (λh3=>?_) (λh3=>?_)
  ·have h3:y.term=true:=by simpa using h3
   refine AW.exit ?_;refine aj ?_;exact⟨⟨s.i+1,s.xs,s.a,s.c,s.B⟩,by dsimp only;omega,sM,cy,hv2,hci,h,hskip (λn k r h1 _ _=>by rw[hay] at h1;injection h1 with h1;rw[h1] at h3;cases h3)⟩
  have h3:y.term=false:=by simpa using h3
  have hay2:aR g x=some ⟨false,y.n⟩:=by rw[hay,<-h3]
  refine aj ?_;refine AW.range (S:=PX) (λu=>[(5,.slice u.a u.xs.length u.c)]) (λu=>[(i7,.cells false [.bool y.term,.int .i64 y.n])]::u.B::[(i2,.cells false [.int .i64 g.ae,.int .i64 g.ak,.int .i64 g.start,.slice a m c])]::own)
   (λk u G=>dC dM G u.a u.xs.length u.c u.B u.xs/\og g l u.xs/\s.xs.length<=u.xs.length/\u.xs.take s.i=s.xs.take s.i/\u.xs[s.i]?=some x/\(∀z∈s.xs.take s.i,HF g u.xs z)/\∀k' r,k'<k->g.rules[k']?=some r->r.left=y.n->(⟨k',0⟩:Lr)∈u.xs) m ⟨0,s.xs,s.a,s.c,s.B⟩
   Z Z Z Z Z Z Z Z Z zo rfl rfl (λ_=>rfl) (λ_=>rfl) sM oR ⟨hv2,hci,AS _,rfl,hx,hfed,λk' r h=>absurd h (Tr _)⟩ ?_ ?_
  ·intro j u F3 hF3 hj hP;obtain⟨hvu,hcu,hlu,htu,hxu,hfu,hku⟩:=hP;have hr3:=hr2.mono hF3;have hfewu:=hcu.m5;have hxum:=gM hxu;refine aj ?_;refine WT.bG hT hr3 Z Z Z Z Z Z Z Z Z zo (λr hrj b8 off8 ro8 cs8 lx8 hb8 hp8 hrel8=>?_);obtain⟨ra,rn,rc,rfl,hra⟩:=hrel8;refine aj ?_;refine WT.aI hT Z Z Z Z Z Z (λi10 hi10=>?_);refine aj ?_;refine WT.aI hT Z Z Z Z Z Z (λi11 hi11=>?_);refine aj ?_;refine WT.split 50 Z (λh4=>?_) (λh4=>?_)
   ·have h4:r.left=y.n:=by simp at h4;omega
    refine aj ?_;refine WT.eK 3 Tryz.func194 Z Z Z Z Z Z Z (λG hG hBG=>uv G (hvu.arr hG hBG) zo ⟨j,0⟩) (λv hv=>?_);subst hv;refine aj ?_;refine AW.cond Z (λh5=>?_) (λh5=>?_)
    ·have h5:(⟨j,0⟩:Lr)∉u.xs:=by simpa using h5
     refine aj ?_;have hbu:=hvu.Qa (λe=>by rw[e] at hxum;cases hxum);refine WT.bd hT Z Z Z Z Z Z Z Z Z Z Z Z Z Z (λi12 hi12=>?_);refine WT.bP (ys:=[(⟨j,0⟩:Lr)]) hT 4 hbu Z (λ_=>rfl) Z Z Z Z Z Z Z Z Z Z Z (λh0 s0=>bh hT s0 0 Z Z Z Z) (aF.single (R:=dM) (x:=(⟨j,0⟩:Lr)) rfl) Z (by decide) kq (λa3 c3 B3 hB3=>?_);have hl2:u.xs.length+1=(u.xs++[(⟨j,0⟩:Lr)]).length:=by simp
     rw[hl2] at hB3 ⊢;refine aj ?_;have hil2:s.i<u.xs.length:=by omega
     refine⟨⟨0,u.xs++[⟨j,0⟩],a3,c3,B3⟩,sM,cy,hB3.vec,hcu.add hxum hay2 hrj h4 h5,by simp;omega,?_,?_,λz hz=>(hfu z hz).more,λk' r' h1 h2 h3=>?_⟩
     ·show (u.xs++[_]).take s.i=_;rw[SO zo,htu]
     ·show (u.xs++[_])[s.i]?=_;rw[Rj hil2,hxu]
     ·rcases Rw k' j with h6 | h6
      ·exact R6 _ (hku k' r' h6 h2 h3)
      ·obtain rfl:k'=j:=by omega
       exact R7 _ me
    ·have h5:(⟨j,0⟩:Lr)∈u.xs:=by simpa using h5
     refine aj ?_;refine⟨u,sM,cy,hvu,hcu,hlu,htu,hxu,hfu,λk' r' h1 h2 h3=>?_⟩;rcases Rw k' j with h6 | h6
     ·exact hku k' r' h6 h2 h3
     ·obtain rfl:k'=j:=by omega
      exact h5
   ·have h4:r.left≠y.n:=by simp at h4;omega
    refine aj ?_;refine AW.cond Z (λh=>(by cases h)) (λ_=>?_);refine aj ?_;refine⟨u,sM,cy,hvu,hcu,hlu,htu,hxu,hfu,λk' r' h1 h2 h3=>?_⟩;rcases Rw k' j with h6 | h6
    ·exact hku k' r' h6 h2 h3
    ·obtain rfl:k'=j:=by omega
     rw[hrj] at h2;cases h2;exact absurd h3 h4
  ·intro u F3 hF3 hP;obtain⟨hvu,hcu,hlu,htu,hxu,hfu,hku⟩:=hP;have hfewu:=hcu.m5;refine aj ?_;refine⟨⟨s.i+1,u.xs,u.a,u.c,u.B⟩,by dsimp only;omega,sM,cy,hvu,hcu,by dsimp only;omega,hnext u.xs hlu htu hxu hfu (λn k r h1 h2 h3=>?_)⟩;rw[hay2] at h1;cases h1;have:=(gS h2).1;exact hku k r zo h2 h3
 ·have h:s.i=s.xs.length:=by simp at h;omega
  rw[h,S1] at hfed;have hfull:=hci.full hfed;refine AW.exit ?_;refine aj ?_;obtain⟨hp,hs⟩:=C0 II s.xs;have hsl:=hp.length_eq;refine WT.bW 0 Tryz.func195 Z Z Z Z Z Z Z (λ_=>rfl) (Ax _ (Bw _) hv2 zo) (λF7 v B7 hF7 hv7=>?_);refine aj ?_;refine WT.Es (oin:=[B7]) Tryz.func197 Z Z Z Z Z Z (vy F7 hv7 zo hs) (Rc _) (λF8 v oout hF8 hv8=>?_);obtain⟨rfl,a8,m8,c8,zs,rfl,hz,hzm,hst,hmem⟩:=hv8;refine aj ?_;refine AW.ret ⟨_,[],⟨_,_,rfl,rfl,rfl⟩,bU,rfl,a8,m8,c8,zs,rfl,hz,by omega,hst,λz=>?_⟩;rw[hmem,hp.mem_iff,hfull]
inductive GW(g:af):Nat->Prop
 | mk {r:bz}:r∈g.rules->(∀s∈r.right,s.term=false)->(∀s∈r.right,GW g s.n)->GW g r.left
def gG(g:af)(l:List Sym):Prop:=∀s∈l,s.term=false/\GW g s.n
inductive Ep(g:af):Nat->Nat->Prop
 | term {r:bz} {pre post:List Sym} {t:Nat}:r∈g.rules->r.right=pre++⟨true,t⟩::post->gG g pre->Ep g r.left t
 | ym {r:bz} {pre post:List Sym} {m t:Nat}:r∈g.rules->r.right=pre++⟨false,m⟩::post->gG g pre->Ep g m t->Ep g r.left t
def dj(g:af)(l:List Sym)(t:Nat):Prop:=∃pre s post,l=pre++s::post/\gG g pre/\(s=⟨true,t⟩\/(s.term=false/\Ep g s.n t))
theorem GW.of{g:af}{r:bz}(h:r∈g.rules)(h2:gG g r.right):GW g r.left:=.mk h (λs hs=>(h2 s hs).1) (λs hs=>(h2 s hs).2)
theorem Ep.of{g:af}{r:bz}{t:Nat}(h:r∈g.rules)(h2:dj g r.right t):Ep g r.left t:=by
 obtain⟨pre,s,post,e,hn,h3⟩:=h2;rcases h3 with rfl | ⟨h3,h4⟩
 ·exact .term h e hn
 ·obtain⟨b,n⟩:=s;obtain rfl:b=false:=h3;exact .ym h e hn h4
theorem gG.nil{g:af}:gG g []:=λ_ h=>by cases h
theorem gG.cons{g:af}{s:Sym}{l:List Sym}(h1:s.term=false)(h2:GW g s.n)(h:gG g l):gG g (s::l):=λx hx=>by
 rcases Rt.1 hx with rfl | hx
 ·exact⟨h1,h2⟩
 ·exact h x hx
theorem dj.head{g:af}{s:Sym}{l:List Sym}{t:Nat}(h:s=⟨true,t⟩\/(s.term=false/\Ep g s.n t)):dj g (s::l) t:=⟨[],s,l,rfl,gG.nil,h⟩
theorem dj.cons{g:af}{s:Sym}{l:List Sym}{t:Nat}(h1:s.term=false)(h2:GW g s.n)(h:dj g l t):dj g (s::l) t:=by
 obtain⟨pre,x,post,e,hn,h3⟩:=h;exact⟨s::pre,x,post,by rw[e];rfl,gG.cons h1 h2 hn,h3⟩
mutual
theorem bj.begin{g:af}{w:List Nat}:∀{t:Tree} {s:Sym} {i j:Nat},bj g w s t i j->(i=j->s.term=false/\GW g s.n)/\(i<j->∃c,w[i]?=some c/\(s=⟨true,c⟩\/(s.term=false/\Ep g s.n c)))
 | .mk _ _ _,_,i,_,.leaf h=>⟨λe=>by omega,λ_=>⟨_,h,.inl rfl⟩⟩
 | .mk _ _ ks,_,i,j,.node h h2=>by
  have hm:=gM h;obtain⟨h3,h4⟩:=aG.begin h2;refine⟨λe=>⟨rfl,.of hm (h3 e)⟩,λe=>?_⟩;obtain⟨c,hc,hb⟩:=h4 e;exact⟨c,hc,.inr ⟨rfl,.of hm hb⟩⟩
theorem aG.begin{g:af}{w:List Nat}:∀{ts:List Tree} {l:List Sym} {i j:Nat},aG g w l ts i j->(i=j->gG g l)/\(i<j->∃c,w[i]?=some c/\dj g l c)
 | [],_,i,_,.nil=>⟨λ_=>gG.nil,λe=>by omega⟩
 | t::ts,_,i,j,.cons (m:=m) h1 h2=>by
  have hle1:=(bj.le h1).1;have hle2:=(aG.le h2).1;obtain⟨a1,a2⟩:=bj.begin h1;obtain⟨b1,b2⟩:=aG.begin h2;refine⟨λe=>?_,λe=>?_⟩
  ·obtain⟨h3,h4⟩:=a1 zo;exact gG.cons h3 h4 (b1 zo)
  ·by_cases hm:i<m
   ·obtain⟨c,hc,h5⟩:=a2 hm;exact⟨c,hc,dj.head h5⟩
   ·obtain rfl:i=m:=by omega
    obtain⟨h3,h4⟩:=a1 rfl;obtain⟨c,hc,h5⟩:=b2 e;exact⟨c,hc,dj.cons h3 h4 h5⟩
end
def aX(g:af)(k:Nat):List Sym:=if k=g.rules.length then [⟨false,g.start⟩] else ((g.rules[k]?).map (·.right)).getD []
theorem cf{g:af}{k:Nat}{r:bz}(h:g.rules[k]?=some r):aX g k=r.right:=by
 unfold aX;rw[By (by have:=(gS h).1;omega),h];rfl
theorem eB{g:af}:aX g g.rules.length=[⟨false,g.start⟩]:=If rfl
theorem bq{g:af}{x:Lr}:aR g x=(aX g x.aA)[x.dot]?:=by
 unfold aR aX;split
 ·cases hd:x.dot with
  | zero=>rfl
  | succ d=>rfl
 ·cases h:g.rules[x.aA]? with
  | none=>rfl
  | some r=>rfl
def cD(g:af)(x:Lr):List Sym:=(aX g x.aA).drop (x.dot+1)
structure o7(g:af)(it:Nat->Lr->Prop)(la:Nat->Lr->Nat->Prop)(go:Nat->Sym->Option Nat):Prop where
 start:it 0 ⟨g.rules.length,0⟩
 zN:la 0 ⟨g.rules.length,0⟩ g.ae
 xf:∀{s:Nat} {x:Lr} {k:Nat} {r:bz},it s x->aR g x=some ⟨false,r.left⟩->g.rules[k]?=some r->it s ⟨k,0⟩
 fD:∀{s:Nat} {x:Lr} {k:Nat} {r:bz} {t u:Nat},it s x->la s x u->aR g x=some ⟨false,r.left⟩->g.rules[k]?=some r->(dj g (cD g x) t\/(gG g (cD g x)/\la s x t))->la s ⟨k,0⟩ t
 step:∀{s:Nat} {x:Lr} {y:Sym},it s x->aR g x=some y->∃s',go s y=some s'/\it s' ⟨x.aA,x.dot+1⟩/\∀t,la s x t->la s' ⟨x.aA,x.dot+1⟩ t
 back:∀{s s':Nat} {y:Sym} {k d:Nat},go s y=some s'->it s' ⟨k,d+1⟩->it s ⟨k,d⟩/\aR g ⟨k,d⟩=some y
 fill:∀{s:Nat} {k:Nat} {r:bz},it s ⟨k,0⟩->g.rules[k]?=some r->∃s',go s ⟨false,r.left⟩=some s'
 first:∀{s:Nat},it s ⟨g.rules.length,0⟩->s=0
 zero:∀{s:Nat} {y:Sym},go s y≠some 0
 PO:∀{x:Lr},it 0 x->x.dot=0
inductive Act where
 | no
 | shift (s:Nat)
 | red (k:Nat)
 | acc
deriving DecidableEq
inductive yh(g:af)(it:Nat->Lr->Prop)(la:Nat->Lr->Nat->Prop)(go:Nat->Sym->Option Nat)(s t:Nat):Act->Prop
 | shift {s':Nat}:t<g.ae->go s ⟨true,t⟩=some s'->yh g it la go s t (.shift s')
 | red {k:Nat} {r:bz}:g.rules[k]?=some r->it s ⟨k,r.right.length⟩->la s ⟨k,r.right.length⟩ t->yh g it la go s t (.red k)
 | acc:it s ⟨g.rules.length,1⟩->la s ⟨g.rules.length,1⟩ t->yh g it la go s t .acc
structure Oh(g:af)(it:Nat->Lr->Prop)(la:Nat->Lr->Nat->Prop)(go:Nat->Sym->Option Nat)(act:Nat->Nat->Act):Prop where
 all:∀{s t:Nat} {a:Act},yh g it la go s t a->act s t=a
 one:∀{s t:Nat},act s t≠.no->yh g it la go s t (act s t)
abbrev DC:=List Nat×List Tree
def mW(σ:List Nat):Nat:=σ.getLast?.getD 0
def Mq(g:af)(go:Nat->Sym->Option Nat)(act:Nat->Nat->Act)(t:Nat)(c:DC):DC:=match act (mW c.1) t with
 | .red k=>match g.rules[k]? with
  | some r=>(c.1.take (c.1.length-r.right.length)++[(go (mW (c.1.take (c.1.length-r.right.length))) ⟨false,r.left⟩).getD 0],
    c.2.take (c.2.length-r.right.length)++[.mk k 0 (c.2.drop (c.2.length-r.right.length))])
  | none=>c
 | _=>c
def lookW(g:af)(w:List Nat)(i:Nat):Nat:=(w[i]?).getD g.ae
inductive xq(g:af)(go:Nat->Sym->Option Nat)(w:List Nat):List Nat->List Tree->Nat->Prop
 | nil:xq g go w [0] [] 0
 | snoc {σ:List Nat} {τ:List Tree} {i j s s':Nat} {y:Sym} {T:Tree}:xq g go w (σ++[s]) τ i->go s y=some s'->bj g w y T i j->xq g go w (σ++[s]++[s']) (τ++[T]) j
theorem lH(σ:List Nat)(s:Nat):mW (σ++[s])=s:=by unfold mW;rw[List.getLast?_append];rfl
section
variable {g:af}{it:Nat->Lr->Prop}{la:Nat->Lr->Nat->Prop}{go:Nat->Sym->Option Nat}{act:Nat->Nat->Act}{w:List Nat}
inductive GU(g:af)(go:Nat->Sym->Option Nat)(act:Nat->Nat->Act)(w:List Nat)(a:DC×Nat):Nat->DC×Nat->Prop
 | refl:GU g go act w a 0 a
 | red {n:Nat} {c:DC} {i k:Nat}:GU g go act w a n (c,i)->act (mW c.1) (lookW g w i)=.red k->GU g go act w a (n+1) (Mq g go act (lookW g w i) c,i)
 | shift {n:Nat} {c:DC} {i t s':Nat}:GU g go act w a n (c,i)->w[i]?=some t->act (mW c.1) t=.shift s'->GU g go act w a n ((c.1++[s'],c.2++[.mk (-1) t []]),i+1)
theorem GU.trans{a b c:DC×Nat}{n m:Nat}(h1:GU g go act w a n b)(h2:GU g go act w b m c):GU g go act w a (n+m) c:=by
 induction h2 with
 | refl=>exact h1
 | red h3 h4 ih=>exact .red ih h4
 | shift h3 h4 h5 ih=>exact .shift ih h4 h5
def kK(g:af)(la:Nat->Lr->Nat->Prop)(s:Nat)(x:Lr)(t:Nat):Prop:=dj g (cD g x) t\/(gG g (cD g x)/\la s x t)
theorem ll{i t:Nat}(h:w[i]?=some t):lookW g w i=t:=by unfold lookW;rw[h];rfl
mutual
theorem bj.run(ok:o7 g it la go)(on:Oh g it la go act)(hw:∀t∈w,t<g.ae):∀{T:Tree} {X:Sym} {i j:Nat},bj g w X T i j->∀{σ:List Nat} {τ:List Tree} {x:Lr},it (mW σ) x->(∃u,la (mW σ) x u)->aR g x=some X->kK g la (mW σ) x (lookW g w j)->
  ∃s' n,go (mW σ) X=some s'/\n<=T.pre.length/\GU g go act w ((σ,τ),i) n ((σ++[s'],τ++[T]),j)
 | .mk _ t _,_,i,_,.leaf h,σ,τ,x,hx,_,ha,_=>by
  obtain⟨s',h1,h2,h3⟩:=ok.step hx ha;have hact:=on.all (.shift (hw t (gM h)) h1);exact⟨s',0,h1,RC _,.shift (c:=(σ,τ)) .refl h hact⟩
 | .mk _ _ ks,_,i,j,.node (k:=k) (r:=r) h h2,σ,τ,x,hx,⟨u,hu⟩,ha,hal=>by
  obtain⟨s',h3,_,_⟩:=ok.step hx ha;have hk0:=ok.xf hx ha h;have hk1:=ok.fD (t:=lookW g w j) hx hu ha h hal;obtain⟨σ',n,e1,e2,e3,e4,e5⟩:=aG.run ok on hw h2 (σ:=σ) (τ:=τ) (k:=k) (d:=0) (r:=r) h hk0 hk1 (RC _) rfl;have hact:=on.all (.red h e2 e3);refine⟨s',n+1,h3,?_,?_⟩
  ·show n+1<=((k:Int)::Fu ks).length;rw[RG];omega
  ·have hred:=GU.red e5 hact;have hsl:σ'.length=r.right.length:=by rw[e1,aG.len h2]
   have e:Mq g go act (lookW g w j) (σ++σ',τ++ks)=(σ++[s'],τ++[.mk k 0 ks]):=by
    unfold Mq;dsimp only;rw[hact];dsimp only;rw[h];dsimp only;have e7:(σ++σ').length-r.right.length=σ.length:=by rw[Rf,hsl];omega
    have e8:(τ++ks).length-r.right.length=τ.length:=by rw[Rf,aG.len h2];omega
    rw[e7,e8,List.take_left,List.take_left,List.drop_left,h3];rfl
   rw[e] at hred;exact hred
theorem aG.run(ok:o7 g it la go)(on:Oh g it la go act)(hw:∀t∈w,t<g.ae):∀{ts:List Tree} {l:List Sym} {i j:Nat},aG g w l ts i j->∀{σ:List Nat} {τ:List Tree} {k d:Nat} {r:bz},g.rules[k]?=some r->it (mW σ) ⟨k,d⟩->la (mW σ) ⟨k,d⟩ (lookW g w j)->d<=r.right.length->r.right.drop d=l->
  ∃σ' n,σ'.length=ts.length/\it (mW (σ++σ')) ⟨k,r.right.length⟩/\la (mW (σ++σ')) ⟨k,r.right.length⟩ (lookW g w j)/\n<=(Fu ts).length/\GU g go act w ((σ,τ),i) n ((σ++σ',τ++ts),j)
 | [],_,i,_,.nil,σ,τ,k,d,r,hk,hit,hla,hdl,hd=>by
  obtain rfl:d=r.right.length:=by have:=List.drop_eq_nil_iff.1 hd;omega
  refine⟨[],0,rfl,?_,?_,RC _,?_⟩
  ·rw[R0];exact hit
  ·rw[R0];exact hla
  ·rw[R0,R0];exact .refl
 | T::ts,s::l,i,j,.cons (m:=m) h1 h2,σ,τ,k,d,r,hk,hit,hla,hdl,hd=>by
  have hd1:r.right[d]?=some s:=by rw[<-List.head?_drop,hd];rfl
  have hd2:r.right.drop (d+1)=l:=by rw[<-List.tail_drop,hd];rfl
  have hdlt:=(gS hd1).1;have haf:aR g ⟨k,d⟩=some s:=by rw[bq];show (aX g k)[d]?=_;rw[cf hk];exact hd1
  have hrest:cD g ⟨k,d⟩=l:=by unfold cD;show (aX g k).drop (d+1)=_;rw[cf hk];exact hd2
  obtain⟨b1,b2⟩:=aG.begin h2;have hle:=(aG.le h2).1;have hal:kK g la (mW σ) ⟨k,d⟩ (lookW g w m):=by
   unfold kK;rw[hrest];by_cases hm:m<j
   ·obtain⟨c,hc,h5⟩:=b2 hm;rw[ll hc];exact .inl h5
   ·obtain rfl:m=j:=by omega
    exact .inr ⟨b1 rfl,hla⟩
  obtain⟨s',n1,e1,e2,e3⟩:=bj.run ok on hw h1 hit ⟨_,hla⟩ haf hal;obtain⟨s2,f1,f2,f3⟩:=ok.step hit haf;rw[e1] at f1;obtain rfl:=AT f1;obtain⟨σ',n2,g1,g2,g3,g4,g5⟩:=aG.run ok on hw h2 (σ:=σ++[s']) (τ:=τ++[T]) (k:=k) (d:=d+1) (r:=r) hk (by rw[lH];exact f2) (by rw[lH];exact f3 _ hla) hdlt hd2;have e:∀x:List Nat,σ++[s']++x=σ++(s'::x):=λx=>by simp
  have e':∀x:List Tree,τ++[T]++x=τ++(T::x):=λx=>by simp
  rw[e] at g2 g3 g5;rw[e'] at g5;refine⟨s'::σ',n1+n2,by rw[RG,g1];rfl,g2,g3,?_,e3.trans g5⟩;show _<=(T.pre++Fu ts).length;rw[Rf];omega
end
end
theorem ij.Ii{l:List Lr}(h:ij l):l.Nodup:=
 List.Pairwise.imp (λ{a b} hab e=>by subst e;rw[jW] at hab;omega) h
theorem oo{l1 l2:List Lr}(h1:ij l1)(h2:ij l2)(h:∀z,z∈l1↔z∈l2):l1=l2:=
 List.Perm.eq_of_pairwise (le:=λx y=>pI x y=true) (λa b _ _ h1 h2=>by rw[jW] at h1 h2;omega) h1 h2 ((Tk h1.Ii h2.Ii).2 h)
def rr(g:af):List Lr:=((List.range (g.rules.length+1)).map λk=>(List.range ((aX g k).length+1)).map λd=>(⟨k,d⟩:Lr)).flatten
theorem xP{g:af}{z:Lr}:z∈rr g↔z.aA<=g.rules.length/\z.dot<=(aX g z.aA).length:=by
 unfold rr;rw[Up];constructor
 ·rintro⟨l,hl,hz⟩;obtain⟨k,hk,rfl⟩:=Rg.1 hl;obtain⟨d,hd,rfl⟩:=Rg.1 hz;rw[Rm] at hk hd;exact⟨by dsimp only;omega,by dsimp only;omega⟩
 ·rintro⟨h1,h2⟩;exact⟨_,Rg.2 ⟨z.aA,Rm.2 zo,rfl⟩,Rg.2 ⟨z.dot,Rm.2 zo,rfl⟩⟩
theorem nV{α:Type}{R:α->α->Prop}{f:Nat->α}:∀{n:Nat},(∀i j,i<j->j<n->R (f i) (f j))->((List.range n).map f).Pairwise R:=by
 intro n h;rw[List.pairwise_map];refine List.Pairwise.imp_of_mem ?_ (List.pairwise_lt_range);intro a b ha hb hab;exact h a b hab (Rm.1 hb)
theorem zV(g:af):ij (rr g):=by
 unfold rr ij;rw[List.pairwise_flatten];refine⟨λl hl=>?_,?_⟩
 ·obtain⟨k,_,rfl⟩:=Rg.1 hl;exact nV λi j h _=>jW.2 (.inr ⟨rfl,h⟩)
 ·refine nV λi j h _ x hx y hy=>?_;obtain⟨_,_,rfl⟩:=Rg.1 hx;obtain⟨_,_,rfl⟩:=Rg.1 hy;exact jW.2 (.inl h)
noncomputable def fD(g:af)(l:List Lr):List Lr:=(rr g).filter λz=>@decide (eT g l z) (Classical.propDecidable _)
theorem mM(g:af)(l:List Lr):ij (fD g l):=R1 _ (zV g)
def jK(g:af)(x:Lr):Prop:=x.aA<=g.rules.length/\x.dot<=(aX g x.aA).length
theorem eT.QB{g:af}{l:List Lr}(hl:∀x∈l,jK g x){x:Lr}(h:eT g l x):jK g x:=by
 induction h with
 | base h=>exact hl _ h
 | more _ _ h _ _=>exact⟨R9 (gS h).1,RC _⟩
theorem di{g:af}{l:List Lr}(hl:∀x∈l,jK g x){z:Lr}:z∈fD g l↔eT g l z:=by
 unfold fD;rw[Ra,xP];constructor
 ·rintro⟨_,h⟩;exact @of_decide_eq_true _ (Classical.propDecidable _) h
 ·intro h;exact⟨h.QB hl,@decide_eq_true _ (Classical.propDecidable _) h⟩
theorem AZ{g:af}{l zs:List Lr}(hl:∀x∈l,jK g x)(h1:ij zs)(h2:∀z,z∈zs↔eT g l z):zs=fD g l:=
 oo h1 (mM g l) λz=>by rw[h2,di hl]
section
variable {α:Type}[DecidableEq α]
def c7(br:List α):Option α->List α×Int
 | none=>(br,-1)
 | some s=>if s∈br then (br,(br.idxOf s:Nat)) else (br++[s],(br.length:Nat))
def bQ:List α->List (Option α)->List α×List Int
 | br,[]=>(br,[])
 | br,o::os=>((bQ (c7 br o).1 os).1,(c7 br o).2::(bQ (c7 br o).1 os).2)
def mf(most:Nat)(step:α->List (Option α)):Nat->Nat->List α->List (List Int)->Option (List α×List (List Int))
 | 0,_,_,_=>none
 | f+1,i,br,rows=>match br[i]? with
  | none=>some (br,rows)
  | some st=>if (bQ br (step st)).1.length<=most then mf most step f (i+1) (bQ br (step st)).1 (rows++[(bQ br (step st)).2]) else none
structure AU(br:List α)(os:List (Option α))(row:List Int):Prop where
 len:row.length=os.length
 no:∀k:Nat,os[k]?=some none->row[k]?=some (-1)
 yes:∀(k:Nat) (s:α),os[k]?=some (some s)->∃j:Nat,row[k]?=some (j:Int)/\br[j]?=some s
theorem Gx(br:List α)(o:Option α):(∃ex,(c7 br o).1=br++ex)/\(br.Nodup->(c7 br o).1.Nodup)/\(∀s∈(c7 br o).1,s∈br\/o=some s)/\
  (o=none->(c7 br o).2=-1)/\(∀s,o=some s->∃j:Nat,(c7 br o).2=(j:Int)/\(c7 br o).1[j]?=some s):=by
 cases o with
 | none=>exact⟨⟨[],(R0 _).symm⟩,λh=>h,λs h=>.inl h,λ_=>rfl,λs h=>by cases h⟩
 | some s=>
  unfold c7;by_cases h:s∈br
  ·simp only[If h];refine⟨⟨[],(R0 _).symm⟩,λh=>h,λs h=>.inl h,λh=>(by cases h),λs' e=>?_⟩;cases e;exact⟨_,rfl,by rw[gE (List.idxOf_lt_length_of_mem h),List.getElem_idxOf]⟩
  ·simp only[By h];refine⟨⟨[s],rfl⟩,λhn=>?_,λx hx=>?_,λh=>(by cases h),λs' e=>?_⟩
   ·rw[SD];exact⟨hn,by simp,λa ha b hb e=>h (by rw[Rh] at hb;subst hb;subst e;exact ha)⟩
   ·rcases Rx.1 hx with hx | hx
    ·exact .inl hx
    ·exact .inr (by rw[Rh.1 hx])
   ·cases e;exact⟨_,rfl,by rw[Rs (AS _),SV];rfl⟩
theorem k9:∀(os:List (Option α)) (br:List α),(∃ex,(bQ br os).1=br++ex)/\(br.Nodup->(bQ br os).1.Nodup)/\(∀s∈(bQ br os).1,s∈br\/some s∈os)/\AU (bQ br os).1 os (bQ br os).2
 | [],br=>⟨⟨[],(R0 _).symm⟩,λh=>h,λs h=>.inl h,⟨rfl,λk h=>by simp at h,λk s h=>by simp at h⟩⟩
 | o::os,br=>by
  obtain⟨⟨e1,h1⟩,h2,h3,h4,h5⟩:=Gx br o;obtain⟨⟨e2,g1⟩,g2,g3,g4⟩:=k9 os (c7 br o).1;have e:(bQ br (o::os))=((bQ (c7 br o).1 os).1,(c7 br o).2::(bQ (c7 br o).1 os).2):=rfl;rw[e];refine⟨⟨e1++e2,?_⟩,λhn=>g2 (h2 hn),λs hs=>?_,⟨?_,λk hk=>?_,λk s hk=>?_⟩⟩
  ·rw[g1,h1,RY]
  ·rcases g3 s hs with hs | hs
   ·rcases h3 s hs with hs | hs
    ·exact .inl hs
    ·exact .inr (by rw[hs];exact Rl ..)
   ·exact .inr (I9 _ hs)
  ·simp only[RG,g4.len]
  ·cases k with
   | zero=>simp only[Ul] at hk ⊢;rw[h4 (AT hk)]
   | succ k=>simp only[Tg] at hk ⊢;exact g4.no k hk
  ·cases k with
   | zero=>
    simp only[Ul] at hk ⊢;obtain⟨j,h6,h7⟩:=h5 s (AT hk);refine⟨j,by rw[h6],?_⟩;show (bQ (c7 br o).1 os).1[j]?=some s;rw[g1,Rj (gS h7).1];exact h7
   | succ k=>simp only[Tg] at hk ⊢;exact g4.yes k s hk
omit [DecidableEq α] in
theorem AU.more{br ex:List α}{os:List (Option α)}{row:List Int}(h:AU br os row):AU (br++ex) os row:=
 ⟨h.len,h.no,λk s hk=>let ⟨j,h1,h2⟩:=h.yes k s hk;⟨j,h1,by rw[Rj (gS h2).1];exact h2⟩⟩
structure n6(most:Nat)(step:α->List (Option α))(first:α)(i:Nat)(br:List α)(rows:List (List Int)):Prop where
 first:br[0]?=some first
 nodup:br.Nodup
 m5:br.length<=most
 len:rows.length=i
 le:i<=br.length
 row:∀(k:Nat) (st:α) (row:List Int),br[k]?=some st->rows[k]?=some row->AU br (step st) row
 from_:∀(j:Nat) (st:α),0<j->br[j]?=some st->∃(k:Nat) (sk:α),k<j/\k<i/\br[k]?=some sk/\some st∈step sk
theorem n6.next{most:Nat}{step:α->List (Option α)}{first:α}{i:Nat}{br:List α}{rows:List (List Int)}(h:n6 most step first i br rows){st:α}(hst:br[i]?=some st)(hm:(bQ br (step st)).1.length<=most) :
  n6 most step first (i+1) (bQ br (step st)).1 (rows++[(bQ br (step st)).2]):=by
 obtain⟨⟨ex,h1⟩,h2,h3,h4⟩:=k9 (step st) br;have hi:=(gS hst).1;have hleft:∀k,k<br.length->(bQ br (step st)).1[k]?=br[k]?:=λk hk=>by rw[h1,Rj hk]
 refine⟨by rw[hleft 0 zo];exact h.first,h2 h.nodup,hm,by rw[Rf,h.len];rfl,by rw[h1,Rf];omega,λk sk row hk hr=>?_,λj sj hj hsj=>?_⟩
 ·by_cases e:k<i
  ·rw[hleft k zo] at hk;rw[Rj (by rw[h.len];exact e)] at hr;have:=h.row k sk row hk hr;rw[h1];exact this.more
  ·have hk2:k=i:=by
    have:=(gS hr).1;rw[Rf,h.len,Sx] at this;omega
   subst hk2;rw[hleft k hi,hst] at hk;obtain rfl:=AT hk;rw[Rs (by rw[h.len];exact AS _),h.len,SV] at hr;obtain rfl:=AT hr;exact h4
 ·by_cases e:j<br.length
  ·rw[hleft j e] at hsj;obtain⟨k,sk,g1,g2,g3,g4⟩:=h.from_ j sj hj hsj;exact⟨k,sk,g1,by omega,by rw[hleft k zo];exact g3,g4⟩
  ·refine⟨i,st,by omega,by omega,by rw[hleft i hi];exact hst,?_⟩;rcases h3 sj (gM hsj) with h5 | h5
   ·exfalso;obtain⟨k,hk,hk2⟩:=R2 h5;have hnd:=h2 h.nodup;have e1:(bQ br (step st)).1[k]?=some sj:=by rw[hleft k hk,gE hk,hk2]
    have e2:=(gS hsj).1;have:=(List.getElem?_inj (by rw[h1,Rf];omega) hnd).1 (e1.trans hsj.symm);omega
   ·exact h5
omit [DecidableEq α] in
theorem n6.begin{most:Nat}(step:α->List (Option α))(first:α)(hm:1<=most):n6 most step first 0 [first] []:=
 ⟨rfl,by simp,hm,rfl,RC _,λk st row _ h=>by simp at h,λj st hj h=>by
  have:=(gS h).1;rw[Sx] at this;omega⟩
theorem yK{most:Nat}{step:α->List (Option α)}{first:α}:∀(f i:Nat) {br:List α} {rows:List (List Int)},n6 most step first i br rows->∀{sts' rows'},mf most step f i br rows=some (sts',rows')->n6 most step first sts'.length sts' rows'
 | 0,_,_,_,_,_,_,h=>by cases h
 | f+1,i,br,rows,hI,sts',rows',h=>by
  unfold mf at h;split at h
  ·rename_i hn;cases h;have:=S8.1 hn;have hle:=hI.le;have e:i=br.length:=by omega
   rw[<-e];exact hI
  ·rename_i st hst;split at h
   ·rename_i hm;exact yK f (i+1) (hI.next hst hm) h
   ·cases h
end
theorem n6.all{α:Type}{most:Nat}{step:α->List (Option α)}{first:α}{i:Nat}{br:List α}{rows:List (List Int)}(h:n6 most step first i br rows){P:α->Prop}(h0:P first)(hs:∀st s,P st->some s∈step st->P s):∀(j:Nat) (st:α),br[j]?=some st->P st:=by
 intro j
 induction j using Nat.strongRecOn with
 | _ j ih=>
  intro st hst;by_cases e:j=0
  ·subst e;rw[h.first] at hst
   obtain rfl:=AT hst;exact h0
  ·obtain⟨k,sk,h1,_,h3,h4⟩:=h.from_ j st zo hst;exact hs sk st (ih k h1 sk h3) h4
def ff(g:af)(st:List Lr)(y:Sym):List Lr:=st.filterMap λx=>if aR g x=some y then some ⟨x.aA,x.dot+1⟩ else none
theorem gu{g:af}{st:List Lr}{y:Sym}{z:Lr}:z∈ff g st y↔∃x∈st,aR g x=some y/\z=⟨x.aA,x.dot+1⟩:=by
 unfold ff;rw[T0];constructor
 ·rintro⟨x,hx,h⟩;split at h
  ·rename_i ha;exact⟨x,hx,ha,(AT h).symm⟩
  ·cases h
 ·rintro⟨x,hx,ha,rfl⟩;exact⟨x,hx,by rw[If ha]⟩
def cu(g:af):List Sym:=((List.range g.ae).map λt=>(⟨true,t⟩:Sym))++(List.range g.ak).map λn=>(⟨false,n⟩:Sym)
def D5(g:af)(y:Sym):Nat:=if y.term=true then y.n else y.n+g.ae
def L5(g:af)(y:Sym):Bool:=if y.term=true then decide (y.n<g.ae) else decide (y.n<g.ak)
theorem lI{g:af}{y:Sym}:L5 g y=true↔bZ g.ae g.ak y:=by
 unfold L5 bZ;split<;>simp
theorem fI(g:af):(cu g).length=g.ae+g.ak:=by unfold cu;simp
theorem qq{g:af}{y:Sym}(h:bZ g.ae g.ak y):(cu g)[D5 g y]?=some y:=by
 obtain⟨b,n⟩:=y;unfold cu D5;unfold bZ at h;cases b with
 | true=>
  have h:n<g.ae:=h;rw[If rfl,Rj (by simpa using h)];simp[h]
 | false=>
  have h:n<g.ak:=h;rw[By (by simp),Rs (by simp)];simp[h]
theorem Ch{g:af}{k:Nat}{y:Sym}(h:(cu g)[k]?=some y):bZ g.ae g.ak y/\D5 g y=k:=by
 unfold cu at h;by_cases hk:k<g.ae
 ·rw[Rj (by simpa using hk)] at h;simp[hk] at h;subst h;exact⟨hk,rfl⟩
 ·rw[Rs (by simp;omega)] at h;rw[Rq,S7,Re] at h;cases he:(List.range g.ak)[k-g.ae]? with
  | none=>rw[he] at h;cases h
  | some n=>
   rw[he] at h;obtain rfl:=AT h;have h1:=gS he;obtain⟨h1,h2⟩:=h1;rw[List.getElem_range] at h2;rw[S7] at h1;refine⟨show n<g.ak by omega,?_⟩;show n+g.ae=k;omega
theorem pO{g:af}(hg:Valid g){x:Lr}{y:Sym}(h:aR g x=some y):bZ g.ae g.ak y:=by
 rw[bq] at h;unfold aX at h;split at h
 ·have:=gM h;rw[Rh.1 this];exact hg.range.start
 ·cases hr:g.rules[x.aA]? with
  | none=>rw[hr] at h;simp at h
  | some r=>
   rw[hr] at h;exact(hg.right r (gM hr)).2.2 y (gM h)
theorem eT.zero{g:af}{l:List Lr}{z:Lr}(h:eT g l z):z∈l\/(z.dot=0/\z.aA<g.rules.length):=by
 cases h with
 | base h=>exact .inl h
 | more _ _ h _=>exact .inr ⟨rfl,(gS h).1⟩
structure gL(g:af)(I:List (List Lr))(rows:List (List Int)):Prop where
 len:rows.length=I.length
 ok:∀(s:Nat) (st:List Lr),I[s]?=some st->∀x∈st,jK g x
 zero:∃st,I[0]?=some st/\∀z,z∈st↔eT g [⟨g.rules.length,0⟩] z
 from_:∀(s:Nat) (st:List Lr),0<s->I[s]?=some st->∃l:List Lr,(∀x∈l,0<x.dot)/\l≠[]/\∀z,z∈st↔eT g l z
 row:∀(s:Nat) (st:List Lr) (row:List Int),I[s]?=some st->rows[s]?=some row->row.length=g.ae+g.ak
 no:∀(s k:Nat) (st:List Lr) (row:List Int) (y:Sym),I[s]?=some st->rows[s]?=some row->(cu g)[k]?=some y->ff g st y=[]->row[k]?=some (-1)
 yes:∀(s k:Nat) (st:List Lr) (row:List Int) (y:Sym),I[s]?=some st->rows[s]?=some row->(cu g)[k]?=some y->ff g st y≠[]->∃(j:Nat) (st':List Lr),row[k]?=some (j:Int)/\I[j]?=some st'/\∀z,z∈st'↔eT g (ff g st y) z
def lP(I:List (List Lr))(s:Nat)(x:Lr):Prop:=∃st,I[s]?=some st/\x∈st
def jm(g:af)(rows:List (List Int))(s:Nat)(y:Sym):Option Nat:=if L5 g y=true then (match rows[s]? with
 | some row=>(match row[D5 g y]? with
  | some j=>if 0<=j then some j.toNat else none
  | none=>none)
 | none=>none) else none
section
variable {g:af}{I:List (List Lr)}{rows:List (List Int)}
theorem gL.rowAt(h:gL g I rows){s:Nat}{st:List Lr}(hs:I[s]?=some st):∃row,rows[s]?=some row:=⟨_,gE (by rw[h.len];exact(gS hs).1)⟩
theorem gL.go(hg:Valid g)(h:gL g I rows){s:Nat}{st:List Lr}(hs:I[s]?=some st){y:Sym}(hy:bZ g.ae g.ak y) :
  (ff g st y=[]->jm g rows s y=none)/\(ff g st y≠[]->∃j st',jm g rows s y=some j/\I[j]?=some st'/\∀z,z∈st'↔eT g (ff g st y) z):=by
 obtain⟨row,hr⟩:=h.rowAt hs;have hk:=qq hy;unfold jm;rw[If (lI.2 hy),hr];dsimp only;refine⟨λe=>?_,λe=>?_⟩
 ·rw[h.no s _ st row y hs hr hk e];rfl
 ·obtain⟨j,st',h1,h2,h3⟩:=h.yes s _ st row y hs hr hk e;rw[h1];exact⟨j,st',by simp,h2,h3⟩
theorem gL.goes(hg:Valid g)(h:gL g I rows){s s':Nat}{y:Sym}(hgo:jm g rows s y=some s'):∃st st',I[s]?=some st/\I[s']?=some st'/\ff g st y≠[]/\∀z,z∈st'↔eT g (ff g st y) z:=by
 have hy:bZ g.ae g.ak y:=by
  unfold jm at hgo;split at hgo
  ·rename_i hb;exact lI.1 hb
  ·cases hgo
 obtain⟨st,hs⟩:∃st,I[s]?=some st:=by
  unfold jm at hgo;rw[If (lI.2 hy)] at hgo;split at hgo
  ·rename_i row hr;exact⟨_,gE (by rw[<-h.len];exact(gS hr).1)⟩
  ·cases hgo
 obtain⟨h1,h2⟩:=h.go hg hs hy;by_cases e:ff g st y=[]
 ·rw[h1 e] at hgo;cases hgo
 ·obtain⟨j,st',h3,h4,h5⟩:=h2 e;rw[hgo] at h3;obtain rfl:=AT h3;exact⟨st,st',hs,h4,e,h5⟩
theorem gL.lr(hg:Valid g)(h:gL g I rows){la:Nat->Lr->Nat->Prop}(h0:la 0 ⟨g.rules.length,0⟩ g.ae)
  (hc:∀{s:Nat} {x:Lr} {k:Nat} {r:bz} {t u:Nat},lP I s x->la s x u->aR g x=some ⟨false,r.left⟩->g.rules[k]?=some r->(dj g (cD g x) t\/(gG g (cD g x)/\la s x t))->la s ⟨k,0⟩ t)
  (hs:∀{s s':Nat} {x:Lr} {y:Sym},lP I s x->aR g x=some y->jm g rows s y=some s'->∀t,la s x t->la s' ⟨x.aA,x.dot+1⟩ t):o7 g (lP I) la (jm g rows):=by
 obtain⟨st0,hst0,hz⟩:=h.zero;have hall:∀{s:Nat} {st:List Lr},I[s]?=some st->∃l:List Lr,(∀z,z∈st↔eT g l z)/\((s=0/\l=[⟨g.rules.length,0⟩])\/∀x∈l,0<x.dot):=λ{s st} hst=>by
  rcases Tb s with rfl | hp
  ·rw[hst0] at hst;obtain rfl:=AT hst;exact⟨_,hz,.inl ⟨rfl,rfl⟩⟩
  ·obtain⟨l,h1,_,h3⟩:=h.from_ s st hp hst;exact⟨l,h3,.inr h1⟩
 exact {
  start:=⟨st0,hst0,(hz _).2 (.base me)⟩
  zN:=h0
  xf:=λ{s x k r} ⟨st,hst,hx⟩ ha hr=>by
   obtain⟨l,hl,_⟩:=hall hst;exact⟨st,hst,(hl _).2 (.more ((hl _).1 hx) ha hr rfl)⟩
  fD:=hc
  step:=λ{s x y} hit ha=>by
   obtain⟨st,hst,hx⟩:=id hit;have hm:(⟨x.aA,x.dot+1⟩:Lr)∈ff g st y:=gu.2 ⟨x,hx,ha,rfl⟩;obtain⟨j,st',h1,h2,h3⟩:=(h.go hg hst (pO hg ha)).2 (λe=>by rw[e] at hm;cases hm);exact⟨j,h1,⟨st',h2,(h3 _).2 (.base hm)⟩,hs hit ha h1⟩
  back:=λ{s s' y k d} hgo ⟨st2,hst2,hx⟩=>by
   obtain⟨st,st',h1,h2,_,h4⟩:=h.goes hg hgo;rw[h2] at hst2;obtain rfl:=AT hst2;rcases ((h4 _).1 hx).zero with h5 | ⟨h5,_⟩
   ·obtain⟨z,hz1,hz2,hz3⟩:=gu.1 h5;obtain⟨Z,zd⟩:=z;simp only[Lr.mk.injEq,Nat.add_right_cancel_iff] at hz3;obtain⟨rfl,rfl⟩:=hz3;exact⟨⟨st,h1,hz1⟩,hz2⟩
   ·exact absurd h5 (Nat.succ_ne_zero d)
  fill:=λ{s k r} ⟨st,hst,hx⟩ hr=>by
   obtain⟨l,hl,hl2⟩:=hall hst;have hk:=(gS hr).1;have hc:=(hl _).1 hx;cases hc with
   | base hb=>
    rcases hl2 with ⟨_,rfl⟩ | hl2
    ·have e:=Rh.1 hb;simp only[Lr.mk.injEq,Ui] at e;omega
    ·exact absurd (hl2 _ hb) (S4 0)
   | more h1 h2 h3 h4=>
    rw[hr] at h3;obtain rfl:=AT h3;subst h4;have hm:=gu.2 ⟨_,(hl _).2 h1,h2,rfl⟩;obtain⟨j,st',g1,_,_⟩:=(h.go hg hst (pO hg h2)).2 (λe=>by rw[e] at hm;cases hm);exact⟨j,g1⟩
  first:=λ{s} ⟨st,hst,hx⟩=>by
   obtain⟨l,hl,hl2⟩:=hall hst;rcases hl2 with ⟨h1,_⟩ | hl2
   ·exact h1
   ·rcases ((hl _).1 hx).zero with h3 | ⟨_,h3⟩
    ·exact absurd (hl2 _ h3) (S4 0)
    ·exact absurd h3 (S4 _)
  zero:=λ{s y} hgo=>by
   obtain⟨st,st',h1,h2,h3,h4⟩:=h.goes hg hgo;rw[hst0] at h2;obtain rfl:=AT h2;obtain⟨z,hzk⟩:=List.exists_mem_of_ne_nil _ h3;have hd:0<z.dot:=by obtain⟨x,_,_,rfl⟩:=gu.1 hzk;exact Nat.succ_pos _
   rcases ((hz z).1 ((h4 z).2 (.base hzk))).zero with h5 | ⟨h5,_⟩
   ·rw[Rh.1 h5] at hd;exact absurd hd (S4 0)
   ·omega
  PO:=λ{x} ⟨st,hst,hx⟩=>by
   rw[hst0] at hst;obtain rfl:=AT hst;rcases ((hz x).1 hx).zero with h5 | ⟨h5,_⟩
   ·rw[Rh.1 h5]
   ·exact h5 }
end
noncomputable def bC(P:Nat->Prop):Nat->Nat
 | 0=>0
 | n+1=>bC P n+(if @decide (P n) (Classical.propDecidable _)=true then 2 ^ n else 0)
theorem jR(P:Nat->Prop):∀n,bC P n<2 ^ n
 | 0=>Nat.one_pos
 | n+1=>by
  have:=jR P n;unfold bC;rw[Tv];split<;>omega
theorem gF(P:Nat->Prop):∀(n t:Nat),(bC P n).testBit t=true↔t<n/\P t
 | 0,t=>by unfold bC;simp
 | n+1,t=>by
  have h1:=jR P n;have h2:=gF P n t;unfold bC;by_cases e:t=n
  ·subst e;have h3:(bC P t).testBit t=false:=TI h1;split
   ·rename_i h;rw[TW,Nat.testBit_two_pow_add_eq,h3];simp only[To,true_iff];exact⟨SK _,@of_decide_eq_true _ (Classical.propDecidable _) h⟩
   ·rename_i h;rw[SJ,h3];simp only[SE,false_iff,not_and];exact λ_ hp=>h (@decide_eq_true _ (Classical.propDecidable _) hp)
  ·have h4:(t<n+1/\P t)↔(t<n/\P t):=⟨λ⟨a,b⟩=>⟨by omega,b⟩,λ⟨a,b⟩=>⟨by omega,b⟩⟩;rw[h4,<-h2];split
   ·by_cases e2:t<n
    ·rw[TW,Nat.testBit_two_pow_add_gt zo]
    ·have e3:n<t:=by omega
     have a1:(bC P n).testBit t=false:=TI (Nat.lt_trans h1 (TT (by decide) e3));have a2:(bC P n+2 ^ n).testBit t=false:=TI (by
      have:2 ^ (n+1)<=2 ^ t:=Rz (by decide) e3;rw[Tv] at this;omega)
     rw[a1,a2]
   ·rw[SJ]
structure bL where
 item:Lr
 set:Nat
deriving DecidableEq,Inhabited
def aP(l:List bL):List Lr:=l.map (·.item)
inductive Dp(g:af)(l:List bL):Lr->Nat->Prop
 | base {z:Lr} {m t:Nat}:⟨z,m⟩∈l->m.testBit t=true->t<=g.ae->Dp g l z t
 | CG {x:Lr} {k t:Nat} {r:bz}:eT g (aP l) x->aR g x=some ⟨false,r.left⟩->g.rules[k]?=some r->dj g (cD g x) t->Dp g l ⟨k,0⟩ t
 | pass {x:Lr} {k t:Nat} {r:bz}:eT g (aP l) x->aR g x=some ⟨false,r.left⟩->g.rules[k]?=some r->gG g (cD g x)->Dp g l x t->Dp g l ⟨k,0⟩ t
noncomputable def dr(g:af)(l:List bL):List bL:=(fD g (aP l)).map λz=>⟨z,bC (Dp g l z) (g.ae+1)⟩
theorem eC(g:af)(l:List bL):aP (dr g l)=fD g (aP l):=by
 unfold aP dr;rw[S3];have:(λx:bL=>x.item) ∘ (λz=>(⟨z,bC (Dp g l z) (g.ae+1)⟩:bL))=id:=rfl;rw[this,List.map_id];rfl
theorem va{g:af}{l:List bL}(hl:∀x∈aP l,jK g x){z:Lr}{m:Nat}:⟨z,m⟩∈dr g l↔eT g (aP l) z/\m=bC (Dp g l z) (g.ae+1):=by
 unfold dr;rw[Rg];constructor
 ·rintro⟨x,hx,e⟩;rw[di hl] at hx;simp only[bL.mk.injEq] at e;obtain⟨rfl,rfl⟩:=e;exact⟨hx,rfl⟩
 ·rintro⟨hz,rfl⟩;exact⟨z,(di hl).2 hz,rfl⟩
theorem Ep.lt{g:af}(hg:Valid g){n t:Nat}(h:Ep g n t):t<g.ae:=by
 induction h with
 | term hr e _=>
  have:=(hg.right _ hr).2.2 ⟨true,_⟩ (by rw[e];exact R7 _ me);exact this
 | ym _ _ _ _ ih=>exact ih
theorem dj.lt{g:af}(hg:Valid g){l:List Sym}(hl:∀s∈l,bZ g.ae g.ak s){t:Nat}(h:dj g l t):t<g.ae:=by
 obtain⟨pre,s,post,rfl,_,h3⟩:=h;rcases h3 with rfl | ⟨_,h4⟩
 ·exact hl _ (R7 _ me)
 ·exact h4.lt hg
theorem sS{g:af}(hg:Valid g)(k:Nat):∀s∈aX g k,bZ g.ae g.ak s:=by
 unfold aX;split
 ·intro s hs;rw[Rh.1 hs];exact hg.range.start
 ·cases h:g.rules[k]? with
  | none=>intro s hs;cases hs
  | some r=>exact(hg.right r (gM h)).2.2
theorem yZ{g:af}(hg:Valid g){x:Lr}{t:Nat}(h:dj g (cD g x) t):t<g.ae:=
 h.lt hg λs hs=>sS hg _ s (S2 hs)
theorem Dp.le{g:af}(hg:Valid g){l:List bL}{z:Lr}{t:Nat}(h:Dp g l z t):t<=g.ae:=by
 induction h with
 | base _ _ h=>exact h
 | CG _ _ _ h=>exact R9 (yZ hg h)
 | pass _ _ _ _ _ ih=>exact ih
theorem Dp.xf{g:af}{l:List bL}{z:Lr}{t:Nat}(h:Dp g l z t):eT g (aP l) z:=by
 cases h with
 | base h _ _=>exact .base (Rg.2 ⟨_,h,rfl⟩)
 | CG h1 h2 h3 _=>exact .more h1 h2 h3 rfl
 | pass h1 h2 h3 _ _=>exact .more h1 h2 h3 rfl
theorem AP{g:af}(hg:Valid g){l:List bL}(hl:∀x∈aP l,jK g x){z:Lr}{t:Nat}:(∃m,⟨z,m⟩∈dr g l/\m.testBit t=true)↔Dp g l z t:=by
 constructor
 ·rintro⟨m,hm,ht⟩;obtain⟨_,rfl⟩:=(va hl).1 hm;exact((gF _ _ _).1 ht).2
 ·intro h;exact⟨_,(va hl).2 ⟨h.xf,rfl⟩,(gF _ _ _).2 ⟨T9 (h.le hg),h⟩⟩
noncomputable def rG(g:af)(st:List Lr):List (Option (List Lr)):=(cu g).map λy=>if ff g st y=[] then none else some (fD g (ff g st y))
def jl(g:af)(st:List bL)(y:Sym):List bL:=st.filterMap λx=>if aR g x.item=some y then some ⟨⟨x.item.aA,x.item.dot+1⟩,x.set⟩ else none
noncomputable def yB(g:af)(st:List bL):List (Option (List bL)):=(cu g).map λy=>if jl g st y=[] then none else some (dr g (jl g st y))
noncomputable def lW(g:af):List Lr:=fD g [⟨g.rules.length,0⟩]
noncomputable def Ac(g:af):List bL:=dr g [⟨⟨g.rules.length,0⟩,2 ^ g.ae⟩]
noncomputable def kB(g:af):Option (List (List Lr)×List (List Int)):=mf 400 (rG g) 401 0 [lW g] []
noncomputable def I6(g:af):Option (List (List bL)×List (List Int)):=mf 400 (yB g) 401 0 [Ac g] []
theorem kH(g:af)(st:List bL)(y:Sym):aP (jl g st y)=ff g (aP st) y:=by
 unfold aP jl ff
 induction st with
 | nil=>rfl
 | cons a st ih=>
  rw[Na,List.filterMap_cons,List.filterMap_cons];by_cases h:aR g a.item=some y
  ·rw[If h,If h];simp only[Na,ih]
  ·rw[By h,By h];exact ih
theorem Gf{g:af}{st:List bL}{y:Sym}{z:Lr}{m:Nat}:⟨z,m⟩∈jl g st y↔∃x,⟨x,m⟩∈st/\aR g x=some y/\z=⟨x.aA,x.dot+1⟩:=by
 unfold jl;rw[T0];constructor
 ·rintro⟨⟨x,n⟩,hx,h⟩;split at h
  ·rename_i ha;have:=AT h;simp only[bL.mk.injEq] at this;obtain⟨rfl,rfl⟩:=this;exact⟨x,hx,ha,rfl⟩
  ·cases h
 ·rintro⟨x,hx,ha,rfl⟩;exact⟨⟨x,m⟩,hx,by rw[If ha]⟩
theorem fK{g:af}{st:List Lr}{y:Sym}:∀z∈ff g st y,jK g z/\0<z.dot:=by
 intro z hz;obtain⟨x,_,ha,rfl⟩:=gu.1 hz;rw[bq] at ha;have h2:=(gS ha).1;refine⟨⟨?_,h2⟩,Nat.succ_pos _⟩;show x.aA<=_;rcases Rw g.rules.length x.aA with h | h
 ·unfold aX at h2;rw[By zo,Ry zo] at h2;simp at h2
 ·exact h
theorem jk{g:af}:∀z∈[(⟨g.rules.length,0⟩:Lr)],jK g z:=by
 intro z hz;rw[Rh.1 hz];exact⟨AS _,RC _⟩
theorem oa{α β:Type}{f:α->β}{l:List α}{k:Nat}{a:α}(h:l[k]?=some a):(l.map f)[k]?=some (f a):=by rw[Re,h];rfl
theorem kY{g:af}{l:List Lr}:∀x∈fD g l,jK g x:=λx hx=>xP.1 (Ra.1 hx).1
theorem kf{g:af}{I:List (List Lr)}{rows:List (List Int)}(h:kB g=some (I,rows)):gL g I rows/\n6 400 (rG g) (lW g) I.length I rows:=by
 have hN:=yK 401 0 (n6.begin (rG g) (lW g) (by decide)) h;refine⟨?_,hN⟩;have hstep:∀(st:List Lr) (k:Nat) (y:Sym),(cu g)[k]?=some y->(rG g st)[k]?=some (if ff g st y=[] then none else some (fD g (ff g st y))):=λst k y hk=>oa hk;exact {
  len:=hN.len
  ok:=hN.all (P:=λst=>∀x∈st,jK g x) kY (λst s _ hs=>by
   obtain⟨y,_,hy⟩:=Rg.1 hs;split at hy
   ·cases hy
   ·obtain rfl:=AT hy;exact kY)
  zero:=⟨_,hN.first,λz=>di jk⟩
  from_:=λs st hp hs=>by
   obtain⟨k,sk,_,_,h3,h4⟩:=hN.from_ s st hp hs;obtain⟨y,_,hy⟩:=Rg.1 h4;split at hy
   ·cases hy
   ·rename_i hne;obtain rfl:=AT hy;exact⟨_,λx hx=>(fK x hx).2,hne,λz=>di λx hx=>(fK x hx).1⟩
  row:=λs st row hs hr=>by
   rw[(hN.row s st row hs hr).len];unfold rG;rw[Rq,fI]
  no:=λs k st row y hs hr hk he=>(hN.row s st row hs hr).no k (by rw[hstep st k y hk,If he])
  yes:=λs k st row y hs hr hk he=>by
   obtain⟨j,h1,h2⟩:=(hN.row s st row hs hr).yes k _ (by rw[hstep st k y hk,By he]);exact⟨j,_,h1,h2,λz=>di λx hx=>(fK x hx).1⟩ }
theorem su{g:af}{st:List bL}{y:Sym}:jl g st y=[]↔ff g (aP st) y=[]:=by
 rw[<-kH];unfold aP;exact List.map_eq_nil_iff.symm
theorem qV{g:af}{S:List (List bL)}{rows:List (List Int)}(h:I6 g=some (S,rows)):gL g (S.map aP) rows/\n6 400 (yB g) (Ac g) S.length S rows:=by
 have hN:=yK 401 0 (n6.begin (yB g) (Ac g) (by decide)) h;refine⟨?_,hN⟩;have hstep:∀(st:List bL) (k:Nat) (y:Sym),(cu g)[k]?=some y->(yB g st)[k]?=some (if jl g st y=[] then none else some (dr g (jl g st y))):=λst k y hk=>oa hk;have hat:∀{s:Nat} {st:List Lr},(S.map aP)[s]?=some st->∃sk,S[s]?=some sk/\st=aP sk:=λ{s st} hs=>by
  rw[Re] at hs;cases hk:S[s]? with
  | none=>rw[hk] at hs;cases hs
  | some sk=>rw[hk] at hs;exact⟨sk,rfl,(AT hs).symm⟩
 have hmem:∀(st:List bL) (y:Sym) (z:Lr),z∈aP (dr g (jl g st y))↔eT g (ff g (aP st) y) z:=λst y z=>by
  rw[eC,kH,di λx hx=>(fK x hx).1]
 exact {
  len:=by rw[Rq];exact hN.len
  ok:=λs st hs=>by
   obtain⟨sk0,hs0,rfl⟩:=hat hs;refine hN.all (P:=λst=>∀x∈aP st,jK g x) (λx hx=>?_) (λst s _ hs=>?_) s sk0 hs0
   ·unfold Ac at hx;rw[eC] at hx;exact kY x hx
   ·obtain⟨y,_,hy⟩:=Rg.1 hs;split at hy
    ·cases hy
    ·obtain rfl:=AT hy;intro x hx;rw[eC] at hx;exact kY x hx
  zero:=⟨_,oa hN.first,λz=>by
   show z∈aP (dr g _)↔_;rw[eC];exact di jk⟩
  from_:=λs st hp hs=>by
   obtain⟨sk0,hs0,rfl⟩:=hat hs;obtain⟨k,sk,_,_,h3,h4⟩:=hN.from_ s sk0 hp hs0;obtain⟨y,_,hy⟩:=Rg.1 h4;split at hy
   ·cases hy
   ·rename_i hne;obtain rfl:=AT hy;exact⟨_,λx hx=>(fK x hx).2,λe=>hne (su.2 e),hmem sk y⟩
  row:=λs st row hs hr=>by
   obtain⟨sk0,hs0,rfl⟩:=hat hs;rw[(hN.row s sk0 row hs0 hr).len];unfold yB;rw[Rq,fI]
  no:=λs k st row y hs hr hk he=>by
   obtain⟨sk0,hs0,rfl⟩:=hat hs;exact(hN.row s sk0 row hs0 hr).no k (by rw[hstep sk0 k y hk,If (su.2 he)])
  yes:=λs k st row y hs hr hk he=>by
   obtain⟨sk0,hs0,rfl⟩:=hat hs;obtain⟨j,h1,h2⟩:=(hN.row s sk0 row hs0 hr).yes k _ (by rw[hstep sk0 k y hk,By (λe=>he (su.1 e))]);exact⟨j,_,h1,oa h2,hmem sk0 y⟩ }
inductive yg(g:af):Nat->Prop
 | start:yg g g.start
 | more {r:bz} {m:Nat}:r∈g.rules->yg g r.left->⟨false,m⟩∈r.right->yg g m
inductive As(g:af):Nat->Nat->Prop
 | start:As g g.start g.ae
 | CG {r:bz} {pre post:List Sym} {m t:Nat}:r∈g.rules->yg g r.left->r.right=pre++⟨false,m⟩::post->dj g post t->As g m t
 | pass {r:bz} {pre post:List Sym} {m t:Nat}:r∈g.rules->yg g r.left->r.right=pre++⟨false,m⟩::post->gG g post->As g r.left t->As g m t
def pt(g:af)(k:Nat):Nat:=((g.rules[k]?).map (·.left)).getD 0
def nG(g:af)(x:Lr)(t:Nat):Prop:=if x.aA<g.rules.length then As g (pt g x.aA) t else t=g.ae
theorem lA{g:af}{k:Nat}{r:bz}(h:g.rules[k]?=some r):pt g k=r.left:=by unfold pt;rw[h];rfl
inductive rP(g:af)(I:List (List Lr))(rows:List (List Int)):Nat->Lr->Nat->Prop
 | start:rP g I rows 0 ⟨g.rules.length,0⟩ g.ae
 | goto {s s' t:Nat} {x:Lr} {y:Sym}:rP g I rows s x t->lP I s x->aR g x=some y->jm g rows s y=some s'->rP g I rows s' ⟨x.aA,x.dot+1⟩ t
 | N8 {x:Lr} {k t:Nat} {r:bz}:lP I 0 x->aR g x=some ⟨false,r.left⟩->g.rules[k]?=some r->dj g (cD g x) t->rP g I rows 0 ⟨k,0⟩ t
 | CG {s s' u t k:Nat} {v x:Lr} {y:Sym} {r:bz}:rP g I rows s v u->lP I s v->jm g rows s y=some s'->lP I s' x->aR g x=some ⟨false,r.left⟩->g.rules[k]?=some r->dj g (cD g x) t->rP g I rows s' ⟨k,0⟩ t
 | pass {s t k:Nat} {x:Lr} {r:bz}:rP g I rows s x t->lP I s x->aR g x=some ⟨false,r.left⟩->g.rules[k]?=some r->gG g (cD g x)->rP g I rows s ⟨k,0⟩ t
noncomputable def kJ(g:af)(I:List (List Lr))(la:Nat->Lr->Nat->Prop):List (List bL):=(List.range I.length).map λs=>(I.getD s []).map λx=>⟨x,bC (la s x) (g.ae+1)⟩
def qR(S:List (List bL))(s:Nat)(x:Lr)(t:Nat):Prop:=∃st m,S[s]?=some st/\⟨x,m⟩∈st/\m.testBit t=true
theorem ni{g:af}{I:List (List Lr)}{la:Nat->Lr->Nat->Prop}{s:Nat}:(kJ g I la)[s]?=(I[s]?).map λst=>st.map λx=>⟨x,bC (la s x) (g.ae+1)⟩:=by
 unfold kJ;rw[Re];by_cases h:s<I.length
 ·rw[SP h,gE h,RU,RU,BY,gE h];rfl
 ·rw[Ry (by simpa using h),Ry zo];rfl
theorem nu{g:af}{I:List (List Lr)}{la:Nat->Lr->Nat->Prop}:(kJ g I la).map aP=I:=by
 apply R5;intro s;rw[Re,ni];cases I[s]? with
 | none=>rfl
 | some st=>
  rw[RU,RU];congr 1;unfold aP;rw[S3];have:(λx:bL=>x.item) ∘ (λx=>(⟨x,bC (la s x) (g.ae+1)⟩:bL))=id:=rfl;rw[this,List.map_id]
theorem db{g:af}{I:List (List Lr)}{la:Nat->Lr->Nat->Prop}{s:Nat}{x:Lr}{t:Nat}:qR (kJ g I la) s x t↔lP I s x/\la s x t/\t<=g.ae:=by
 unfold qR lP;constructor
 ·rintro⟨st,m,h1,h2,h3⟩;rw[ni] at h1;cases hI:I[s]? with
  | none=>rw[hI] at h1;cases h1
  | some st0=>
   rw[hI] at h1;obtain rfl:=AT h1;obtain⟨z,hz,e⟩:=Rg.1 h2;simp only[bL.mk.injEq] at e;obtain⟨rfl,rfl⟩:=e;have:=(gF _ _ _).1 h3;exact⟨⟨st0,rfl,hz⟩,this.2,by omega⟩
 ·rintro⟨⟨st0,h1,h2⟩,h3,h4⟩;exact⟨_,_,by rw[ni,h1];rfl,Rg.2 ⟨x,h2,rfl⟩,(gF _ _ _).2 ⟨by omega,h3⟩⟩
theorem yT{g:af}{I:List (List Lr)}{rows:List (List Int)}(h:kB g=some (I,rows)):∀(s:Nat) (st:List Lr),I[s]?=some st->∀x∈st,x.aA<g.rules.length->yg g (pt g x.aA):=by
 obtain⟨hA,hN⟩:=kf h;have hclos:∀l:List Lr,(∀x∈l,x.aA<g.rules.length->yg g (pt g x.aA))->∀z,eT g l z->z.aA<g.rules.length->yg g (pt g z.aA):=by
  intro l hl z hz
  induction hz with
  | base h=>exact hl _ h
  | @more x n k r h1 h2 h3 h4 ih=>
   intro _;show yg g (pt g k);rw[lA h3,h4];rw[bq] at h2;unfold aX at h2;split at h2
   ·have:=Rh.1 (gM h2);simp only[Sym.mk.injEq,true_and] at this;subst this;exact .start
   ·cases hr:g.rules[x.aA]? with
    | none=>rw[hr] at h2;simp at h2
    | some r2=>
     rw[hr] at h2;have h5:=ih (gS hr).1;rw[lA hr] at h5;exact .more (gM hr) h5 (gM h2)
 refine hN.all (P:=λst=>∀x∈st,x.aA<g.rules.length->yg g (pt g x.aA)) (λx hx=>?_) (λst s hst hs=>?_)
 ·refine hclos _ (λy hy hlt=>?_) x ((di jk).1 hx);rw[Rh.1 hy] at hlt;exact absurd hlt (S4 _)
 ·obtain⟨y,_,hy⟩:=Rg.1 hs;split at hy
  ·cases hy
  ·obtain rfl:=AT hy;intro x hx;refine hclos _ (λz hz=>?_) x ((di λz hz=>(fK z hz).1).1 hx);obtain⟨q,hq,_,rfl⟩:=gu.1 hz;exact hst q hq
theorem IL{g:af}{k d:Nat}{r:bz}{y:Sym}(hr:g.rules[k]?=some r)(h:aR g ⟨k,d⟩=some y):r.right=r.right.take d++y::cD g ⟨k,d⟩:=by
 rw[bq] at h;have h:(aX g k)[d]?=some y:=h;have e:cD g ⟨k,d⟩=(aX g k).drop (d+1):=rfl;rw[e,cf hr];rw[cf hr] at h;obtain⟨h1,h2⟩:=gS h;rw[<-h2,<-RX h1,Si]
theorem CB{g:af}{d:Nat}{y:Sym}(h:aR g ⟨g.rules.length,d⟩=some y):y=⟨false,g.start⟩/\d=0/\cD g ⟨g.rules.length,d⟩=[]:=by
 rw[bq] at h;have h:(aX g g.rules.length)[d]?=some y:=h;rw[eB] at h;cases d with
 | zero=>
  refine⟨(AT h).symm,rfl,?_⟩;show (aX g g.rules.length).drop 1=[];rw[eB];rfl
 | succ d=>simp at h
theorem MZ{g:af}(hg:Valid g){I:List (List Lr)}{rows:List (List Int)}(h:kB g=some (I,rows)):o7 g (lP I) (qR (kJ g I λ_=>nG g)) (jm g rows):=by
 obtain⟨hA,hN⟩:=kf h;obtain⟨st0,hst0,hz⟩:=hA.zero;refine hA.lr hg (db.2 ⟨⟨st0,hst0,(hz _).2 (.base me)⟩,?_,AS _⟩) ?_ ?_
 ·unfold nG;rw[By (S4 _)]
 ·intro s x k r t u hit hu ha hr hb;rw[db];obtain⟨st,hst,hx⟩:=hit;have hk:=(gS hr).1;obtain⟨xr,xd⟩:=x;have hit2:lP I s ⟨k,0⟩:=by
   rcases Tb s with rfl | hp
   ·rw[hst0] at hst;obtain rfl:=AT hst;exact⟨_,hst0,(hz _).2 (.more ((hz _).1 hx) ha hr rfl)⟩
   ·obtain⟨l,_,_,h3⟩:=hA.from_ s st hp hst;exact⟨st,hst,(h3 _).2 (.more ((h3 _).1 hx) ha hr rfl)⟩
  have hfol:nG g ⟨k,0⟩ t:=by
   unfold nG;rw[If hk,lA hr];by_cases hxr:xr<g.rules.length
   ·have hr2:=gE hxr;generalize g.rules[xr]=r2 at hr2;have hm2:=gM hr2;have hre:=yT h s st hst _ hx hxr;have hre:yg g (pt g xr):=hre;rw[lA hr2] at hre;have hsp:=IL hr2 ha;rcases hb with hb | ⟨hb1,hb2⟩
    ·exact .CG hm2 hre hsp hb
    ·have h5:=(db.1 hb2).2.1;unfold nG at h5;rw[If hxr] at h5;have h5:As g (pt g xr) t:=h5;rw[lA hr2] at h5;exact .pass hm2 hre hsp hb1 h5
   ·have hxe:xr=g.rules.length:=by
     have:=(bq (g:=g) (x:=⟨xr,xd⟩)).symm.trans ha;have h2:(aX g xr)[xd]?=some ⟨false,r.left⟩:=this;rcases Rw g.rules.length xr with h3 | h3
     ·unfold aX at h2;rw[By zo,Ry (l:=g.rules) (i:=xr) zo] at h2;simp at h2
     ·omega
    subst hxe;obtain⟨h1,_,h3⟩:=CB ha;simp only[Sym.mk.injEq,true_and] at h1;rw[h1];rcases hb with hb | ⟨_,hb2⟩
    ·rw[h3] at hb;obtain⟨pre,s1,post,e,_⟩:=hb;exact absurd (congrArg List.length e) (by simp)
    ·have h5:=(db.1 hb2).2.1;unfold nG at h5;rw[By (S4 _)] at h5;rw[h5];exact .start
  refine⟨hit2,hfol,?_⟩;rcases hb with hb | ⟨_,hb2⟩
  ·exact R9 (yZ hg hb)
  ·exact(db.1 hb2).2.2
 ·intro s s' x y hit ha hgo t ht;obtain⟨_,h2,h3⟩:=db.1 ht;obtain⟨st,st',h4,h5,_,h6⟩:=hA.goes hg hgo;obtain⟨st2,h7,hx⟩:=hit;rw[h4] at h7;obtain rfl:=AT h7;exact db.2 ⟨⟨st',h5,(h6 _).2 (.base (gu.2 ⟨x,hx,ha,rfl⟩))⟩,h2,h3⟩
theorem Ku{g:af}(hg:Valid g){I:List (List Lr)}{rows:List (List Int)}(h:kB g=some (I,rows)):o7 g (lP I) (qR (kJ g I (rP g I rows))) (jm g rows):=by
 obtain⟨hA,hN⟩:=kf h;obtain⟨st0,hst0,hz⟩:=hA.zero;have hclos:∀{s:Nat} {x:Lr} {k:Nat} {r:bz},lP I s x->aR g x=some ⟨false,r.left⟩->g.rules[k]?=some r->lP I s ⟨k,0⟩:=λ{s x k r} ⟨st,hst,hx⟩ ha hr=>by
  rcases Tb s with rfl | hp
  ·rw[hst0] at hst;obtain rfl:=AT hst;exact⟨_,hst0,(hz _).2 (.more ((hz _).1 hx) ha hr rfl)⟩
  ·obtain⟨l,_,_,h3⟩:=hA.from_ s st hp hst;exact⟨st,hst,(h3 _).2 (.more ((h3 _).1 hx) ha hr rfl)⟩
 refine hA.lr hg (db.2 ⟨⟨st0,hst0,(hz _).2 (.base me)⟩,.start,AS _⟩) ?_ ?_
 ·intro s x k r t u hit hu ha hr hb;rw[db];refine⟨hclos hit ha hr,?_,?_⟩
  ·rcases hb with hb | ⟨hb1,hb2⟩
   ·obtain⟨_,hu2,_⟩:=db.1 hu;have hrecv:∀{s:Nat} {x:Lr} {u:Nat},rP g I rows s x u->s=0\/∃(q:Nat) (v:Lr) (u2:Nat) (y:Sym),rP g I rows q v u2/\lP I q v/\jm g rows q y=some s:=by
     intro s x u h
     induction h with
     | start=>exact .inl rfl
     | goto h1 h2 h3 h4 _=>exact .inr ⟨_,_,_,_,h1,h2,h4⟩
     | N8 _ _ _ _=>exact .inl rfl
     | CG h1 h2 h3 _ _ _ _ _=>exact .inr ⟨_,_,_,_,h1,h2,h3⟩
     | pass _ _ _ _ _ ih=>exact ih
    rcases hrecv hu2 with rfl | ⟨q,v,u2,y,h1,h2,h3⟩
    ·exact .N8 hit ha hr hb
    ·exact .CG h1 h2 h3 hit ha hr hb
   ·exact .pass (db.1 hb2).2.1 hit ha hr hb1
  ·rcases hb with hb | ⟨_,hb2⟩
   ·exact R9 (yZ hg hb)
   ·exact(db.1 hb2).2.2
 ·intro s s' x y hit ha hgo t ht;obtain⟨_,h2,h3⟩:=db.1 ht;obtain⟨st,st',h4,h5,_,h6⟩:=hA.goes hg hgo;have hit2:=hit;obtain⟨st2,h7,hx⟩:=hit;rw[h4] at h7;obtain rfl:=AT h7;exact db.2 ⟨⟨st',h5,(h6 _).2 (.base (gu.2 ⟨x,hx,ha,rfl⟩))⟩,.goto h2 hit2 ha hgo,h3⟩
theorem MP{g:af}(hg:Valid g){S:List (List bL)}{rows:List (List Int)}(h:I6 g=some (S,rows)):o7 g (lP (S.map aP)) (qR S) (jm g rows):=by
 obtain⟨hA,hN⟩:=qV h
 have hform:∀(s:Nat) (st:List bL),S[s]?=some st->∃l,st=dr g l/\∀x∈aP l,jK g x:=hN.all (P:=λst=>∃l,st=dr g l/\∀x∈aP l,jK g x) ⟨_,rfl,jk⟩ (λst s _ hs=>by
  obtain⟨y,_,hy⟩:=Rg.1 hs;split at hy
  ·cases hy
  ·obtain rfl:=AT hy;exact⟨_,rfl,λx hx=>by rw[kH] at hx;exact(fK x hx).1⟩)
 have hit_of:∀{s:Nat} {x:Lr},lP (S.map aP) s x->∃st l,S[s]?=some st/\st=dr g l/\(∀x∈aP l,jK g x)/\eT g (aP l) x:=λ{s x} ⟨st,hst,hx⟩=>by
  rw[Re] at hst;cases hk:S[s]? with
  | none=>rw[hk] at hst;cases hst
  | some sk=>
   rw[hk] at hst;obtain rfl:=AT hst;obtain⟨l,rfl,hl⟩:=hform s sk hk;rw[eC,di hl] at hx;exact⟨_,l,rfl,rfl,hl,hx⟩
 have hla:∀{s:Nat} {l:List bL} {x:Lr} {t:Nat},S[s]?=some (dr g l)->(∀x∈aP l,jK g x)->(qR S s x t↔Dp g l x t):=λ{s l x t} hs hl=>by
  rw[<-AP hg hl];unfold qR;constructor
  ·rintro⟨st,m,h1,h2,h3⟩;rw[hs] at h1;obtain rfl:=AT h1;exact⟨m,h2,h3⟩
  ·rintro⟨m,h2,h3⟩;exact⟨_,m,hs,h2,h3⟩
 refine hA.lr hg ?_ ?_ ?_
 ·rw[hla (l:=[⟨⟨g.rules.length,0⟩,2 ^ g.ae⟩]) hN.first jk]
  exact .base me (by simp) (AS _)
 ·intro s x k r t u hit hu ha hr hb;obtain⟨st,l,h1,rfl,hl,hx⟩:=hit_of hit;rw[hla h1 hl];rcases hb with hb | ⟨hb1,hb2⟩
  ·exact .CG hx ha hr hb
  ·exact .pass hx ha hr hb1 ((hla h1 hl).1 hb2)
 ·intro s s' x y hit ha hgo t ht;obtain⟨st,l,h1,rfl,hl,hx⟩:=hit_of hit;have hy:=pO hg ha;have hmem:∃m,⟨x,m⟩∈dr g l/\m.testBit t=true:=by
   obtain⟨st,m,g1,g2,g3⟩:=ht;rw[h1] at g1;obtain rfl:=AT g1;exact⟨m,g2,g3⟩
  obtain⟨m,hm,hmt⟩:=hmem;have hk:(⟨⟨x.aA,x.dot+1⟩,m⟩:bL)∈jl g (dr g l) y:=Gf.2 ⟨x,hm,ha,rfl⟩;have hne:jl g (dr g l) y≠[]:=λe=>by rw[e] at hk;cases hk
  have hl2:∀z∈aP (jl g (dr g l) y),jK g z:=λz hz=>by rw[kH] at hz;exact(fK z hz).1
  obtain⟨row,hrow⟩:∃row,rows[s]?=some row:=⟨_,gE (by rw[hN.len];exact(gS h1).1)⟩;obtain⟨j,g1,g2⟩:=(hN.row s _ row h1 hrow).yes (D5 g y) (dr g (jl g (dr g l) y)) (by
   unfold yB;rw[oa (qq hy),By hne])
  have e:jm g rows s y=some j:=by
   unfold jm;rw[If (lI.2 hy),hrow];dsimp only;rw[g1];simp
  rw[hgo] at e;obtain rfl:=AT e;rw[hla g2 hl2];exact .base hk hmt (by
   have:=(hla h1 hl).1 ht;exact this.le hg)
section
variable {g:af}{I:List (List Lr)}{rows:List (List Int)}
structure OK(g:af)(I:List (List Lr))(rows:List (List Int))(L:List (List bL)):Prop where
 items:L.map aP=I
 small:∀st∈L,∀x∈st,x.set<2 ^ (g.ae+1)
 snd:∀s x t,qR L s x t->rP g I rows s x t
 pass:∀s x t k r,qR L s x t->aR g x=some ⟨false,r.left⟩->g.rules[k]?=some r->gG g (cD g x)->qR L s ⟨k,0⟩ t
def Mt(g:af)(rows:List (List Int))(L:List (List bL))(s:Nat)(y:Sym):Prop:=∀s' st,jm g rows s y=some s'->L[s]?=some st->∀z t,Dp g (jl g st y) z t->qR L s' z t
def AQ(L:List (List bL))(s:Nat):Prop:=∀x t,¬qR L s x t
theorem OK.it{L:List (List bL)}(h:OK g I rows L){s:Nat}{x:Lr}{t:Nat}(hl:qR L s x t):lP I s x:=by
 obtain⟨st,m,h1,h2,_⟩:=hl;refine⟨aP st,?_,Rg.2 ⟨_,h2,rfl⟩⟩;rw[<-h.items,Re,h1];rfl
theorem y3{l:List bL}:∀x∈dr g l,x.set<2 ^ (g.ae+1):=λx hx=>by
 obtain⟨z,_,rfl⟩:=Rg.1 hx;exact jR _ _
def Started(g:af)(L:List (List bL)):Prop:=∀z t,Dp g [⟨⟨g.rules.length,0⟩,2 ^ g.ae⟩] z t->qR L 0 z t
end
end Go.Proofs.D