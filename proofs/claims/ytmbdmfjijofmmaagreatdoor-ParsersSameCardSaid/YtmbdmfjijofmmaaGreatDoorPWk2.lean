/-
  Walks: what functions of the program do, over the abstract machine.
-/
import Derived.Test.YtmbdmfjijofmmaaGreatDoorPWk1
import Derived.Sort.Walk13a
set_option linter.unusedVariables false
set_option maxRecDepth 20000
set_option maxHeartbeats 0
open Go Go.Abs Go.Proofs Go.Proofs.D
set_option linter.unusedVariables false
set_option maxRecDepth 20000
set_option maxHeartbeats 0
open Go Go.Abs Go.Proofs Go.Proofs.D
namespace Go.Proofs.D
theorem Jv{g:ai}{w:List Nat}{E:List (List Nat)}(hE:eK g w E){s:Sym}{i j:Nat}(hi:i<=w.length):dX w E s i j=true↔qF g w s i j:=by
 rw[tf];unfold Step;obtain⟨b,n⟩:=s;cases b with
 | true=>simp only[SU];rw[Jo]
 | false=>
  simp only[S6,Te];exact hE.iff n i j hi
theorem Io{g:ai}(hg:Valid g){w:List Nat}(hw:w.length<=12){E:List (List Nat)}{root:Key}{S:List Key}(hK:mO g w E root S)(hroot:iw g w root):QZ (S.map (mkNode g w E S)) where
 qL:=by
  rw[RL];exact AI (vG hg zo (λk hk=>(hK.reach k hk).Gc hg hroot) hK.nodup) (by decide)
 fX:=λx hx=>by
  obtain⟨k,hk,rfl⟩:=RI.1 hx;have hgood:=(hK.reach k hk).Gc hg hroot;have:=pU hg (E:=E) (w:=w) (show k.to<=12 by have:=hgood.2.2;omega);unfold mkNode;rw[RL];omega
 K1:=λu v h=>by
  obtain⟨x,p,hx,hp,hu⟩:=h;rw[RM] at hx;cases hk:S[v]? with
  | none=>rw[hk] at hx;cases hx
  | some k=>
   rw[hk] at hx;obtain rfl:=BY hx;obtain⟨p',hp',rfl⟩:=RI.1 hp;obtain⟨q,hq,rfl⟩:=RI.1 hu;have:=hK.closed k (gM hk) p' hp' q hq;rw[RL];exact Uz this
def rootKey(g:ai)(w:List Nat):Key:=⟨⟨false,g.start⟩,0,w.length⟩
theorem yv{g:ai}(hg:Valid g)(w:List Nat):iw g w (rootKey g w):=⟨by unfold ck rootKey;simpa using hg.range.start,R6 _,AS _⟩
def pk(g:ai)(w:List Nat)(E:List (List Nat))(F:ar)(v:Value):Prop:=
 (dX w E ⟨false,g.start⟩ 0 w.length=false/\v=.agg ⟨[.slice none 0 0,.int .i64 (-1)]⟩)\/
 (dX w E ⟨false,g.start⟩ 0 w.length=true/\∃S a n c,v=.agg ⟨[.slice a n c,.int .i64 (place S (rootKey g w):Nat)]⟩/\mO g w E (rootKey g w) S/\bj ke F a n c (S.map (mkNode g w E S)))
theorem pk.mono{g:ai}{w:List Nat}{E:List (List Nat)}{F G:ar}{v:Value}(h:pk g w E F v)(hF:ar.le F G):pk g w E G v:=by
 rcases h with h | ⟨h1,S,a,n,c,h2,h3,h4⟩
 ·exact .inl h
 ·exact .inr ⟨h1,S,a,n,c,h2,h3,h4.mono hF⟩
def fw(g:ai)(w:List Nat)(E:List (List Nat))(F:ar)(v:Value):Prop:=
 (∃s a n c r,s=.agg ⟨[.slice a n c,.int .i64 r]⟩/\v=.tuple ⟨[s,.int .i64 0]⟩/\pk g w E F s/\∀S,mO g w E (rootKey g w) S->dX w E ⟨false,g.start⟩ 0 w.length=true->cF g w E S<=20000)\/
 (v=.tuple ⟨[.agg ⟨[.slice none 0 0,.int .i64 0]⟩,.int .i64 2]⟩/\dX w E ⟨false,g.start⟩ 0 w.length=true/\∃L:List Key,L.Nodup/\(∀k∈L,cT g w E (rootKey g w) k)/\20000<cF g w E L)
theorem tF{g:ai}{w:List Nat}{E:List (List Nat)}{root:Key}{S S':List Key}(h:mO g w E root S)(h':mO g w E root S'):S=S':=by
 have hp:S.Perm S':=by
  rw[Tt h.nodup h'.nodup];exact λk=>⟨λhk=>h'.all (h.reach k hk),λhk=>h.all (h'.reach k hk)⟩
 refine List.Perm.eq_of_pairwise (le:=λx y=>iM x y=true) (λa b _ _ h1 h2=>?_) h.sorted h'.sorted hp;have:=iO.trans _ _ _ h1 h2;rw[iO.irrefl] at this;cases this
theorem D4(F:ar)(hL:Laid F)(g:ai)(hg:Valid g){ga:Option Addr}{gm gc:Nat}(hr:bj cC F ga gm gc g.rules){b:Option Addr}{n d:Nat}{w:List Nat}(hw:bj dD F b n d w)(hw12:w.length<=12)
  {a:Option Addr} {m c:Nat} {E:List (List Nat)} (hE:bj (cg xU) F a m c E) (hE2:gA g.au w.length E) :
  Abs.Spec CC 63 [.agg ⟨ak g ga gm gc⟩,.slice b n d,.slice a m c] F [] λF' v o=>o=[]/\fw g w E F' v:=by
 unfold ak;refine Abs.Spec.fn (n:=21) Tryz.func63 rfl rfl λown=>?_;refine AW.seq (AW.dp ?_);refine WT.cy Z Z Z Z Z Z (λi2 hi2=>?_);refine WT.aK hT Z Z Z Z Z Z (λi4 hi4=>?_);refine aw ?_;refine WT.cO Tryz.func117 Z Z Z Z Z Z (Ee _ hL g hg hr hw hw12 hE hE2 20000 (by decide)) (λF2 v hF2 hv=>?_);have hres:(∃a n c r,v=.tuple ⟨[.agg ⟨[.slice a n c,.int .i64 r]⟩,.bool true]⟩/\pk g w E F2 (.agg ⟨[.slice a n c,.int .i64 r]⟩)/\∀S,mO g w E (rootKey g w) S->dX w E ⟨false,g.start⟩ 0 w.length=true->cF g w E S<=20000)\/
   (v=.tuple ⟨[.agg ⟨[.slice none 0 0,.int .i64 0]⟩,.bool false]⟩/\dX w E ⟨false,g.start⟩ 0 w.length=true/\∃L:List Key,L.Nodup/\(∀k∈L,cT g w E (rootKey g w) k)/\20000<cF g w E L):=by
  rcases hv with ⟨h1,rfl⟩ | ⟨h1,h2⟩
  ·exact .inl ⟨_,_,_,_,rfl,.inl ⟨h1,rfl⟩,λS _ h2=>by rw[h1] at h2;cases h2⟩
  ·rcases h2 with ⟨S,a,n,c,rfl,hK,hA,hs⟩ | ⟨rfl,hL⟩
   ·exact .inl ⟨_,_,_,_,rfl,.inr ⟨h1,S,a,n,c,rfl,hK,hA⟩,λS' hS' _=>by rw[tF hS' hK];exact hs⟩
   ·exact .inr ⟨rfl,h1,hL⟩
 clear hv;rcases hres with ⟨xa,xn,xc,xr,rfl,hx,hx2⟩ | ⟨rfl,hx,hx2⟩
 ·refine aw ?_;refine WT.aK hT Z Z Z Z Z Z (λi5 hi5=>?_);refine aw ?_;refine AW.cond Z (λh=>(by cases h)) (λh=>?_);refine aw ?_;exact AW.ret ⟨_,[],⟨_,_,⟨_,rfl,λG h0 s0=>br (s0.has (p:=1) rfl me) (bO hT rfl)⟩,⟨_,_,rfl,rfl,rfl⟩,rfl⟩,bY,rfl,.inl ⟨_,_,_,_,_,rfl,rfl,hx,hx2⟩⟩
 ·refine aw ?_;refine WT.aK hT Z Z Z Z Z Z (λi5 hi5=>?_);refine aw ?_;refine AW.cond Z (λ_=>?_) (λh=>(by cases h));refine aw ?_;exact AW.ret ⟨_,[],⟨_,_,⟨_,rfl,λG h0 s0=>br (s0.has (p:=1) rfl me) (bO hT rfl)⟩,⟨_,_,rfl,rfl,rfl⟩,rfl⟩,bY,rfl,.inr ⟨rfl,hx,hx2⟩⟩
theorem kY(F:ar)(hL:Laid F)(g:ai)(hg:Valid g){ga:Option Addr}{gm gc:Nat}(hr:bj cC F ga gm gc g.rules){b:Option Addr}{n d:Nat}{w:List Nat}(hw:bj dD F b n d w)(hw12:w.length<=12)(hw2:∀t∈w,t<g.ae) :
  Abs.Spec CC 20 [.agg ⟨ak g ga gm gc⟩,.slice b n d] F [] λF' v o=>o=[]/\∃E,eK g w E/\fw g w E F' v:=by
 unfold ak;refine Abs.Spec.fn (n:=26) Tryz.func20 rfl rfl λown=>?_;refine AW.seq (AW.dp ?_);refine WT.cy Z Z Z Z Z Z (λi2 hi2=>?_);refine WT.aK hT Z Z Z Z Z Z (λi4 hi4=>?_);refine aw ?_;refine WT.a6 Tryz.func62 Z Z Z Z Z Z (sK _ hL g hg hr hw hw12 hw2) (λv hv=>?_);subst hv;refine aw ?_;refine AW.cond Z (λh=>(by cases h)) (λh=>?_);refine aw ?_;refine AW.draw (ps:=[(0,4)]) Z Z ?_;refine aw ?_;refine WT.cO Tryz.func64 Z Z Z Z Z Z (yL _ hL g hg hr hw zo) (λF1 v hF1 hv=>?_);obtain⟨ea,ec,E,rfl,hE,hE2⟩:=hv
 refine WT.cO Tryz.func63 Z Z Z Z Z Z (D4 _ (hL.mono hF1) g hg (hr.mono hF1) (hw.mono hF1) hw12 hE hE2.ok) (λF2 v hF2 hv=>?_);rcases hv with ⟨s,a,n',c,r,rfl,rfl,hx,hx2⟩ | ⟨rfl,hx,hx2⟩
 ·refine aw ?_;refine⟨oY,?_⟩;exact AW.ret ⟨_,[],⟨_,_,⟨_,rfl,λG h0 s0=>br (s0.has (p:=0) rfl me) (bO hT rfl)⟩,⟨_,_,rfl,rfl,rfl⟩,rfl⟩,bY,rfl,E,hE2,.inl ⟨_,_,_,_,_,rfl,rfl,hx,hx2⟩⟩
 ·refine aw ?_;refine⟨oY,?_⟩;exact AW.ret ⟨_,[],⟨_,_,⟨_,rfl,λG h0 s0=>br (s0.has (p:=0) rfl me) (bO hT rfl)⟩,⟨_,_,rfl,rfl,rfl⟩,rfl⟩,bY,rfl,E,hE2,.inr ⟨rfl,hx,hx2⟩⟩
mutual
def Tree.pre:Tree->List Int
 | .mk r _ ks=>r::BG ks
def BG:List Tree->List Int
 | []=>[]
 | t::ts=>t.pre++BG ts
end
structure Fo where
 n:Nat
 leaf:Nat->Option Nat
 fX:Nat->List iK
mutual
inductive NT(f:Fo):Nat->Tree->Prop
 | leaf {v t:Nat}:v<f.n->f.leaf v=some t->NT f v (.mk (-1) t [])
 | node {v:Nat} {p:iK} {ts:List Tree}:v<f.n->f.leaf v=none->p∈f.fX v->NG f p.kids ts->NT f v (.mk p.az 0 ts)
inductive NG(f:Fo):List Nat->List Tree->Prop
 | nil:NG f [] []
 | cons {k:Nat} {t:Tree} {ks:List Nat} {ts:List Tree}:NT f k t->NG f ks ts->NG f (k::ks) (t::ts)
end
structure Fo.Good(f:Fo):Prop where
 kids:∀v,v<f.n->∀p∈f.fX v,p.kids.length<=4/\∀k∈p.kids,k<f.n
 dec:∀v T T',NT f v T->NT f v T'->T.pre=T'.pre->T=T'
 uniq:∀v,v<f.n->f.leaf v=none->∀(a b:Nat) (p q:iK),(f.fX v)[a]?=some p->(f.fX v)[b]?=some q->p.az=q.az->∀ts,NG f p.kids ts->NG f q.kids ts->a=b
structure Q7 where
 node:Nat
 pack:Nat
 r0:Nat
 r1:Nat
 r2:Nat
 r3:Nat
deriving DecidableEq
def pick(L:Nat->List Tree):List Nat->List Nat->Option (List Tree)
 | [],_=>some []
 | k::ks,r::rs=>match (L k)[r]? with
  | some t=>match pick L ks rs with
   | some ts=>some (t::ts)
   | none=>none
  | none=>none
 | _::_,[]=>none
structure Lr where
 az:Nat
 dot:Nat
deriving DecidableEq,Inhabited
def fY:Ty Lr where
 size:=2
 rel:=λ_ l x=>l=[.int .i64 x.az,.int .i64 x.dot]
 len:=λ_ _ _ h=>by rw[h];rfl
 one:=λ_ _ _ h=>by rw[h];rfl
 mono:=λ_ _ _ _ _ h=>h
theorem Aw(F:ar){a:Option Addr}{m c:Nat}{xs:List Lr}(hx:bj fY F a m c xs)(hm:m<=1000000) :
  Abs.Spec CC 193 [.slice a m c] F [] λF' v o=>∃B',o=[B']/\∃a' c',v=.slice a' m c'/\dM fY F' a' m c' B' xs:=by
 refine Abs.Spec.fn (n:=8) Tryz.func193 rfl rfl λown=>?_;refine aw ?_;refine WT.rZ hT Z Z Z Z Z Z Z Z ?_;refine aw ?_;refine AW.cond Z (λh=>?_) (λh=>?_)
 ·exact M9
 ·refine aw ?_;refine WT.be hT Z Z Z Z Z Z Z Z Z Z Z Z Z Z (λi5 hi5=>?_);refine aw ?_;obtain⟨ds,hds,hcs⟩:=sL hT hx (t:=259) rfl rfl 181;refine WT.Af hT Z Z Z Z Z Z Z Z Z Z Z Z (λh0 s0=>hds _ h0 s0) hcs hx.len (by decide) kF (λa' c' B' hB' _=>?_);refine aw ?_;refine AW.le (ah.cons _ (ah.skip _ oR)) ?_;exact AW.ret ⟨_,[_],⟨_,_,rfl,rfl,rfl⟩,bY,_,rfl,_,_,rfl,hB'⟩
def qe(x y:Lr):Bool:=decide (x.az<y.az\/(x.az=y.az/\x.dot<y.dot))
theorem j6{x y:Lr}:qe x y=true↔(x.az<y.az\/(x.az=y.az/\x.dot<y.dot)):=by unfold qe;exact decide_eq_true_iff
theorem su{x y:Lr}:qe x y=false↔¬(x.az<y.az\/(x.az=y.az/\x.dot<y.dot)):=by unfold qe;exact decide_eq_false_iff_not
theorem Ju:Go.Sort.SWO qe where
 irrefl:=λx=>by rw[su];omega
 trans:=λx y z h1 h2=>by rw[j6] at *;omega
 ntrans:=λx y z h1 h2=>by rw[su] at *;omega
theorem Hg(x y:Lr)(h1:qe x y=false)(h2:qe y x=false):x=y:=by
 rw[su] at *;cases x;cases y;simp only at h1 h2;simp only[Lr.mk.injEq];omega
theorem JB(x y:Lr):jI [aZ x.az y.az,aZ x.dot y.dot]<0↔qe x y=true:=by
 rw[j6];simp only[jI];unfold aZ
 repeat' split
 all_goals omega
theorem A8(F:ar)(x y:Lr):Abs.Spec CC 196 [.agg ⟨[.int .i64 x.az,.int .i64 x.dot]⟩,.agg ⟨[.int .i64 y.az,.int .i64 y.dot]⟩] F [] λ_ v o=>o=[]/\v=.int .i64 (jI [aZ x.az y.az,aZ x.dot y.dot]):=by
 refine Abs.Spec.fn (n:=17) Tryz.func196 rfl rfl λown=>?_;refine AW.seq (AW.dp ?_);refine WT.cy Z Z Z Z Z Z (λi2 hi2=>?_);refine WT.cy Z Z Z Z Z Z (λi3 hi3=>?_);refine aw ?_;refine AW.draw (ps:=[(6,4),(8,4)]) Z Z ?_;refine aw ?_;refine WT.a6 Tryz.func124 Z Z Z Z Z Z (dT _ _ _) (λv hv=>?_);subst hv;refine aw ?_;refine WT.a6 Tryz.func124 Z Z Z Z Z Z (dT _ _ _) (λv hv=>?_);subst hv;refine WT.be hT Z Z Z Z Z Z Z Z Z Z Z Z Z Z (λi9 hi9=>?_)
 refine WT.jt 0 Tryz.func123 Z Z Z Z Z Z Z (λG hG hBG=>vd G (l:=[aZ x.az y.az,aZ x.dot y.dot]) (dR.frozen (F:=F) (B:=[(i9,.cells false [.int .i64 (aZ x.az y.az),.int .i64 (aZ x.dot y.dot)])]) ⟨rfl,.inr ⟨i9,_,rfl,rfl,rfl,aH.cons (l:=[_]) Z (aH.single (x:=aZ x.dot y.dot) rfl),by decide⟩⟩ hG hBG) (by decide)) (λv hv=>?_);subst hv;refine aw ?_;refine⟨oY,?_⟩;exact AW.ret ⟨_,[],⟨_,_,rfl,rfl,rfl⟩,bY,rfl,rfl⟩
theorem CD(F:ar):dV fY qe F 196 [] []:=
 ⟨⟨_,Tryz.func196,rfl⟩,λG _ lx ly x y hx hy=>by
  obtain rfl:lx=_:=hx;obtain rfl:ly=_:=hy;exact Spec.mono (A8 G x y) (λF' v o _ h=>⟨h.1,_,h.2,JB x y⟩)⟩
theorem zM(F:ar){a:Option Addr}{m c:Nat}{xs:List Lr}(hx:bj fY F a m c xs)(hm:m<=1000000)(x:Lr) :
  Abs.Spec CC 221 [.slice a m c,.agg ⟨[.int .i64 x.az,.int .i64 x.dot]⟩] F [] λ_ v o=>o=[]/\∃i:Int,v=.int .i64 i/\(0<=i↔x∈xs):=by
 refine Abs.Spec.fn (n:=19) Tryz.func221 rfl rfl λown=>?_;have hxlen:=hx.len;refine AW.seq (AW.dp ?_);refine WT.cy Z Z Z Z Z Z (λi3 hi3=>?_);refine aw ?_;refine AW.range (S:=Unit) (λ_=>[]) (λ_=>_) (λj _ G=>x∉xs.take j) m () Z Z Z Z Z Z Z Z Z zo Z Z (λ_=>rfl) (λ_=>rfl) sM oR (by simp) ?_ ?_
 ·intro j _ F1 hF1 hj hP;have hx1:=hx.mono hF1;refine aw ?_;refine WT.bG hT hx1 Z Z Z Z Z Z Z Z Z zo (λy hyj b1 off ro cs ly hb hp1 hrel=>?_);obtain rfl:ly=_:=hrel;refine aw ?_;refine AW.cond Z (λhc=>?_) (λhc=>?_)
  ·refine aw ?_;have e:x=y:=by
    simp at hc;cases x;cases y;simp only[Lr.mk.injEq] at *;omega
   subst e;refine AW.ret ⟨_,[],⟨_,_,rfl,rfl,rfl⟩,bY,rfl,_,rfl,?_⟩;exact⟨λ_=>gM hyj,λ_=>by omega⟩
  ·refine aw ?_;refine⟨(),sM,dH,?_⟩;show x∉xs.take (j+1);rw[RZ,hyj];intro hm;rcases R5.1 hm with h | h
   ·exact hP h
   ·have e:x=y:=by simpa using h
    subst e;simp at hc
 ·intro _ F1 hF1 hP;rw[RN zo] at hP;refine aw ?_;exact AW.ret ⟨_,[],⟨_,_,rfl,rfl,rfl⟩,bY,rfl,_,rfl,by simp[hP]⟩
theorem uX(F:ar){a:Option Addr}{m c:Nat}{xs:List Lr}(hx:bj fY F a m c xs)(hm:m<=1000000)(x:Lr) :
  Abs.Spec CC 194 [.slice a m c,.agg ⟨[.int .i64 x.az,.int .i64 x.dot]⟩] F [] λ_ v o=>o=[]/\v=.bool (decide (x∈xs)):=by
 refine Abs.Spec.fn (n:=9) Tryz.func194 rfl rfl λown=>?_;refine AW.seq (AW.dp ?_);refine WT.cy Z Z Z Z Z Z (λi3 hi3=>?_);refine aw ?_;refine WT.a6 Tryz.func221 Z Z Z Z Z Z (zM _ hx hm x) (λv hv=>?_);obtain⟨i,rfl,hi⟩:=hv;refine aw ?_;refine AW.ret ⟨_,[],⟨_,_,rfl,rfl,rfl⟩,bY,rfl,?_⟩;rw[show decide (x∈xs)=decide (0<=i) from by simp[hi]];rfl
namespace Nlr
abbrev cY:=Lr
abbrev AJ:=Tryz.func246
abbrev cw:=fY
end Nlr
open Nlr in
theorem DX(F:ar){lt:Lr->Lr->Bool}{g:Nat}{first capt:List Value}(hc:dV fY lt F g first capt){a0:Option Addr}{m c:Nat}{B:List (Nat×aE)}{d:Array Lr}(hv:dM fY F a0 m c B d.toList)(a b:Nat)(ha:a<=1000000)(hb:b<=m)(hm:m<=1000000) :
  Abs.Spec CC 246 [.slice a0 m c,.int .i64 a,.int .i64 b,.func (.func g) ⟨first⟩ ⟨capt⟩] F [B] λF' v o=>∃B',o=[B']/\dM fY F' a0 m c B' (Go.Sort.insertionSort lt d a b).toList:=om
namespace Nlr
abbrev rY:=Tryz.func273
end Nlr
open Nlr in
theorem CK(F:ar){lt:Lr->Lr->Bool}{g:Nat}{first capt:List Value}(hc:dV fY lt F g first capt){a0:Option Addr}{m c:Nat}{B:List (Nat×aE)}{d:Array Lr}(hv:dM fY F a0 m c B d.toList)(lo hi fst:Nat)(hlo:lo<=1000000)(hb:fst+hi<=m)(hm:m<=1000000) :
  Abs.Spec CC 273 [.slice a0 m c,.int .i64 lo,.int .i64 hi,.int .i64 fst,.func (.func g) ⟨first⟩ ⟨capt⟩] F [B] λF' v o=>∃B',o=[B']/\dM fY F' a0 m c B' (Go.Sort.siftDown lt hi fst lo d).toList:=mS
namespace Nlr
abbrev AY:=Tryz.func247
abbrev wP:=@CK
end Nlr
open Nlr in
theorem Bm(F:ar){lt:Lr->Lr->Bool}{g:Nat}{first capt:List Value}(hc:dV fY lt F g first capt){a0:Option Addr}{m c:Nat}{B:List (Nat×aE)}{d:Array Lr}(hv:dM fY F a0 m c B d.toList)(a b:Nat)(hab:a<b)(hb:b<=m)(hm:m<=1000000) :
  Abs.Spec CC 247 [.slice a0 m c,.int .i64 a,.int .i64 b,.func (.func g) ⟨first⟩ ⟨capt⟩] F [B] λF' v o=>∃B',o=[B']/\dM fY F' a0 m c B' (Go.Sort.heapSort lt d a b).toList:=m9
namespace Nlr
abbrev An:=Tryz.func250
end Nlr
open Nlr in
theorem Dp(F:ar){cv:Value}{a0:Option Addr}{m c:Nat}{B:List (Nat×aE)}{d:Array Lr}(hv:dM fY F a0 m c B d.toList)(a b:Nat)(hab:a<b)(hb:b<=m)(hm:m<=1000000) :
  Abs.Spec CC 250 [.slice a0 m c,.int .i64 a,.int .i64 b,cv] F [B] λF' v o=>∃B',o=[B']/\dM fY F' a0 m c B' (Go.Sort.reverseRange d a b).toList:=nD
namespace Nlr
abbrev xF:=Tryz.func253
end Nlr
open Nlr in
theorem CE(F:ar){lt:Lr->Lr->Bool}{g:Nat}{first capt:List Value}(hc:dV fY lt F g first capt){a0:Option Addr}{m c:Nat}{B:List (Nat×aE)}{d:Array Lr}(hv:dM fY F a0 m c B d.toList)(a b pivot:Nat)(hp1:a<=pivot)(hp2:pivot<b)(hb:b<=m)(hm:m<=1000000) :
  Abs.Spec CC 253 [.slice a0 m c,.int .i64 a,.int .i64 b,.int .i64 pivot,.func (.func g) ⟨first⟩ ⟨capt⟩] F [B] λF' v o=>∃B',o=[B']/\v=.tuple ⟨[.int .i64 ((Go.Sort.partition lt d a b pivot).1:Nat),.bool (Go.Sort.partition lt d a b pivot).2.1]⟩/\dM fY F' a0 m c B' (Go.Sort.partition lt d a b pivot).2.2.toList:=mR
namespace Nlr
abbrev zV:=Tryz.func252
end Nlr
open Nlr in
theorem xZ(F:ar){lt:Lr->Lr->Bool}{g:Nat}{first capt:List Value}(hc:dV fY lt F g first capt){a0:Option Addr}{m c:Nat}{B:List (Nat×aE)}{d:Array Lr}(hv:dM fY F a0 m c B d.toList)(a b pivot:Nat)(hp1:a<=pivot)(hp2:pivot<b)(hb:b<=m)(hm:m<=1000000) :
  Abs.Spec CC 252 [.slice a0 m c,.int .i64 a,.int .i64 b,.int .i64 pivot,.func (.func g) ⟨first⟩ ⟨capt⟩] F [B] λF' v o=>∃B',o=[B']/\v=.int .i64 ((Go.Sort.partitionEqual lt d a b pivot).1:Nat)/\dM fY F' a0 m c B' (Go.Sort.partitionEqual lt d a b pivot).2.toList:=kM
namespace Nlr
abbrev oe:=Tryz.func282
end Nlr
open Nlr in
theorem x5(F:ar){lt:Lr->Lr->Bool}{g:Nat}{first capt:List Value}(hc:dV fY lt F g first capt){a0:Option Addr}{m c:Nat}{d:Array Lr}(hv:bj fY F a0 m c d.toList)(a b:Nat)(ha:a<m)(hb:b<m)(hm:m<=1000000){ip sw:Nat}(hsw:sw<=1000) :
  Abs.Spec CC 282 [.slice a0 m c,.int .i64 a,.int .i64 b,.pointer (some ⟨ip,0,none⟩),.func (.func g) ⟨first⟩ ⟨capt⟩] F [[(ip,.cells false [.int .i64 sw])]] λF' v o=>∃B',o=[B']/\v=.tuple ⟨[.int .i64 ((Go.Sort.order2 lt d a b sw).1:Nat),.int .i64 ((Go.Sort.order2 lt d a b sw).2.1:Nat)]⟩/\B'=[(ip,.cells false [.int .i64 ((Go.Sort.order2 lt d a b sw).2.2:Nat)])]:=kK
namespace Nlr
abbrev wF:=Tryz.func275
abbrev sd:=@x5
end Nlr
open Nlr in
theorem pG(F:ar){lt:Lr->Lr->Bool}{g:Nat}{first capt:List Value}(hc:dV fY lt F g first capt){a0:Option Addr}{m c0:Nat}{d:Array Lr}(hv:bj fY F a0 m c0 d.toList)(a b c:Nat)(ha:a<m)(hb:b<m)(hcm:c<m)(hm:m<=1000000){ip sw:Nat}(hsw:sw<=900) :
  Abs.Spec CC 275 [.slice a0 m c0,.int .i64 a,.int .i64 b,.int .i64 c,.pointer (some ⟨ip,0,none⟩),.func (.func g) ⟨first⟩ ⟨capt⟩] F [[(ip,.cells false [.int .i64 sw])]] λF' v o=>∃B',o=[B']/\v=.int .i64 ((Go.Sort.median lt d a b c sw).1:Nat)/\B'=[(ip,.cells false [.int .i64 ((Go.Sort.median lt d a b c sw).2:Nat)])]:=kS
theorem ym(F:ar){lt:Lr->Lr->Bool}{g:Nat}{first capt:List Value}(hc:dV fY lt F g first capt){a0:Option Addr}{m c0:Nat}{d:Array Lr}(hv:bj fY F a0 m c0 d.toList)(a:Nat)(ha:1<=a)(hb:a+1<m)(hm:m<=1000000){ip sw:Nat}(hsw:sw<=900) :
  Abs.Spec CC 274 [.slice a0 m c0,.int .i64 a,.pointer (some ⟨ip,0,none⟩),.func (.func g) ⟨first⟩ ⟨capt⟩] F [[(ip,.cells false [.int .i64 sw])]] λF' v o=>∃B',o=[B']/\v=.int .i64 ((Go.Sort.medianAdjacent lt d a sw).1:Nat)/\B'=[(ip,.cells false [.int .i64 ((Go.Sort.medianAdjacent lt d a sw).2:Nat)])]:=by
 refine Abs.Spec.fn (n:=18) Tryz.func274 rfl rfl λown=>?_;refine aj ?_;refine WT.cW 0 Tryz.func275 Z Z Z Z Z Z Z (λ_=>rfl) (pG _ hc hv (a-1) a (a+1) zo zo zo hm hsw) (λF1 v B1 hF1 hv1=>?_);obtain⟨rfl,rfl⟩:=hv1;refine aj ?_;exact AW.ret ⟨_,[_],⟨_,_,rfl,rfl,rfl⟩,bY,_,rfl,rfl,rfl⟩
namespace Nlr
abbrev Bc:=Tryz.func249
abbrev sE:=Tryz.func274
abbrev qS:=@ym
abbrev Cu:=@pG
end Nlr
open Nlr in
theorem AB(F:ar){lt:Lr->Lr->Bool}{g:Nat}{first capt:List Value}(hc:dV fY lt F g first capt){a0:Option Addr}{m c0:Nat}{d:Array Lr}(hv:bj fY F a0 m c0 d.toList)(a b:Nat)(hab:a+13<=b)(hb:b<=m)(hm:m<=1000000) :
  Abs.Spec CC 249 [.slice a0 m c0,.int .i64 a,.int .i64 b,.func (.func g) ⟨first⟩ ⟨capt⟩] F [] λF' v o=>o=[]/\v=.tuple ⟨[.int .i64 ((Go.Sort.choosePivot lt d a b).1:Nat),.int .i64 (Go.Sort.hintCode (Go.Sort.choosePivot lt d a b).2)]⟩:=lL
namespace Nlr
abbrev zO:=Tryz.func251
end Nlr
open Nlr in
theorem CT(F:ar){lt:Lr->Lr->Bool}{g:Nat}{first capt:List Value}(hc:dV fY lt F g first capt){a0:Option Addr}{m c:Nat}{B:List (Nat×aE)}{d:Array Lr}(hv:dM fY F a0 m c B d.toList)(a b:Nat)(hab:a<b)(hb:b<=m)(hm:m<=1000000) :
  Abs.Spec CC 251 [.slice a0 m c,.int .i64 a,.int .i64 b,.func (.func g) ⟨first⟩ ⟨capt⟩] F [B] λF' v o=>∃B',o=[B']/\v=.bool (Go.Sort.partialInsertionSort lt d a b).2/\dM fY F' a0 m c B' (Go.Sort.partialInsertionSort lt d a b).1.toList:=mX
namespace Nlr
abbrev AF:=Tryz.func248
end Nlr
open Nlr in
theorem Be(F:ar){cv:Value}{a0:Option Addr}{m c:Nat}{B:List (Nat×aE)}{d:Array Lr}(hv:dM fY F a0 m c B d.toList)(a b:Nat)(hab:a+13<=b)(hb:b<=m)(hm:m<=1000000) :
  Abs.Spec CC 248 [.slice a0 m c,.int .i64 a,.int .i64 b,cv] F [B] λF' v o=>∃B',o=[B']/\dM fY F' a0 m c B' (Go.Sort.breakPatterns d a b).toList:=lJ
namespace Nlr
abbrev sv:=Tryz.func222
abbrev Ct:=@Be
abbrev BN:=@Bm
abbrev Dk:=@DX
abbrev BD:=@CT
abbrev Dj:=@xZ
abbrev BB:=@CE
abbrev C3:=@AB
abbrev Cy:=@Dp
end Nlr
open Nlr in
theorem ug{lt:Lr->Lr->Bool}{g:Nat}{first capt:List Value}:∀(N:Nat) (F:ar) (hc:dV fY lt F g first capt) {a0:Option Addr} {m c:Nat} {B:List (Nat×aE)} {d:Array Lr} (hv:dM fY F a0 m c B d.toList) (a b limit:Nat) (hN:b-a<N) (hab:a<=b) (hb:b<=m) (hm:m<=1000000) (hlim:limit<=1000000),
  Abs.Spec CC 222 [.slice a0 m c,.int .i64 a,.int .i64 b,.int .i64 limit,.func (.func g) ⟨first⟩ ⟨capt⟩] F [B] λF' v o=>∃B',o=[B']/\dM fY F' a0 m c B' (Go.Sort.pdq lt d a b limit true true).toList
 | 0,_,_,_,_,_,_,_,_,_,_,_,h,_,_,_,_=>absurd h (Tl _)
 | N+1,F,hc,a0,m,c,B,d,hv,a,b,limit,hN,hab,hb,hm,hlim=>by have zzrec:=@ug lt g first capt N;exact m6
namespace Nlr
abbrev FI:=Tryz.func195
abbrev Cf:=@ug
end Nlr
open Nlr in
theorem Bh(F:ar){lt:Lr->Lr->Bool}{g:Nat}{first capt:List Value}(hc:dV fY lt F g first capt){a0:Option Addr}{m c:Nat}{B:List (Nat×aE)}{xs:List Lr}(hv:dM fY F a0 m c B xs)(hm:m<=1000000) :
  Abs.Spec CC 195 [.slice a0 m c,.func (.func g) ⟨first⟩ ⟨capt⟩] F [B] λF' v o=>∃B',o=[B']/\dM fY F' a0 m c B' (Go.Sort.sort lt xs.toArray).toList:=mW
def Qe(l:List Lr):Prop:=l.Pairwise (λx y=>qe y x=false)
def iC(l:List Lr):Prop:=l.Pairwise (λx y=>qe x y=true)
theorem De{xs:List Lr}(h:Qe xs){j:Nat}{x p z:Lr}(hx:xs[j]?=some x)(hp:xs[j-1]?=some p)(hj:0<j)(hne:x≠p)(hz:z∈xs.take j):qe z x=true:=by
 unfold Qe at h;rw[Tv] at h;obtain⟨hjl,hx⟩:=gS hx;obtain⟨hpl,hp⟩:=gS hp;have h1:=h (j-1) j hpl hjl zo;rw[hx,hp] at h1;have h2:qe p x=true:=by
  cases e:qe p x with
  | true=>rfl
  | false=>exact absurd (Hg _ _ h1 e) hne
 obtain⟨i,hi,rfl⟩:=SJ hz;rw[Sm] at hi;rw[List.getElem_take];have hil:i<xs.length:=by omega
 rcases R2 i (j-1) with h3 | h3
 ·have h4:=h i (j-1) hil hpl h3;rw[hp] at h4;rw[su] at h4;rw[j6] at h2 ⊢;omega
 ·obtain rfl:i=j-1:=by omega
  rw[hp];exact h2
theorem lP{xs:List Lr}{j:Nat}{x:Lr}(hx:xs[j]?=some x):xs.take (j+1)=xs.take j++[x]:=by rw[RZ,hx];rfl
theorem C0{xs:List Lr}{j:Nat}{p:Lr}(hp:xs[j-1]?=some p)(hj:0<j):p∈xs.take j:=by
 refine gM (i:=j-1) ?_;rw[Sg,By zo,hp]
structure Q6 where
 i:Nat
 q:Nat
 ys:List Lr
 B:List (Nat×aE)
theorem wo(F:ar){a:Option Addr}{m c:Nat}{B:List (Nat×aE)}{xs:List Lr}(hv:dM fY F a m c B xs)(hm:m<=1000000)(hs:Qe xs) :
  Abs.Spec CC 197 [.slice a m c] F [B] λF' v o=>o=[]/\∃a' m' c' zs,v=.slice a' m' c'/\bj fY F' a' m' c' zs/\m'<=m/\iC zs/\∀z,z∈zs↔z∈xs:=by
 have hl:=hv.len;refine Abs.Spec.fn (n:=61) Tryz.func197 rfl rfl λown=>?_;refine aj ?_;refine AW.cond Z (λh=>?_) (λh=>?_)
 ·have h:m<2:=by simp at h;omega
  refine AW.ay 0 Z Z (λF1 hF1 hB1=>?_);refine aj ?_;refine AW.ret ⟨_,[],⟨_,_,rfl,rfl,rfl⟩,bY,rfl,a,m,c,xs,rfl,hv.arr hF1 hB1,AS _,?_,λ_=>Iff.rfl⟩
  match xs,hl with
  | [],_=>exact List.Pairwise.nil
  | [x],_=>exact Uh _ _
  | _::_::_,hl=>simp at hl;omega
 have h:2<=m:=by simp at h;omega
 obtain⟨x0,hx0⟩:∃x,xs[0]?=some x:=⟨_,gE zo⟩;obtain⟨ib,cs0,rfl,rfl,hcs0,_⟩:=hv.at_ hx0;obtain rfl:c=2:=by
  rcases hv.cap with h5 | h5
  ·have:=hv.zero h5;omega
  ·exact h5
 refine aj ?_;refine AW.block ?_;refine AW.cm (S:=Nat) (λi=>[(3,.int .i64 (i:Nat))]) (λ_=>_) (λi G=>1<=i/\i<=m/\iC (xs.take i)) (λi=>m-i) 1
  sM oR ⟨AS _,by omega,?_⟩ ?_
 ·rw[lP (j:=0) hx0];exact Uh _ _
 intro i F1 hF1 hP;obtain⟨hi1,him,hst⟩:=hP;have hv1:=hv.mono hF1;refine aj ?_;refine AW.cond Z (λh2=>?_) (λh2=>?_)
 ·have h2:i<m:=by simpa using h2
  obtain⟨x,hx⟩:∃x,xs[i]?=some x:=⟨_,gE zo⟩;obtain⟨p,hp⟩:∃x,xs[i-1]?=some x:=⟨_,gE zo⟩;refine aj ?_;refine AW.block ?_;refine aj ?_;refine WT.bA hT hv1 Z Z Z Z Z Z Z Z Z h2 (λb5 hb5=>?_);refine WT.cz hT 0 hv1 hb5 hx Z Z Z Z Z Z Z Z Z (λl hl=>?_);obtain rfl:l=_:=hl;refine aj ?_;refine WT.bA hT hv1 Z Z Z Z Z Z Z Z Z zo (λb6 hb6=>?_);refine WT.cz hT 0 hv1 hb6 hp Z Z Z Z Z Z Z Z Z (λl hl=>?_);obtain rfl:l=_:=hl;refine aj ?_;refine AW.cond Z (λh3=>?_) (λh3=>?_)
  ·have e:x=p:=by
    simp at h3;cases x;cases p;simp only[Lr.mk.injEq] at *;omega
   subst e;refine aj ?_;refine WT.slice Z Z Z Z Z Z Z Z (λh0=>uq (lo:=i) (hi:=m) hT Z Z Z Z Z zo (AS _) (.inr rfl) h0) ?_;refine aj ?_;refine AW.block ?_;refine AW.cm (S:=Q6) (λs=>[(3,.int .i64 (s.i:Nat)),(5,.int .i64 (s.q:Nat))]) (λs=>s.B::own)
    (λs G=>dM fY G (some ⟨ib,0,none⟩) m 2 s.B s.ys/\1<=s.q/\i+s.q<=m/\s.i+1<=i+s.q/\s.ys.drop (i+s.q-1)=xs.drop (i+s.q-1)/\iC (s.ys.take s.i)/\∀z,z∈s.ys.take s.i↔z∈xs.take (i+s.q)) (λs=>m-s.q) ⟨i,1,xs,_⟩
    sM oR ⟨hv1,AS _,by dsimp only;omega,AS _,rfl,hst,λz=>?_⟩ ?_
   ·show z∈xs.take i↔z∈xs.take (i+1);rw[lP hx,R5]
    exact⟨.inl,λhz=>hz.elim id λhz=>by
     have e:z=x:=by simpa using hz
     subst e;exact C0 hp zo⟩
   intro s F2 hF2 hP;obtain⟨hv2,hq1,hqm,hsi,hdr,hstr,hmem⟩:=hP;have hv2l:=hv2.len;refine aj ?_;refine AW.cond Z (λh4=>?_) (λh4=>?_)
   ·have h4:i+s.q<m:=by simp at h4;omega
    refine aj ?_;refine AW.block ?_;refine aj ?_;obtain⟨y,hy⟩:∃y,xs[i+s.q]?=some y:=⟨_,gE zo⟩;obtain⟨p2,hp2⟩:∃y,xs[i+s.q-1]?=some y:=⟨_,gE zo⟩;have up:∀d,s.ys[i+s.q-1+d]?=xs[i+s.q-1+d]?:=λd=>by
     rw[<-Se,hdr,Se]
    have hy2:s.ys[i+s.q]?=some y:=by
     have:=up 1;rw[show i+s.q-1+1=i+s.q by omega] at this;rw[this,hy]
    have hp3:s.ys[i+s.q-1]?=some p2:=by
     have:=up 0;rw[Tq] at this;rw[this,hp2]
    have hdr2:s.ys.drop (i+s.q)=xs.drop (i+s.q):=by
     have:=congrArg (List.drop 1) hdr;rw[UQ,UQ,show i+s.q-1+1=i+s.q by omega] at this;exact this
    refine WT.eA hT Z Z Z Z Z Z Z Z Z zo ?_;rw[show 0+i*2+s.q*2=(i+s.q)*2 by omega];refine WT.cz hT 0 hv2 Z hy2 Z Z Z Z Z Z Z Z Z (λl hl=>?_);obtain rfl:l=_:=hl;refine aj ?_;refine WT.eA hT Z Z Z Z Z Z Z Z Z zo ?_;rw[show 0+i*2+(s.q-1)*2=(i+s.q-1)*2 by omega];refine WT.cz hT 0 hv2 Z hp3 Z Z Z Z Z Z Z Z Z (λl hl=>?_);obtain rfl:l=_:=hl;refine aj ?_;refine AW.cond Z (λh5=>?_) (λh5=>?_)
    ·have hne:y≠p2:=by
      rintro rfl;simp at h5
     refine aj ?_;refine WT.eA hT Z Z Z Z Z Z Z Z Z zo ?_;rw[show 0+i*2+s.q*2=(i+s.q)*2 by omega];refine WT.cz hT 0 hv2 Z hy2 Z Z Z Z Z Z Z Z Z (λl hl=>?_);obtain rfl:l=_:=hl;refine WT.bA hT hv2 Z Z Z Z Z Z Z Z Z zo (λb6 hb6=>?_);obtain⟨z,hz⟩:∃z,s.ys[s.i]?=some z:=⟨_,gE zo⟩;have hil:s.i<s.ys.length:=by omega
     refine WT.qC (y:=y) hT 0 hv2 hb6 hz Z Z Z Z Z Z Z (λ_=>rfl) Z (λB6 hB6=>?_);refine aj ?_;have ht:(s.ys.set s.i y).take (s.i+1)=s.ys.take s.i++[y]:=by
      rw[RZ,Sc hil,List.take_set_of_le (AS _)];rfl
     refine⟨⟨s.i+1,s.q+1,s.ys.set s.i y,B6⟩,by dsimp only;omega,sM,dH,hB6,by dsimp only;omega,by dsimp only;omega,by dsimp only;omega,?_,?_,λw=>?_⟩
     ·show (s.ys.set s.i y).drop (i+(s.q+1)-1)=xs.drop (i+(s.q+1)-1);rw[show i+(s.q+1)-1=i+s.q by omega,List.drop_set_of_lt zo,hdr2]
     ·show iC ((s.ys.set s.i y).take (s.i+1));rw[ht];refine List.pairwise_append.2 ⟨hstr,Uh _ _,λw hw w2 hw2=>?_⟩;obtain rfl:w2=y:=by simpa using hw2
      exact De hs hy hp2 zo hne ((hmem w).1 hw)
     ·show w∈(s.ys.set s.i y).take (s.i+1)↔w∈xs.take (i+(s.q+1));rw[ht,<-T1,lP hy,R5,R5,hmem]
    ·have e:y=p2:=by
      simp at h5;cases y;cases p2;simp only[Lr.mk.injEq] at *;omega
     subst e;refine aj ?_;refine⟨⟨s.i,s.q+1,s.ys,s.B⟩,by dsimp only;omega,sM,dH,hv2,by dsimp only;omega,by dsimp only;omega,by dsimp only;omega,?_,hstr,λw=>?_⟩
     ·show s.ys.drop (i+(s.q+1)-1)=xs.drop (i+(s.q+1)-1);rw[show i+(s.q+1)-1=i+s.q by omega,hdr2]
     ·show w∈s.ys.take s.i↔w∈xs.take (i+(s.q+1));rw[hmem,<-T1,lP hy,R5]
      exact⟨.inl,λhz=>hz.elim id λhz=>by
       have e:w=y:=by simpa using hz
       subst e;exact C0 hp2 zo⟩
   ·have h4:i+s.q=m:=by simp at h4;omega
    refine AW.exit ?_;refine aj ?_;refine WT.slice Z Z Z Z Z Z Z Z (λh0=>uq (lo:=s.i) (hi:=m) hT Z Z Z Z Z zo (AS _) (.inr rfl) h0) ?_;refine WT.MW (x0:=(⟨0,0⟩:Lr)) (i:=s.i) (l:=m-s.i) hT 0 hv2 Z Z Z Z Z Z Z Z Z zo zo Z (λ_=>rfl) (λB6 hB6=>?_);refine WT.ay 0 Z Z (λF6 hF6 hB6'=>?_);have harr:=hB6.arr hF6 hB6';obtain⟨sa,sc,hss,hsl⟩:=harr.slice (C:=CC) (lo:=0) (hi:=s.i) (R6 _) zo hT (t:=259) Z Z Z none (some (.int .i64 (s.i:Nat))) rfl rfl;refine aj ?_;refine WT.slice Z Z Z Z Z Z Z Z hss ?_;refine aj ?_
    have e:(List.take s.i (List.take s.i s.ys++List.replicate (m-s.i) ⟨0,0⟩)).drop 0=s.ys.take s.i:=by
     rw[Ux,U2 (by rw[Sm];omega)]
    rw[e] at hsl;refine AW.ret ⟨_,[],⟨_,_,rfl,rfl,rfl⟩,bY,rfl,sa,_,sc,_,rfl,hsl,by omega,hstr,λw=>?_⟩;rw[hmem,h4,RN zo]
  ·have hne:x≠p:=by
    rintro rfl;simp at h3
   refine aj ?_;refine⟨i+1,by omega,sM,dH,by omega,by omega,?_⟩;rw[lP hx];refine List.pairwise_append.2 ⟨hst,Uh _ _,λw hw w2 hw2=>?_⟩;obtain rfl:w2=x:=by simpa using hw2
   exact De hs hx hp zo hne hw
 ·have h2:i=m:=by simp at h2;omega
  refine AW.exit ?_;refine AW.ay 0 Z Z (λF2 hF2 hB2=>?_);refine aj ?_;refine AW.ret ⟨_,[],⟨_,_,rfl,rfl,rfl⟩,bY,rfl,_,m,_,xs,rfl,hv1.arr hF2 hB2,AS _,?_,λ_=>Iff.rfl⟩;rw[RN zo] at hst;exact hst
def aQ(g:ai)(x:Lr):Option Sym:=
 if x.az=g.rules.length then (if x.dot=0 then some ⟨false,g.start⟩ else none) else match g.rules[x.az]? with
  | some r=>r.right[x.dot]?
  | none=>none
theorem lZ(F:ar)(g:ai)(hg4:∀r∈g.rules,r.right.length<=100){a:Option Addr}{m c:Nat}(hr:bj cC F a m c g.rules)(hm:m<=1000000)(x:Lr)(hx:x.az<=m) :
  Abs.Spec CC 150 [.agg ⟨ak g a m c⟩,.agg ⟨[.int .i64 x.az,.int .i64 x.dot]⟩] F [] λ_ v o=>o=[]/\∃(y:Sym) (b:Bool),v=.tuple ⟨[.agg ⟨[.bool y.term,.int .i64 y.n]⟩,.bool b]⟩/\(b=true->aQ g x=some y)/\(b=false->aQ g x=none):=by
 have hml:=hr.len;unfold ak;refine Abs.Spec.fn (n:=37) Tryz.func150 rfl rfl λown=>?_;refine AW.seq (AW.dp ?_);refine WT.cy Z Z Z Z Z Z (λi2 hi2=>?_);refine WT.cy Z Z Z Z Z Z (λi3 hi3=>?_);refine WT.aK hT Z Z Z Z Z Z (λi4 hi4=>?_);refine aw ?_;refine AW.cond Z (λh=>?_) (λh=>?_)
 ·have h:x.az=g.rules.length:=by simp at h;omega
  refine aw ?_;refine AW.draw (ps:=[(4,2),(4,6),(5,2),(5,6)]) Z Z ?_;refine aw ?_;refine WT.a6 Tryz.func84 Z Z Z Z Z Z (va _ _) (λv hv=>?_);subst hv;refine aw ?_;refine⟨oY,?_⟩;refine AW.ret ⟨_,[],⟨_,_,⟨_,rfl,λG h0 s0=>br (s0.has (p:=0) Z me) (bO hT rfl)⟩,⟨_,_,rfl,rfl,rfl⟩,rfl⟩,bY,rfl,⟨false,g.start⟩,_,rfl,λhb=>?_,λhb=>?_⟩
  ·unfold aQ;rw[By h,By (by simpa using hb)]
  ·unfold aQ;rw[By h,AT (by simpa using hb)]
 ·have h:x.az<g.rules.length:=by simp at h;omega
  refine aw ?_;refine WT.bG hT hr Z Z Z Z Z Z Z Z Z zo (λr hrx b5 off5 ro5 cs5 lx5 hb5 hp5 hrel5=>?_);obtain⟨ra,rn,rc,rfl,hra⟩:=hrel5;have hral:=hra.len;have hr4:=hg4 r (gM hrx);have ha:aQ g x=r.right[x.dot]?:=by
   unfold aQ;rw[AT zo,hrx]
  refine aw ?_;refine AW.cond Z (λh2=>?_) (λh2=>?_)
  ·have h2:x.dot<rn:=by simp at h2;omega
   refine aw ?_;refine WT.bG hT hra Z Z Z Z Z Z Z Z Z zo (λy hy b6 off6 ro6 cs6 lx6 hb6 hp6 hrel6=>?_);obtain rfl:lx6=_:=hrel6;refine aw ?_;refine AW.ret ⟨_,[],⟨_,_,⟨_,rfl,λG h0 s0=>br (s0.has (p:=0) Z me) (bO hT rfl)⟩,⟨_,_,rfl,rfl,rfl⟩,rfl⟩,bY,rfl,y,true,rfl,λ_=>?_,λhb=>by cases hb⟩;rw[ha,hy]
  ·have h2:rn<=x.dot:=by simp at h2;omega
   refine aw ?_;refine AW.ret ⟨_,[],⟨_,_,⟨_,rfl,λG h0 s0=>br (s0.has (p:=0) Z me) (bO hT rfl)⟩,⟨_,_,rfl,rfl,rfl⟩,rfl⟩,bY,rfl,⟨false,0⟩,false,rfl,λhb=>(by cases hb),λ_=>?_⟩;rw[ha,TR];omega
inductive fD(g:ai)(l:List Lr):Lr->Prop
 | base {x:Lr}:x∈l->fD g l x
 | more {x:Lr} {n k:Nat} {r:bW}:fD g l x->aQ g x=some ⟨false,n⟩->g.rules[k]?=some r->r.left=n->fD g l ⟨k,0⟩
structure oB(g:ai)(l xs:List Lr):Prop where
 ad:∃ad:List Nat,xs=l++ad.map (λk=>⟨k,0⟩)/\ad.Nodup/\∀k∈ad,k<g.rules.length
 x7:∀x∈xs,fD g l x
def Il(g:ai)(xs:List Lr)(x:Lr):Prop:=∀n k r,aQ g x=some ⟨false,n⟩->g.rules[k]?=some r->r.left=n->(⟨k,0⟩:Lr)∈xs
theorem oB.qL{g:ai}{l xs:List Lr}(h:oB g l xs):xs.length<=l.length+g.rules.length:=by
 obtain⟨ad,rfl,hn,hk⟩:=h.ad;have:=qM _ ad hn hk;rw[RP,RL];omega
theorem oB.az{g:ai}{l xs:List Lr}(h:oB g l xs)(hl:∀x∈l,x.az<=g.rules.length):∀x∈xs,x.az<=g.rules.length:=by
 obtain⟨ad,rfl,hn,hk⟩:=h.ad;intro x hx;rcases R5.1 hx with h1 | h1
 ·exact hl x h1
 ·obtain⟨k,h2,rfl⟩:=RI.1 h1;exact SF (hk k h2)
theorem oB.add{g:ai}{l xs:List Lr}(h:oB g l xs){x:Lr}(hx:x∈xs){n k:Nat}{r:bW}(h1:aQ g x=some ⟨false,n⟩)(h2:g.rules[k]?=some r)(h3:r.left=n)(hno:(⟨k,0⟩:Lr)∉xs):oB g l (xs++[⟨k,0⟩]):=by
 obtain⟨ad,e,hn,hk⟩:=h.ad;refine⟨⟨ad++[k],by rw[e];simp,?_,?_⟩,?_⟩
 ·rw[S5];refine⟨hn,by simp,λa ha b hb=>?_⟩;obtain rfl:b=k:=by simpa using hb
  rintro rfl;exact hno (by rw[e];exact SC _ (RI.2 ⟨_,ha,rfl⟩))
 ·intro a ha;rcases R5.1 ha with ha | ha
  ·exact hk a ha
  ·obtain rfl:a=k:=by simpa using ha
   exact(gS h2).1
 ·intro y hy;rcases R5.1 hy with hy | hy
  ·exact h.x7 y hy
  ·obtain rfl:y=⟨k,0⟩:=by simpa using hy
   exact .more (h.x7 x hx) h1 h2 h3
theorem oB.full{g:ai}{l xs:List Lr}(h:oB g l xs)(hf:∀x∈xs,Il g xs x)(x:Lr):x∈xs↔fD g l x:=by
 refine⟨h.x7 x,λhc=>?_⟩
 induction hc with
 | base h1=>obtain⟨ad,rfl,_⟩:=h.ad;exact Sw _ h1
 | more _ h2 h3 h4 ih=>exact hf _ ih _ _ _ h2 h3 h4
theorem Il.more{g:ai}{xs:List Lr}{x y:Lr}(h:Il g xs x):Il g (xs++[y]) x:=λn k r h1 h2 h3=>Sw _ (h n k r h1 h2 h3)
structure Qp where
 i:Nat
 xs:List Lr
 a:Option Addr
 c:Nat
 B:List (Nat×aE)
theorem rA(F:ar)(g:ai)(hg4:∀r∈g.rules,r.right.length<=100){a:Option Addr}{m c:Nat}(hr:bj cC F a m c g.rules)(hm:m<=100){b:Option Addr}{n d:Nat}{l:List Lr}(hl:bj fY F b n d l)(hn:n<=1000)(hok:∀x∈l,x.az<=g.rules.length) :
  Abs.Spec CC 152 [.agg ⟨ak g a m c⟩,.slice b n d] F [] λF' v o=>o=[]/\∃a' m' c' zs,v=.slice a' m' c'/\bj fY F' a' m' c' zs/\m'<=n+m/\iC zs/\∀z,z∈zs↔fD g l z:=by
 have hml:=hr.len;have hll:=hl.len;unfold ak;refine Abs.Spec.fn (n:=65) Tryz.func152 rfl rfl λown=>?_;refine AW.seq (AW.dp ?_);refine WT.cy Z Z Z Z Z Z (λi2 hi2=>?_);refine aj ?_;refine WT.wQ Tryz.func193 Z Z Z Z Z Z (Aw _ hl zo) (λF1 v B1 hF1 hv=>?_);obtain⟨ca,cc,rfl,hv⟩:=hv;have hr1:=hr.mono hF1;rw[hll] at hv;rw[hll];refine aj ?_;refine AW.block ?_;refine AW.cm (S:=Qp) (λs=>[(6,.int .i64 (s.i:Nat)),(5,.slice s.a s.xs.length s.c)]) (λs=>s.B::[(i2,.cells false [.int .i64 g.ae,.int .i64 g.au,.int .i64 g.start,.slice a m c])]::own)
  (λs G=>dM fY G s.a s.xs.length s.c s.B s.xs/\oB g l s.xs/\s.i<=s.xs.length/\∀x∈s.xs.take s.i,Il g s.xs x) (λs=>n+m-s.i) ⟨0,l,ca,cc,B1⟩
  sM oR ⟨hv,⟨⟨[],by simp,T7,by simp⟩,λx hx=>.base hx⟩,R6 _,by simp⟩ ?_
 intro s F2 hF2 hP;obtain⟨hv2,hci,hil,hfed⟩:=hP;have hr2:=hr1.mono hF2;have hfew:=hci.qL;have hrule:=hci.az hok;refine aj ?_;refine AW.cond Z (λh=>?_) (λh=>?_)
 ·have h:s.i<s.xs.length:=by simpa using h
  obtain⟨x,hx⟩:∃x,s.xs[s.i]?=some x:=⟨_,gE h⟩;have hxm:=gM hx;have hxr:=hrule x hxm;refine aj ?_;refine AW.block ?_;refine aj ?_;refine AW.draw (ps:=[(0,9),(4,9)]) Z Z ?_;refine aj ?_;refine WT.bA hT hv2 Z Z Z Z Z Z Z Z Z h (λb5 hb5=>?_);refine WT.cz hT 0 hv2 hb5 hx Z Z Z Z Z Z Z Z Z (λl hl=>?_);obtain rfl:l=_:=hl;refine WT.a6 Tryz.func150 Z Z Z Z Z Z (lZ _ g hg4 hr2 zo x zo) (λv hv=>?_);obtain⟨y,bo,rfl,hay,han⟩:=hv;refine aj ?_;refine WT.aK hT Z Z Z Z Z Z (λi7 hi7=>?_);refine aj ?_;obtain⟨jb,jcs,hja,hjB,_,_⟩:=hv2.at_ hx
  have hmb:(b5,aE.cells false jcs)∈s.B:=by
   rw[hjB];rw[hb5] at hja;cases hja;exact RR ..
  refine⟨QG,?_⟩;refine aj ?_;have hnext:∀xs',s.xs.length<=xs'.length->xs'.take s.i=s.xs.take s.i->xs'[s.i]?=some x->(∀z∈s.xs.take s.i,Il g xs' z)->Il g xs' x->∀z∈xs'.take (s.i+1),Il g xs' z:=λxs' _ e1 e2 h1 h2 z hz=>by
   rw[RZ,e1,e2] at hz;rcases R5.1 hz with hz | hz
   ·exact h1 z hz
   ·obtain rfl:z=x:=by simpa using hz
    exact h2
  have hskip:Il g s.xs x->∀z∈s.xs.take (s.i+1),Il g s.xs z:=λh=>hnext s.xs (AS _) rfl hx hfed h;cases bo
  ·have han:=han rfl;refine aj ?_;refine AW.cond Z (λ_=>?_) (λh=>(by cases h));refine AW.exit ?_;refine aj ?_;exact⟨⟨s.i+1,s.xs,s.a,s.c,s.B⟩,by dsimp only;omega,sM,dH,hv2,hci,h,hskip (λn k r h1 _ _=>by rw[han] at h1;cases h1)⟩
  have hay:=hay rfl;refine aj ?_;refine AW.cond Z (λh3=>?_) (λh3=>?_)
  ·have h3:y.term=true:=by simpa using h3
   refine AW.exit ?_;refine aj ?_;exact⟨⟨s.i+1,s.xs,s.a,s.c,s.B⟩,by dsimp only;omega,sM,dH,hv2,hci,h,hskip (λn k r h1 _ _=>by rw[hay] at h1;injection h1 with h1;rw[h1] at h3;cases h3)⟩
  have h3:y.term=false:=by simpa using h3
  have hay2:aQ g x=some ⟨false,y.n⟩:=by rw[hay,<-h3]
  refine aj ?_;refine AW.range (S:=Qp) (λu=>[(5,.slice u.a u.xs.length u.c)]) (λu=>[(i7,.cells false [.bool y.term,.int .i64 y.n])]::u.B::[(i2,.cells false [.int .i64 g.ae,.int .i64 g.au,.int .i64 g.start,.slice a m c])]::own)
   (λk u G=>dM fY G u.a u.xs.length u.c u.B u.xs/\oB g l u.xs/\s.xs.length<=u.xs.length/\u.xs.take s.i=s.xs.take s.i/\u.xs[s.i]?=some x/\(∀z∈s.xs.take s.i,Il g u.xs z)/\∀k' r,k'<k->g.rules[k']?=some r->r.left=y.n->(⟨k',0⟩:Lr)∈u.xs) m ⟨0,s.xs,s.a,s.c,s.B⟩
   Z Z Z Z Z Z Z Z Z zo rfl rfl (λ_=>rfl) (λ_=>rfl) sM oR ⟨hv2,hci,AS _,rfl,hx,hfed,λk' r h=>absurd h (Tl _)⟩ ?_ ?_
  ·intro j u F3 hF3 hj hP;obtain⟨hvu,hcu,hlu,htu,hxu,hfu,hku⟩:=hP;have hr3:=hr2.mono hF3;have hfewu:=hcu.qL;have hxum:=gM hxu;refine aj ?_;refine WT.bG hT hr3 Z Z Z Z Z Z Z Z Z zo (λr hrj b8 off8 ro8 cs8 lx8 hb8 hp8 hrel8=>?_);obtain⟨ra,rn,rc,rfl,hra⟩:=hrel8;refine aj ?_;refine WT.aK hT Z Z Z Z Z Z (λi10 hi10=>?_);refine aj ?_;refine WT.aK hT Z Z Z Z Z Z (λi11 hi11=>?_);refine aj ?_;refine WT.split 50 Z (λh4=>?_) (λh4=>?_)
   ·have h4:r.left=y.n:=by simp at h4;omega
    refine aj ?_;refine WT.jt 3 Tryz.func194 Z Z Z Z Z Z Z (λG hG hBG=>uX G (hvu.arr hG hBG) zo ⟨j,0⟩) (λv hv=>?_);subst hv;refine aj ?_;refine AW.cond Z (λh5=>?_) (λh5=>?_)
    ·have h5:(⟨j,0⟩:Lr)∉u.xs:=by simpa using h5
     refine aj ?_;have hbu:=hvu.Qz (λe=>by rw[e] at hxum;cases hxum);refine WT.be hT Z Z Z Z Z Z Z Z Z Z Z Z Z Z (λi12 hi12=>?_);refine WT.bX (ys:=[(⟨j,0⟩:Lr)]) hT 4 hbu Z (λ_=>rfl) Z Z Z Z Z Z Z Z Z Z Z (λh0 s0=>bw hT s0 0 Z Z Z Z) (aH.single (R:=fY) (x:=(⟨j,0⟩:Lr)) rfl) Z (by decide) kF (λa3 c3 B3 hB3=>?_);have hl2:u.xs.length+1=(u.xs++[(⟨j,0⟩:Lr)]).length:=by simp
     rw[hl2] at hB3 ⊢;refine aj ?_;have hil2:s.i<u.xs.length:=by omega
     refine⟨⟨0,u.xs++[⟨j,0⟩],a3,c3,B3⟩,sM,dH,hB3.vec,hcu.add hxum hay2 hrj h4 h5,by simp;omega,?_,?_,λz hz=>(hfu z hz).more,λk' r' h1 h2 h3=>?_⟩
     ·show (u.xs++[_]).take s.i=_;rw[List.take_append_of_le_length zo,htu]
     ·show (u.xs++[_])[s.i]?=_;rw[RW hil2,hxu]
     ·rcases R2 k' j with h6 | h6
      ·exact Sw _ (hku k' r' h6 h2 h3)
      ·obtain rfl:k'=j:=by omega
       exact SC _ me
    ·have h5:(⟨j,0⟩:Lr)∈u.xs:=by simpa using h5
     refine aj ?_;refine⟨u,sM,dH,hvu,hcu,hlu,htu,hxu,hfu,λk' r' h1 h2 h3=>?_⟩;rcases R2 k' j with h6 | h6
     ·exact hku k' r' h6 h2 h3
     ·obtain rfl:k'=j:=by omega
      exact h5
   ·have h4:r.left≠y.n:=by simp at h4;omega
    refine aj ?_;refine AW.cond Z (λh=>(by cases h)) (λ_=>?_);refine aj ?_;refine⟨u,sM,dH,hvu,hcu,hlu,htu,hxu,hfu,λk' r' h1 h2 h3=>?_⟩;rcases R2 k' j with h6 | h6
    ·exact hku k' r' h6 h2 h3
    ·obtain rfl:k'=j:=by omega
     rw[hrj] at h2;cases h2;exact absurd h3 h4
  ·intro u F3 hF3 hP;obtain⟨hvu,hcu,hlu,htu,hxu,hfu,hku⟩:=hP;have hfewu:=hcu.qL;refine aj ?_;refine⟨⟨s.i+1,u.xs,u.a,u.c,u.B⟩,by dsimp only;omega,sM,dH,hvu,hcu,by dsimp only;omega,hnext u.xs hlu htu hxu hfu (λn k r h1 h2 h3=>?_)⟩;rw[hay2] at h1;cases h1;have:=(gS h2).1;exact hku k r zo h2 h3
 ·have h:s.i=s.xs.length:=by simp at h;omega
  rw[h,T6] at hfed;have hfull:=hci.full hfed;refine AW.exit ?_;refine aj ?_;obtain⟨hp,hs⟩:=we Ju s.xs;have hsl:=hp.length_eq;refine WT.cW 0 Tryz.func195 Z Z Z Z Z Z Z (λ_=>rfl) (Bh _ (CD _) hv2 zo) (λF7 v B7 hF7 hv7=>?_);refine aj ?_;refine WT.Ix (oin:=[B7]) Tryz.func197 Z Z Z Z Z Z (wo F7 hv7 zo hs) (NO _) (λF8 v oout hF8 hv8=>?_);obtain⟨rfl,a8,m8,c8,zs,rfl,hz,hzm,hst,hmem⟩:=hv8;refine aj ?_;refine AW.ret ⟨_,[],⟨_,_,rfl,rfl,rfl⟩,bY,rfl,a8,m8,c8,zs,rfl,hz,by omega,hst,λz=>?_⟩;rw[hmem,hp.mem_iff,hfull]
inductive HD(g:ai):Nat->Prop
 | mk {r:bW}:r∈g.rules->(∀s∈r.right,s.term=false)->(∀s∈r.right,HD g s.n)->HD g r.left
def gP(g:ai)(l:List Sym):Prop:=∀s∈l,s.term=false/\HD g s.n
inductive Fg(g:ai):Nat->Nat->Prop
 | term {r:bW} {pre post:List Sym} {t:Nat}:r∈g.rules->r.right=pre++⟨true,t⟩::post->gP g pre->Fg g r.left t
 | JD {r:bW} {pre post:List Sym} {m t:Nat}:r∈g.rules->r.right=pre++⟨false,m⟩::post->gP g pre->Fg g m t->Fg g r.left t
def dq(g:ai)(l:List Sym)(t:Nat):Prop:=∃pre s post,l=pre++s::post/\gP g pre/\(s=⟨true,t⟩\/(s.term=false/\Fg g s.n t))
theorem HD.of{g:ai}{r:bW}(h:r∈g.rules)(h2:gP g r.right):HD g r.left:=.mk h (λs hs=>(h2 s hs).1) (λs hs=>(h2 s hs).2)
theorem Fg.of{g:ai}{r:bW}{t:Nat}(h:r∈g.rules)(h2:dq g r.right t):Fg g r.left t:=by
 obtain⟨pre,s,post,e,hn,h3⟩:=h2;rcases h3 with rfl | ⟨h3,h4⟩
 ·exact .term h e hn
 ·obtain⟨b,n⟩:=s;obtain rfl:b=false:=h3;exact .JD h e hn h4
theorem gP.nil{g:ai}:gP g []:=λ_ h=>by cases h
theorem gP.cons{g:ai}{s:Sym}{l:List Sym}(h1:s.term=false)(h2:HD g s.n)(h:gP g l):gP g (s::l):=λx hx=>by
 rcases R0.1 hx with rfl | hx
 ·exact⟨h1,h2⟩
 ·exact h x hx
theorem dq.head{g:ai}{s:Sym}{l:List Sym}{t:Nat}(h:s=⟨true,t⟩\/(s.term=false/\Fg g s.n t)):dq g (s::l) t:=⟨[],s,l,rfl,gP.nil,h⟩
theorem dq.cons{g:ai}{s:Sym}{l:List Sym}{t:Nat}(h1:s.term=false)(h2:HD g s.n)(h:dq g l t):dq g (s::l) t:=by
 obtain⟨pre,x,post,e,hn,h3⟩:=h;exact⟨s::pre,x,post,by rw[e];rfl,gP.cons h1 h2 hn,h3⟩
mutual
theorem bD.begin{g:ai}{w:List Nat}:∀{t:Tree} {s:Sym} {i j:Nat},bD g w s t i j->(i=j->s.term=false/\HD g s.n)/\(i<j->∃c,w[i]?=some c/\(s=⟨true,c⟩\/(s.term=false/\Fg g s.n c)))
 | .mk _ _ _,_,i,_,.leaf h=>⟨λe=>by omega,λ_=>⟨_,h,.inl rfl⟩⟩
 | .mk _ _ ks,_,i,j,.node h h2=>by
  have hm:=gM h;obtain⟨h3,h4⟩:=aI.begin h2;refine⟨λe=>⟨rfl,.of hm (h3 e)⟩,λe=>?_⟩;obtain⟨c,hc,hb⟩:=h4 e;exact⟨c,hc,.inr ⟨rfl,.of hm hb⟩⟩
theorem aI.begin{g:ai}{w:List Nat}:∀{ts:List Tree} {l:List Sym} {i j:Nat},aI g w l ts i j->(i=j->gP g l)/\(i<j->∃c,w[i]?=some c/\dq g l c)
 | [],_,i,_,.nil=>⟨λ_=>gP.nil,λe=>by omega⟩
 | t::ts,_,i,j,.cons (m:=m) h1 h2=>by
  have hle1:=(bD.le h1).1;have hle2:=(aI.le h2).1;obtain⟨a1,a2⟩:=bD.begin h1;obtain⟨b1,b2⟩:=aI.begin h2;refine⟨λe=>?_,λe=>?_⟩
  ·obtain⟨h3,h4⟩:=a1 zo;exact gP.cons h3 h4 (b1 zo)
  ·by_cases hm:i<m
   ·obtain⟨c,hc,h5⟩:=a2 hm;exact⟨c,hc,dq.head h5⟩
   ·obtain rfl:i=m:=by omega
    obtain⟨h3,h4⟩:=a1 rfl;obtain⟨c,hc,h5⟩:=b2 e;exact⟨c,hc,dq.cons h3 h4 h5⟩
end
def bg(g:ai)(k:Nat):List Sym:=if k=g.rules.length then [⟨false,g.start⟩] else ((g.rules[k]?).map (·.right)).getD []
theorem cD{g:ai}{k:Nat}{r:bW}(h:g.rules[k]?=some r):bg g k=r.right:=by
 unfold bg;rw[AT (by have:=(gS h).1;omega),h];rfl
theorem iA{g:ai}:bg g g.rules.length=[⟨false,g.start⟩]:=By rfl
theorem bV{g:ai}{x:Lr}:aQ g x=(bg g x.az)[x.dot]?:=by
 unfold aQ bg;split
 ·cases hd:x.dot with
  | zero=>rfl
  | succ d=>rfl
 ·cases h:g.rules[x.az]? with
  | none=>rfl
  | some r=>rfl
def cI(g:ai)(x:Lr):List Sym:=(bg g x.az).drop (x.dot+1)
structure qx(g:ai)(it:Nat->Lr->Prop)(la:Nat->Lr->Nat->Prop)(go:Nat->Sym->Option Nat):Prop where
 start:it 0 ⟨g.rules.length,0⟩
 Eo:la 0 ⟨g.rules.length,0⟩ g.ae
 x7:∀{s:Nat} {x:Lr} {k:Nat} {r:bW},it s x->aQ g x=some ⟨false,r.left⟩->g.rules[k]?=some r->it s ⟨k,0⟩
 fP:∀{s:Nat} {x:Lr} {k:Nat} {r:bW} {t u:Nat},it s x->la s x u->aQ g x=some ⟨false,r.left⟩->g.rules[k]?=some r->(dq g (cI g x) t\/(gP g (cI g x)/\la s x t))->la s ⟨k,0⟩ t
 step:∀{s:Nat} {x:Lr} {y:Sym},it s x->aQ g x=some y->∃s',go s y=some s'/\it s' ⟨x.az,x.dot+1⟩/\∀t,la s x t->la s' ⟨x.az,x.dot+1⟩ t
 back:∀{s s':Nat} {y:Sym} {k d:Nat},go s y=some s'->it s' ⟨k,d+1⟩->it s ⟨k,d⟩/\aQ g ⟨k,d⟩=some y
 fill:∀{s:Nat} {k:Nat} {r:bW},it s ⟨k,0⟩->g.rules[k]?=some r->∃s',go s ⟨false,r.left⟩=some s'
 first:∀{s:Nat},it s ⟨g.rules.length,0⟩->s=0
 zero:∀{s:Nat} {y:Sym},go s y≠some 0
 Qk:∀{x:Lr},it 0 x->x.dot=0
inductive Act where
 | no
 | shift (s:Nat)
 | red (k:Nat)
 | acc
deriving DecidableEq
inductive y3(g:ai)(it:Nat->Lr->Prop)(la:Nat->Lr->Nat->Prop)(go:Nat->Sym->Option Nat)(s t:Nat):Act->Prop
 | shift {s':Nat}:t<g.ae->go s ⟨true,t⟩=some s'->y3 g it la go s t (.shift s')
 | red {k:Nat} {r:bW}:g.rules[k]?=some r->it s ⟨k,r.right.length⟩->la s ⟨k,r.right.length⟩ t->y3 g it la go s t (.red k)
 | acc:it s ⟨g.rules.length,1⟩->la s ⟨g.rules.length,1⟩ t->y3 g it la go s t .acc
structure LD(g:ai)(it:Nat->Lr->Prop)(la:Nat->Lr->Nat->Prop)(go:Nat->Sym->Option Nat)(act:Nat->Nat->Act):Prop where
 all:∀{s t:Nat} {a:Act},y3 g it la go s t a->act s t=a
 one:∀{s t:Nat},act s t≠.no->y3 g it la go s t (act s t)
abbrev EB:=List Nat×List Tree
def km(σ:List Nat):Nat:=σ.getLast?.getD 0
def MV(g:ai)(go:Nat->Sym->Option Nat)(act:Nat->Nat->Act)(t:Nat)(c:EB):EB:=match act (km c.1) t with
 | .red k=>match g.rules[k]? with
  | some r=>(c.1.take (c.1.length-r.right.length)++[(go (km (c.1.take (c.1.length-r.right.length))) ⟨false,r.left⟩).getD 0],
    c.2.take (c.2.length-r.right.length)++[.mk k 0 (c.2.drop (c.2.length-r.right.length))])
  | none=>c
 | _=>c
def lookW(g:ai)(w:List Nat)(i:Nat):Nat:=(w[i]?).getD g.ae
inductive Hc(g:ai)(go:Nat->Sym->Option Nat)(w:List Nat):List Nat->List Tree->Nat->Prop
 | nil:Hc g go w [0] [] 0
 | snoc {σ:List Nat} {τ:List Tree} {i j s s':Nat} {y:Sym} {T:Tree}:Hc g go w (σ++[s]) τ i->go s y=some s'->bD g w y T i j->Hc g go w (σ++[s]++[s']) (τ++[T]) j
theorem pj(σ:List Nat)(s:Nat):km (σ++[s])=s:=by unfold km;rw[List.getLast?_append];rfl
section
variable {g:ai}{it:Nat->Lr->Prop}{la:Nat->Lr->Nat->Prop}{go:Nat->Sym->Option Nat}{act:Nat->Nat->Act}{w:List Nat}
inductive FK(g:ai)(go:Nat->Sym->Option Nat)(act:Nat->Nat->Act)(w:List Nat)(a:EB×Nat):Nat->EB×Nat->Prop
 | refl:FK g go act w a 0 a
 | red {n:Nat} {c:EB} {i k:Nat}:FK g go act w a n (c,i)->act (km c.1) (lookW g w i)=.red k->FK g go act w a (n+1) (MV g go act (lookW g w i) c,i)
 | shift {n:Nat} {c:EB} {i t s':Nat}:FK g go act w a n (c,i)->w[i]?=some t->act (km c.1) t=.shift s'->FK g go act w a n ((c.1++[s'],c.2++[.mk (-1) t []]),i+1)
theorem FK.trans{a b c:EB×Nat}{n m:Nat}(h1:FK g go act w a n b)(h2:FK g go act w b m c):FK g go act w a (n+m) c:=by
 induction h2 with
 | refl=>exact h1
 | red h3 h4 ih=>exact .red ih h4
 | shift h3 h4 h5 ih=>exact .shift ih h4 h5
def kQ(g:ai)(la:Nat->Lr->Nat->Prop)(s:Nat)(x:Lr)(t:Nat):Prop:=dq g (cI g x) t\/(gP g (cI g x)/\la s x t)
theorem lA{i t:Nat}(h:w[i]?=some t):lookW g w i=t:=by unfold lookW;rw[h];rfl
mutual
theorem bD.run(ok:qx g it la go)(on:LD g it la go act)(hw:∀t∈w,t<g.ae):∀{T:Tree} {X:Sym} {i j:Nat},bD g w X T i j->∀{σ:List Nat} {τ:List Tree} {x:Lr},it (km σ) x->(∃u,la (km σ) x u)->aQ g x=some X->kQ g la (km σ) x (lookW g w j)->
  ∃s' n,go (km σ) X=some s'/\n<=T.pre.length/\FK g go act w ((σ,τ),i) n ((σ++[s'],τ++[T]),j)
 | .mk _ t _,_,i,_,.leaf h,σ,τ,x,hx,_,ha,_=>by
  obtain⟨s',h1,h2,h3⟩:=ok.step hx ha;have hact:=on.all (.shift (hw t (gM h)) h1);exact⟨s',0,h1,R6 _,.shift (c:=(σ,τ)) .refl h hact⟩
 | .mk _ _ ks,_,i,j,.node (k:=k) (r:=r) h h2,σ,τ,x,hx,⟨u,hu⟩,ha,hal=>by
  obtain⟨s',h3,_,_⟩:=ok.step hx ha;have hk0:=ok.x7 hx ha h;have hk1:=ok.fP (t:=lookW g w j) hx hu ha h hal;obtain⟨σ',n,e1,e2,e3,e4,e5⟩:=aI.run ok on hw h2 (σ:=σ) (τ:=τ) (k:=k) (d:=0) (r:=r) h hk0 hk1 (R6 _) rfl;have hact:=on.all (.red h e2 e3);refine⟨s',n+1,h3,?_,?_⟩
  ·show n+1<=((k:Int)::BG ks).length;rw[R4];omega
  ·have hred:=FK.red e5 hact;have hsl:σ'.length=r.right.length:=by rw[e1,aI.len h2]
   have e:MV g go act (lookW g w j) (σ++σ',τ++ks)=(σ++[s'],τ++[.mk k 0 ks]):=by
    unfold MV;dsimp only;rw[hact];dsimp only;rw[h];dsimp only;have e7:(σ++σ').length-r.right.length=σ.length:=by rw[RP,hsl];omega
    have e8:(τ++ks).length-r.right.length=τ.length:=by rw[RP,aI.len h2];omega
    rw[e7,e8,List.take_left,List.take_left,List.drop_left,h3];rfl
   rw[e] at hred;exact hred
theorem aI.run(ok:qx g it la go)(on:LD g it la go act)(hw:∀t∈w,t<g.ae):∀{ts:List Tree} {l:List Sym} {i j:Nat},aI g w l ts i j->∀{σ:List Nat} {τ:List Tree} {k d:Nat} {r:bW},g.rules[k]?=some r->it (km σ) ⟨k,d⟩->la (km σ) ⟨k,d⟩ (lookW g w j)->d<=r.right.length->r.right.drop d=l->
  ∃σ' n,σ'.length=ts.length/\it (km (σ++σ')) ⟨k,r.right.length⟩/\la (km (σ++σ')) ⟨k,r.right.length⟩ (lookW g w j)/\n<=(BG ts).length/\FK g go act w ((σ,τ),i) n ((σ++σ',τ++ts),j)
 | [],_,i,_,.nil,σ,τ,k,d,r,hk,hit,hla,hdl,hd=>by
  obtain rfl:d=r.right.length:=by have:=List.drop_eq_nil_iff.1 hd;omega
  refine⟨[],0,rfl,?_,?_,R6 _,?_⟩
  ·rw[Sq];exact hit
  ·rw[Sq];exact hla
  ·rw[Sq,Sq];exact .refl
 | T::ts,s::l,i,j,.cons (m:=m) h1 h2,σ,τ,k,d,r,hk,hit,hla,hdl,hd=>by
  have hd1:r.right[d]?=some s:=by rw[<-List.head?_drop,hd];rfl
  have hd2:r.right.drop (d+1)=l:=by rw[<-List.tail_drop,hd];rfl
  have hdlt:=(gS hd1).1;have haf:aQ g ⟨k,d⟩=some s:=by rw[bV];show (bg g k)[d]?=_;rw[cD hk];exact hd1
  have hrest:cI g ⟨k,d⟩=l:=by unfold cI;show (bg g k).drop (d+1)=_;rw[cD hk];exact hd2
  obtain⟨b1,b2⟩:=aI.begin h2;have hle:=(aI.le h2).1;have hal:kQ g la (km σ) ⟨k,d⟩ (lookW g w m):=by
   unfold kQ;rw[hrest];by_cases hm:m<j
   ·obtain⟨c,hc,h5⟩:=b2 hm;rw[lA hc];exact .inl h5
   ·obtain rfl:m=j:=by omega
    exact .inr ⟨b1 rfl,hla⟩
  obtain⟨s',n1,e1,e2,e3⟩:=bD.run ok on hw h1 hit ⟨_,hla⟩ haf hal;obtain⟨s2,f1,f2,f3⟩:=ok.step hit haf;rw[e1] at f1;obtain rfl:=BY f1;obtain⟨σ',n2,g1,g2,g3,g4,g5⟩:=aI.run ok on hw h2 (σ:=σ++[s']) (τ:=τ++[T]) (k:=k) (d:=d+1) (r:=r) hk (by rw[pj];exact f2) (by rw[pj];exact f3 _ hla) hdlt hd2;have e:∀x:List Nat,σ++[s']++x=σ++(s'::x):=λx=>by simp
  have e':∀x:List Tree,τ++[T]++x=τ++(T::x):=λx=>by simp
  rw[e] at g2 g3 g5;rw[e'] at g5;refine⟨s'::σ',n1+n2,by rw[R4,g1];rfl,g2,g3,?_,e3.trans g5⟩;show _<=(T.pre++BG ts).length;rw[RP];omega
end
end
theorem iC.I6{l:List Lr}(h:iC l):l.Nodup:=
 List.Pairwise.imp (λ{a b} hab e=>by subst e;rw[j6] at hab;omega) h
theorem oG{l1 l2:List Lr}(h1:iC l1)(h2:iC l2)(h:∀z,z∈l1↔z∈l2):l1=l2:=
 List.Perm.eq_of_pairwise (le:=λx y=>qe x y=true) (λa b _ _ h1 h2=>by rw[j6] at h1 h2;omega) h1 h2 ((Tt h1.I6 h2.I6).2 h)
def rS(g:ai):List Lr:=((List.range (g.rules.length+1)).map λk=>(List.range ((bg g k).length+1)).map λd=>(⟨k,d⟩:Lr)).flatten
theorem yJ{g:ai}{z:Lr}:z∈rS g↔z.az<=g.rules.length/\z.dot<=(bg g z.az).length:=by
 unfold rS;rw[UZ];constructor
 ·rintro⟨l,hl,hz⟩;obtain⟨k,hk,rfl⟩:=RI.1 hl;obtain⟨d,hd,rfl⟩:=RI.1 hz;rw[RQ] at hk hd;exact⟨by dsimp only;omega,by dsimp only;omega⟩
 ·rintro⟨h1,h2⟩;exact⟨_,RI.2 ⟨z.az,RQ.2 zo,rfl⟩,RI.2 ⟨z.dot,RQ.2 zo,rfl⟩⟩
theorem oo{α:Type}{R:α->α->Prop}{f:Nat->α}:∀{n:Nat},(∀i j,i<j->j<n->R (f i) (f j))->((List.range n).map f).Pairwise R:=by
 intro n h;rw[TC];refine List.Pairwise.imp_of_mem ?_ (UY);intro a b ha hb hab;exact h a b hab (RQ.1 hb)
theorem AL(g:ai):iC (rS g):=by
 unfold rS iC;rw[List.pairwise_flatten];refine⟨λl hl=>?_,?_⟩
 ·obtain⟨k,_,rfl⟩:=RI.1 hl;exact oo λi j h _=>j6.2 (.inr ⟨rfl,h⟩)
 ·refine oo λi j h _ x hx y hy=>?_;obtain⟨_,_,rfl⟩:=RI.1 hx;obtain⟨_,_,rfl⟩:=RI.1 hy;exact j6.2 (.inl h)
noncomputable def fP(g:ai)(l:List Lr):List Lr:=(rS g).filter λz=>@decide (fD g l z) (Classical.propDecidable _)
theorem mM(g:ai)(l:List Lr):iC (fP g l):=Sx _ (AL g)
def jR(g:ai)(x:Lr):Prop:=x.az<=g.rules.length/\x.dot<=(bg g x.az).length
theorem fD.Rb{g:ai}{l:List Lr}(hl:∀x∈l,jR g x){x:Lr}(h:fD g l x):jR g x:=by
 induction h with
 | base h=>exact hl _ h
 | more _ _ h _ _=>exact⟨SF (gS h).1,R6 _⟩
theorem dm{g:ai}{l:List Lr}(hl:∀x∈l,jR g x){z:Lr}:z∈fP g l↔fD g l z:=by
 unfold fP;rw[RJ,yJ];constructor
 ·rintro⟨_,h⟩;exact @of_decide_eq_true _ (Classical.propDecidable _) h
 ·intro h;exact⟨h.Rb hl,@decide_eq_true _ (Classical.propDecidable _) h⟩
theorem BM{g:ai}{l zs:List Lr}(hl:∀x∈l,jR g x)(h1:iC zs)(h2:∀z,z∈zs↔fD g l z):zs=fP g l:=
 oG h1 (mM g l) λz=>by rw[h2,dm hl]
section
variable {α:Type}[DecidableEq α]
def de(bz:List α):Option α->List α×Int
 | none=>(bz,-1)
 | some s=>if s∈bz then (bz,(bz.idxOf s:Nat)) else (bz++[s],(bz.length:Nat))
def bZ:List α->List (Option α)->List α×List Int
 | bz,[]=>(bz,[])
 | bz,o::os=>((bZ (de bz o).1 os).1,(de bz o).2::(bZ (de bz o).1 os).2)
def mh(most:Nat)(step:α->List (Option α)):Nat->Nat->List α->List (List Int)->Option (List α×List (List Int))
 | 0,_,_,_=>none
 | f+1,i,bz,rows=>match bz[i]? with
  | none=>some (bz,rows)
  | some st=>if (bZ bz (step st)).1.length<=most then mh most step f (i+1) (bZ bz (step st)).1 (rows++[(bZ bz (step st)).2]) else none
structure BF(bz:List α)(os:List (Option α))(row:List Int):Prop where
 len:row.length=os.length
 no:∀k:Nat,os[k]?=some none->row[k]?=some (-1)
 yes:∀(k:Nat) (s:α),os[k]?=some (some s)->∃j:Nat,row[k]?=some (j:Int)/\bz[j]?=some s
theorem Hk(bz:List α)(o:Option α):(∃ex,(de bz o).1=bz++ex)/\(bz.Nodup->(de bz o).1.Nodup)/\(∀s∈(de bz o).1,s∈bz\/o=some s)/\
  (o=none->(de bz o).2=-1)/\(∀s,o=some s->∃j:Nat,(de bz o).2=(j:Int)/\(de bz o).1[j]?=some s):=by
 cases o with
 | none=>exact⟨⟨[],(Sq _).symm⟩,λh=>h,λs h=>.inl h,λ_=>rfl,λs h=>by cases h⟩
 | some s=>
  unfold de;by_cases h:s∈bz
  ·simp only[By h];refine⟨⟨[],(Sq _).symm⟩,λh=>h,λs h=>.inl h,λh=>(by cases h),λs' e=>?_⟩;cases e;exact⟨_,rfl,by rw[gE (Uz h),List.getElem_idxOf]⟩
  ·simp only[AT h];refine⟨⟨[s],rfl⟩,λhn=>?_,λx hx=>?_,λh=>(by cases h),λs' e=>?_⟩
   ·rw[S5];exact⟨hn,by simp,λa ha b hb e=>h (by rw[RK] at hb;subst hb;subst e;exact ha)⟩
   ·rcases R5.1 hx with hx | hx
    ·exact .inl hx
    ·exact .inr (by rw[RK.1 hx])
   ·cases e;exact⟨_,rfl,by rw[Sj (AS _),TW];rfl⟩
theorem lh:∀(os:List (Option α)) (bz:List α),(∃ex,(bZ bz os).1=bz++ex)/\(bz.Nodup->(bZ bz os).1.Nodup)/\(∀s∈(bZ bz os).1,s∈bz\/some s∈os)/\BF (bZ bz os).1 os (bZ bz os).2
 | [],bz=>⟨⟨[],(Sq _).symm⟩,λh=>h,λs h=>.inl h,⟨rfl,λk h=>by simp at h,λk s h=>by simp at h⟩⟩
 | o::os,bz=>by
  obtain⟨⟨e1,h1⟩,h2,h3,h4,h5⟩:=Hk bz o;obtain⟨⟨e2,g1⟩,g2,g3,g4⟩:=lh os (de bz o).1;have e:(bZ bz (o::os))=((bZ (de bz o).1 os).1,(de bz o).2::(bZ (de bz o).1 os).2):=rfl;rw[e];refine⟨⟨e1++e2,?_⟩,λhn=>g2 (h2 hn),λs hs=>?_,⟨?_,λk hk=>?_,λk s hk=>?_⟩⟩
  ·rw[g1,h1,SL]
  ·rcases g3 s hs with hs | hs
   ·rcases h3 s hs with hs | hs
    ·exact .inl hs
    ·exact .inr (by rw[hs];exact RR ..)
   ·exact .inr (If _ hs)
  ·simp only[R4,g4.len]
  ·cases k with
   | zero=>simp only[UR] at hk ⊢;rw[h4 (BY hk)]
   | succ k=>simp only[TA] at hk ⊢;exact g4.no k hk
  ·cases k with
   | zero=>
    simp only[UR] at hk ⊢;obtain⟨j,h6,h7⟩:=h5 s (BY hk);refine⟨j,by rw[h6],?_⟩;show (bZ (de bz o).1 os).1[j]?=some s;rw[g1,RW (gS h7).1];exact h7
   | succ k=>simp only[TA] at hk ⊢;exact g4.yes k s hk
omit [DecidableEq α] in
theorem BF.more{bz ex:List α}{os:List (Option α)}{row:List Int}(h:BF bz os row):BF (bz++ex) os row:=
 ⟨h.len,h.no,λk s hk=>let ⟨j,h1,h2⟩:=h.yes k s hk;⟨j,h1,by rw[RW (gS h2).1];exact h2⟩⟩
structure ou(most:Nat)(step:α->List (Option α))(first:α)(i:Nat)(bz:List α)(rows:List (List Int)):Prop where
 first:bz[0]?=some first
 nodup:bz.Nodup
 qL:bz.length<=most
 len:rows.length=i
 le:i<=bz.length
 row:∀(k:Nat) (st:α) (row:List Int),bz[k]?=some st->rows[k]?=some row->BF bz (step st) row
 from_:∀(j:Nat) (st:α),0<j->bz[j]?=some st->∃(k:Nat) (sk:α),k<j/\k<i/\bz[k]?=some sk/\some st∈step sk
theorem ou.next{most:Nat}{step:α->List (Option α)}{first:α}{i:Nat}{bz:List α}{rows:List (List Int)}(h:ou most step first i bz rows){st:α}(hst:bz[i]?=some st)(hm:(bZ bz (step st)).1.length<=most) :
  ou most step first (i+1) (bZ bz (step st)).1 (rows++[(bZ bz (step st)).2]):=by
 obtain⟨⟨ex,h1⟩,h2,h3,h4⟩:=lh (step st) bz;have hi:=(gS hst).1;have hleft:∀k,k<bz.length->(bZ bz (step st)).1[k]?=bz[k]?:=λk hk=>by rw[h1,RW hk]
 refine⟨by rw[hleft 0 zo];exact h.first,h2 h.nodup,hm,by rw[RP,h.len];rfl,by rw[h1,RP];omega,λk sk row hk hr=>?_,λj sj hj hsj=>?_⟩
 ·by_cases e:k<i
  ·rw[hleft k zo] at hk;rw[RW (by rw[h.len];exact e)] at hr;have:=h.row k sk row hk hr;rw[h1];exact this.more
  ·have hk2:k=i:=by
    have:=(gS hr).1;rw[RP,h.len,Tw] at this;omega
   subst hk2;rw[hleft k hi,hst] at hk;obtain rfl:=BY hk;rw[Sj (by rw[h.len];exact AS _),h.len,TW] at hr;obtain rfl:=BY hr;exact h4
 ·by_cases e:j<bz.length
  ·rw[hleft j e] at hsj;obtain⟨k,sk,g1,g2,g3,g4⟩:=h.from_ j sj hj hsj;exact⟨k,sk,g1,by omega,by rw[hleft k zo];exact g3,g4⟩
  ·refine⟨i,st,by omega,by omega,by rw[hleft i hi];exact hst,?_⟩;rcases h3 sj (gM hsj) with h5 | h5
   ·exfalso;obtain⟨k,hk,hk2⟩:=SJ h5;have hnd:=h2 h.nodup;have e1:(bZ bz (step st)).1[k]?=some sj:=by rw[hleft k hk,gE hk,hk2]
    have e2:=(gS hsj).1;have:=(List.getElem?_inj (by rw[h1,RP];omega) hnd).1 (e1.trans hsj.symm);omega
   ·exact h5
omit [DecidableEq α] in
theorem ou.begin{most:Nat}(step:α->List (Option α))(first:α)(hm:1<=most):ou most step first 0 [first] []:=
 ⟨rfl,by simp,hm,rfl,R6 _,λk st row _ h=>by simp at h,λj st hj h=>by
  have:=(gS h).1;rw[Tw] at this;omega⟩
theorem zI{most:Nat}{step:α->List (Option α)}{first:α}:∀(f i:Nat) {bz:List α} {rows:List (List Int)},ou most step first i bz rows->∀{sts' rows'},mh most step f i bz rows=some (sts',rows')->ou most step first sts'.length sts' rows'
 | 0,_,_,_,_,_,_,h=>by cases h
 | f+1,i,bz,rows,hI,sts',rows',h=>by
  unfold mh at h;split at h
  ·rename_i hn;cases h;have:=TR.1 hn;have hle:=hI.le;have e:i=bz.length:=by omega
   rw[<-e];exact hI
  ·rename_i st hst;split at h
   ·rename_i hm;exact zI f (i+1) (hI.next hst hm) h
   ·cases h
end
theorem ou.all{α:Type}{most:Nat}{step:α->List (Option α)}{first:α}{i:Nat}{bz:List α}{rows:List (List Int)}(h:ou most step first i bz rows){P:α->Prop}(h0:P first)(hs:∀st s,P st->some s∈step st->P s):∀(j:Nat) (st:α),bz[j]?=some st->P st:=by
 intro j
 induction j using Nat.strongRecOn with
 | _ j ih=>
  intro st hst;by_cases e:j=0
  ·subst e;rw[h.first] at hst
   obtain rfl:=BY hst;exact h0
  ·obtain⟨k,sk,h1,_,h3,h4⟩:=h.from_ j st zo hst;exact hs sk st (ih k h1 sk h3) h4
def fz(g:ai)(st:List Lr)(y:Sym):List Lr:=st.filterMap λx=>if aQ g x=some y then some ⟨x.az,x.dot+1⟩ else none
theorem iI{g:ai}{st:List Lr}{y:Sym}{z:Lr}:z∈fz g st y↔∃x∈st,aQ g x=some y/\z=⟨x.az,x.dot+1⟩:=by
 unfold fz;rw[Uk];constructor
 ·rintro⟨x,hx,h⟩;split at h
  ·rename_i ha;exact⟨x,hx,ha,(BY h).symm⟩
  ·cases h
 ·rintro⟨x,hx,ha,rfl⟩;exact⟨x,hx,by rw[By ha]⟩
def cB(g:ai):List Sym:=((List.range g.ae).map λt=>(⟨true,t⟩:Sym))++(List.range g.au).map λn=>(⟨false,n⟩:Sym)
def EU(g:ai)(y:Sym):Nat:=if y.term=true then y.n else y.n+g.ae
def Mz(g:ai)(y:Sym):Bool:=if y.term=true then decide (y.n<g.ae) else decide (y.n<g.au)
theorem lM{g:ai}{y:Sym}:Mz g y=true↔ck g.ae g.au y:=by
 unfold Mz ck;split<;>simp
theorem gg(g:ai):(cB g).length=g.ae+g.au:=by unfold cB;simp
theorem qU{g:ai}{y:Sym}(h:ck g.ae g.au y):(cB g)[EU g y]?=some y:=by
 obtain⟨b,n⟩:=y;unfold cB EU;unfold ck at h;cases b with
 | true=>
  have h:n<g.ae:=h;rw[By rfl,RW (by simpa using h)];simp[h]
 | false=>
  have h:n<g.au:=h;rw[AT (by simp),Sj (by simp)];simp[h]
theorem Db{g:ai}{k:Nat}{y:Sym}(h:(cB g)[k]?=some y):ck g.ae g.au y/\EU g y=k:=by
 unfold cB at h;by_cases hk:k<g.ae
 ·rw[RW (by simpa using hk)] at h;simp[hk] at h;subst h;exact⟨hk,rfl⟩
 ·rw[Sj (by simp;omega)] at h;rw[RL,S0,RM] at h;cases he:(List.range g.au)[k-g.ae]? with
  | none=>rw[he] at h;cases h
  | some n=>
   rw[he] at h;obtain rfl:=BY h;have h1:=gS he;obtain⟨h1,h2⟩:=h1;rw[List.getElem_range] at h2;rw[S0] at h1;refine⟨show n<g.au by omega,?_⟩;show n+g.ae=k;omega
theorem qo{g:ai}(hg:Valid g){x:Lr}{y:Sym}(h:aQ g x=some y):ck g.ae g.au y:=by
 rw[bV] at h;unfold bg at h;split at h
 ·have:=gM h;rw[RK.1 this];exact hg.range.start
 ·cases hr:g.rules[x.az]? with
  | none=>rw[hr] at h;simp at h
  | some r=>
   rw[hr] at h;exact(hg.right r (gM hr)).2.2 y (gM h)
theorem fD.zero{g:ai}{l:List Lr}{z:Lr}(h:fD g l z):z∈l\/(z.dot=0/\z.az<g.rules.length):=by
 cases h with
 | base h=>exact .inl h
 | more _ _ h _=>exact .inr ⟨rfl,(gS h).1⟩
structure jy(g:ai)(I:List (List Lr))(rows:List (List Int)):Prop where
 len:rows.length=I.length
 ok:∀(s:Nat) (st:List Lr),I[s]?=some st->∀x∈st,jR g x
 zero:∃st,I[0]?=some st/\∀z,z∈st↔fD g [⟨g.rules.length,0⟩] z
 from_:∀(s:Nat) (st:List Lr),0<s->I[s]?=some st->∃l:List Lr,(∀x∈l,0<x.dot)/\l≠[]/\∀z,z∈st↔fD g l z
 row:∀(s:Nat) (st:List Lr) (row:List Int),I[s]?=some st->rows[s]?=some row->row.length=g.ae+g.au
 no:∀(s k:Nat) (st:List Lr) (row:List Int) (y:Sym),I[s]?=some st->rows[s]?=some row->(cB g)[k]?=some y->fz g st y=[]->row[k]?=some (-1)
 yes:∀(s k:Nat) (st:List Lr) (row:List Int) (y:Sym),I[s]?=some st->rows[s]?=some row->(cB g)[k]?=some y->fz g st y≠[]->∃(j:Nat) (st':List Lr),row[k]?=some (j:Int)/\I[j]?=some st'/\∀z,z∈st'↔fD g (fz g st y) z
def nj(I:List (List Lr))(s:Nat)(x:Lr):Prop:=∃st,I[s]?=some st/\x∈st
def jP(g:ai)(rows:List (List Int))(s:Nat)(y:Sym):Option Nat:=if Mz g y=true then (match rows[s]? with
 | some row=>(match row[EU g y]? with
  | some j=>if 0<=j then some j.toNat else none
  | none=>none)
 | none=>none) else none
section
variable {g:ai}{I:List (List Lr)}{rows:List (List Int)}
theorem jy.rowAt(h:jy g I rows){s:Nat}{st:List Lr}(hs:I[s]?=some st):∃row,rows[s]?=some row:=⟨_,gE (by rw[h.len];exact(gS hs).1)⟩
theorem jy.go(hg:Valid g)(h:jy g I rows){s:Nat}{st:List Lr}(hs:I[s]?=some st){y:Sym}(hy:ck g.ae g.au y) :
  (fz g st y=[]->jP g rows s y=none)/\(fz g st y≠[]->∃j st',jP g rows s y=some j/\I[j]?=some st'/\∀z,z∈st'↔fD g (fz g st y) z):=by
 obtain⟨row,hr⟩:=h.rowAt hs;have hk:=qU hy;unfold jP;rw[By (lM.2 hy),hr];dsimp only;refine⟨λe=>?_,λe=>?_⟩
 ·rw[h.no s _ st row y hs hr hk e];rfl
 ·obtain⟨j,st',h1,h2,h3⟩:=h.yes s _ st row y hs hr hk e;rw[h1];exact⟨j,st',by simp,h2,h3⟩
theorem jy.goes(hg:Valid g)(h:jy g I rows){s s':Nat}{y:Sym}(hgo:jP g rows s y=some s'):∃st st',I[s]?=some st/\I[s']?=some st'/\fz g st y≠[]/\∀z,z∈st'↔fD g (fz g st y) z:=by
 have hy:ck g.ae g.au y:=by
  unfold jP at hgo;split at hgo
  ·rename_i hb;exact lM.1 hb
  ·cases hgo
 obtain⟨st,hs⟩:∃st,I[s]?=some st:=by
  unfold jP at hgo;rw[By (lM.2 hy)] at hgo;split at hgo
  ·rename_i row hr;exact⟨_,gE (by rw[<-h.len];exact(gS hr).1)⟩
  ·cases hgo
 obtain⟨h1,h2⟩:=h.go hg hs hy;by_cases e:fz g st y=[]
 ·rw[h1 e] at hgo;cases hgo
 ·obtain⟨j,st',h3,h4,h5⟩:=h2 e;rw[hgo] at h3;obtain rfl:=BY h3;exact⟨st,st',hs,h4,e,h5⟩
theorem jy.lr(hg:Valid g)(h:jy g I rows){la:Nat->Lr->Nat->Prop}(h0:la 0 ⟨g.rules.length,0⟩ g.ae)
  (hc:∀{s:Nat} {x:Lr} {k:Nat} {r:bW} {t u:Nat},nj I s x->la s x u->aQ g x=some ⟨false,r.left⟩->g.rules[k]?=some r->(dq g (cI g x) t\/(gP g (cI g x)/\la s x t))->la s ⟨k,0⟩ t)
  (hs:∀{s s':Nat} {x:Lr} {y:Sym},nj I s x->aQ g x=some y->jP g rows s y=some s'->∀t,la s x t->la s' ⟨x.az,x.dot+1⟩ t):qx g (nj I) la (jP g rows):=by
 obtain⟨st0,hst0,hz⟩:=h.zero;have hall:∀{s:Nat} {st:List Lr},I[s]?=some st->∃l:List Lr,(∀z,z∈st↔fD g l z)/\((s=0/\l=[⟨g.rules.length,0⟩])\/∀x∈l,0<x.dot):=λ{s st} hst=>by
  rcases TP s with rfl | hp
  ·rw[hst0] at hst;obtain rfl:=BY hst;exact⟨_,hz,.inl ⟨rfl,rfl⟩⟩
  ·obtain⟨l,h1,_,h3⟩:=h.from_ s st hp hst;exact⟨l,h3,.inr h1⟩
 exact {
  start:=⟨st0,hst0,(hz _).2 (.base me)⟩
  Eo:=h0
  x7:=λ{s x k r} ⟨st,hst,hx⟩ ha hr=>by
   obtain⟨l,hl,_⟩:=hall hst;exact⟨st,hst,(hl _).2 (.more ((hl _).1 hx) ha hr rfl)⟩
  fP:=hc
  step:=λ{s x y} hit ha=>by
   obtain⟨st,hst,hx⟩:=id hit;have hm:(⟨x.az,x.dot+1⟩:Lr)∈fz g st y:=iI.2 ⟨x,hx,ha,rfl⟩;obtain⟨j,st',h1,h2,h3⟩:=(h.go hg hst (qo hg ha)).2 (λe=>by rw[e] at hm;cases hm);exact⟨j,h1,⟨st',h2,(h3 _).2 (.base hm)⟩,hs hit ha h1⟩
  back:=λ{s s' y k d} hgo ⟨st2,hst2,hx⟩=>by
   obtain⟨st,st',h1,h2,_,h4⟩:=h.goes hg hgo;rw[h2] at hst2;obtain rfl:=BY hst2;rcases ((h4 _).1 hx).zero with h5 | ⟨h5,_⟩
   ·obtain⟨z,hz1,hz2,hz3⟩:=iI.1 h5;obtain⟨Z,zd⟩:=z;simp only[Lr.mk.injEq,Nat.add_right_cancel_iff] at hz3;obtain⟨rfl,rfl⟩:=hz3;exact⟨⟨st,h1,hz1⟩,hz2⟩
   ·exact absurd h5 (Nat.succ_ne_zero d)
  fill:=λ{s k r} ⟨st,hst,hx⟩ hr=>by
   obtain⟨l,hl,hl2⟩:=hall hst;have hk:=(gS hr).1;have hc:=(hl _).1 hx;cases hc with
   | base hb=>
    rcases hl2 with ⟨_,rfl⟩ | hl2
    ·have e:=RK.1 hb;simp only[Lr.mk.injEq,UP] at e;omega
    ·exact absurd (hl2 _ hb) (Tr 0)
   | more h1 h2 h3 h4=>
    rw[hr] at h3;obtain rfl:=BY h3;subst h4;have hm:=iI.2 ⟨_,(hl _).2 h1,h2,rfl⟩;obtain⟨j,st',g1,_,_⟩:=(h.go hg hst (qo hg h2)).2 (λe=>by rw[e] at hm;cases hm);exact⟨j,g1⟩
  first:=λ{s} ⟨st,hst,hx⟩=>by
   obtain⟨l,hl,hl2⟩:=hall hst;rcases hl2 with ⟨h1,_⟩ | hl2
   ·exact h1
   ·rcases ((hl _).1 hx).zero with h3 | ⟨_,h3⟩
    ·exact absurd (hl2 _ h3) (Tr 0)
    ·exact absurd h3 (Tr _)
  zero:=λ{s y} hgo=>by
   obtain⟨st,st',h1,h2,h3,h4⟩:=h.goes hg hgo;rw[hst0] at h2;obtain rfl:=BY h2;obtain⟨z,hzk⟩:=List.exists_mem_of_ne_nil _ h3;have hd:0<z.dot:=by obtain⟨x,_,_,rfl⟩:=iI.1 hzk;exact Nat.succ_pos _
   rcases ((hz z).1 ((h4 z).2 (.base hzk))).zero with h5 | ⟨h5,_⟩
   ·rw[RK.1 h5] at hd;exact absurd hd (Tr 0)
   ·omega
  Qk:=λ{x} ⟨st,hst,hx⟩=>by
   rw[hst0] at hst;obtain rfl:=BY hst;rcases ((hz x).1 hx).zero with h5 | ⟨h5,_⟩
   ·rw[RK.1 h5]
   ·exact h5 }
end
noncomputable def bH(P:Nat->Prop):Nat->Nat
 | 0=>0
 | n+1=>bH P n+(if @decide (P n) (Classical.propDecidable _)=true then 2 ^ n else 0)
theorem jX(P:Nat->Prop):∀n,bH P n<2 ^ n
 | 0=>Nat.one_pos
 | n+1=>by
  have:=jX P n;unfold bH;rw[TG];split<;>omega
theorem gO(P:Nat->Prop):∀(n t:Nat),(bH P n).testBit t=true↔t<n/\P t
 | 0,t=>by unfold bH;simp
 | n+1,t=>by
  have h1:=jX P n;have h2:=gO P n t;unfold bH;by_cases e:t=n
  ·subst e;have h3:(bH P t).testBit t=false:=TF h1;split
   ·rename_i h;rw[Ud,Nat.testBit_two_pow_add_eq,h3];simp only[TN,true_iff];exact⟨Td _,@of_decide_eq_true _ (Classical.propDecidable _) h⟩
   ·rename_i h;rw[Tq,h3];simp only[S6,false_iff,not_and];exact λ_ hp=>h (@decide_eq_true _ (Classical.propDecidable _) hp)
  ·have h4:(t<n+1/\P t)↔(t<n/\P t):=⟨λ⟨a,b⟩=>⟨by omega,b⟩,λ⟨a,b⟩=>⟨by omega,b⟩⟩;rw[h4,<-h2];split
   ·by_cases e2:t<n
    ·rw[Ud,Nat.testBit_two_pow_add_gt zo]
    ·have e3:n<t:=by omega
     have a1:(bH P n).testBit t=false:=TF (Nat.lt_trans h1 (Uc (by decide) e3));have a2:(bH P n+2 ^ n).testBit t=false:=TF (by
      have:2 ^ (n+1)<=2 ^ t:=RS (by decide) e3;rw[TG] at this;omega)
     rw[a1,a2]
   ·rw[Tq]
structure bQ where
 item:Lr
 set:Nat
deriving DecidableEq,Inhabited
def aP(l:List bQ):List Lr:=l.map (·.item)
inductive Ei(g:ai)(l:List bQ):Lr->Nat->Prop
 | base {z:Lr} {m t:Nat}:⟨z,m⟩∈l->m.testBit t=true->t<=g.ae->Ei g l z t
 | DA {x:Lr} {k t:Nat} {r:bW}:fD g (aP l) x->aQ g x=some ⟨false,r.left⟩->g.rules[k]?=some r->dq g (cI g x) t->Ei g l ⟨k,0⟩ t
 | pass {x:Lr} {k t:Nat} {r:bW}:fD g (aP l) x->aQ g x=some ⟨false,r.left⟩->g.rules[k]?=some r->gP g (cI g x)->Ei g l x t->Ei g l ⟨k,0⟩ t
noncomputable def dx(g:ai)(l:List bQ):List bQ:=(fP g (aP l)).map λz=>⟨z,bH (Ei g l z) (g.ae+1)⟩
theorem eS(g:ai)(l:List bQ):aP (dx g l)=fP g (aP l):=by
 unfold aP dx;rw[Ti];have:(λx:bQ=>x.item) ∘ (λz=>(⟨z,bH (Ei g l z) (g.ae+1)⟩:bQ))=id:=rfl;rw[this,List.map_id];rfl
theorem vJ{g:ai}{l:List bQ}(hl:∀x∈aP l,jR g x){z:Lr}{m:Nat}:⟨z,m⟩∈dx g l↔fD g (aP l) z/\m=bH (Ei g l z) (g.ae+1):=by
 unfold dx;rw[RI];constructor
 ·rintro⟨x,hx,e⟩;rw[dm hl] at hx;simp only[bQ.mk.injEq] at e;obtain⟨rfl,rfl⟩:=e;exact⟨hx,rfl⟩
 ·rintro⟨hz,rfl⟩;exact⟨z,(dm hl).2 hz,rfl⟩
theorem Fg.lt{g:ai}(hg:Valid g){n t:Nat}(h:Fg g n t):t<g.ae:=by
 induction h with
 | term hr e _=>
  have:=(hg.right _ hr).2.2 ⟨true,_⟩ (by rw[e];exact SC _ me);exact this
 | JD _ _ _ _ ih=>exact ih
theorem dq.lt{g:ai}(hg:Valid g){l:List Sym}(hl:∀s∈l,ck g.ae g.au s){t:Nat}(h:dq g l t):t<g.ae:=by
 obtain⟨pre,s,post,rfl,_,h3⟩:=h;rcases h3 with rfl | ⟨_,h4⟩
 ·exact hl _ (SC _ me)
 ·exact h4.lt hg
theorem tL{g:ai}(hg:Valid g)(k:Nat):∀s∈bg g k,ck g.ae g.au s:=by
 unfold bg;split
 ·intro s hs;rw[RK.1 hs];exact hg.range.start
 ·cases h:g.rules[k]? with
  | none=>intro s hs;cases hs
  | some r=>exact(hg.right r (gM h)).2.2
theorem z6{g:ai}(hg:Valid g){x:Lr}{t:Nat}(h:dq g (cI g x) t):t<g.ae:=
 h.lt hg λs hs=>tL hg _ s (TY hs)
theorem Ei.le{g:ai}(hg:Valid g){l:List bQ}{z:Lr}{t:Nat}(h:Ei g l z t):t<=g.ae:=by
 induction h with
 | base _ _ h=>exact h
 | DA _ _ _ h=>exact SF (z6 hg h)
 | pass _ _ _ _ _ ih=>exact ih
theorem Ei.x7{g:ai}{l:List bQ}{z:Lr}{t:Nat}(h:Ei g l z t):fD g (aP l) z:=by
 cases h with
 | base h _ _=>exact .base (RI.2 ⟨_,h,rfl⟩)
 | DA h1 h2 h3 _=>exact .more h1 h2 h3 rfl
 | pass h1 h2 h3 _ _=>exact .more h1 h2 h3 rfl
theorem BA{g:ai}(hg:Valid g){l:List bQ}(hl:∀x∈aP l,jR g x){z:Lr}{t:Nat}:(∃m,⟨z,m⟩∈dx g l/\m.testBit t=true)↔Ei g l z t:=by
 constructor
 ·rintro⟨m,hm,ht⟩;obtain⟨_,rfl⟩:=(vJ hl).1 hm;exact((gO _ _ _).1 ht).2
 ·intro h;exact⟨_,(vJ hl).2 ⟨h.x7,rfl⟩,(gO _ _ _).2 ⟨Uw (h.le hg),h⟩⟩
noncomputable def sx(g:ai)(st:List Lr):List (Option (List Lr)):=(cB g).map λy=>if fz g st y=[] then none else some (fP g (fz g st y))
def ju(g:ai)(st:List bQ)(y:Sym):List bQ:=st.filterMap λx=>if aQ g x.item=some y then some ⟨⟨x.item.az,x.item.dot+1⟩,x.set⟩ else none
noncomputable def zC(g:ai)(st:List bQ):List (Option (List bQ)):=(cB g).map λy=>if ju g st y=[] then none else some (dx g (ju g st y))
noncomputable def lX(g:ai):List Lr:=fP g [⟨g.rules.length,0⟩]
noncomputable def A1(g:ai):List bQ:=dx g [⟨⟨g.rules.length,0⟩,2 ^ g.ae⟩]
noncomputable def kI(g:ai):Option (List (List Lr)×List (List Int)):=mh 400 (sx g) 401 0 [lX g] []
noncomputable def JL(g:ai):Option (List (List bQ)×List (List Int)):=mh 400 (zC g) 401 0 [A1 g] []
theorem kN(g:ai)(st:List bQ)(y:Sym):aP (ju g st y)=fz g (aP st) y:=by
 unfold aP ju fz
 induction st with
 | nil=>rfl
 | cons a st ih=>
  rw[JN,List.filterMap_cons,List.filterMap_cons];by_cases h:aQ g a.item=some y
  ·rw[By h,By h];simp only[JN,ih]
  ·rw[AT h,AT h];exact ih
theorem G7{g:ai}{st:List bQ}{y:Sym}{z:Lr}{m:Nat}:⟨z,m⟩∈ju g st y↔∃x,⟨x,m⟩∈st/\aQ g x=some y/\z=⟨x.az,x.dot+1⟩:=by
 unfold ju;rw[Uk];constructor
 ·rintro⟨⟨x,n⟩,hx,h⟩;split at h
  ·rename_i ha;have:=BY h;simp only[bQ.mk.injEq] at this;obtain⟨rfl,rfl⟩:=this;exact⟨x,hx,ha,rfl⟩
  ·cases h
 ·rintro⟨x,hx,ha,rfl⟩;exact⟨⟨x,m⟩,hx,by rw[By ha]⟩
theorem gi{g:ai}{st:List Lr}{y:Sym}:∀z∈fz g st y,jR g z/\0<z.dot:=by
 intro z hz;obtain⟨x,_,ha,rfl⟩:=iI.1 hz;rw[bV] at ha;have h2:=(gS ha).1;refine⟨⟨?_,h2⟩,Nat.succ_pos _⟩;show x.az<=_;rcases R2 g.rules.length x.az with h | h
 ·unfold bg at h2;rw[AT zo,R3 zo] at h2;simp at h2
 ·exact h
theorem js{g:ai}:∀z∈[(⟨g.rules.length,0⟩:Lr)],jR g z:=by
 intro z hz;rw[RK.1 hz];exact⟨AS _,R6 _⟩
theorem ox{α β:Type}{f:α->β}{l:List α}{k:Nat}{a:α}(h:l[k]?=some a):(l.map f)[k]?=some (f a):=by rw[RM,h];rfl
theorem ld{g:ai}{l:List Lr}:∀x∈fP g l,jR g x:=λx hx=>yJ.1 (RJ.1 hx).1
theorem kz{g:ai}{I:List (List Lr)}{rows:List (List Int)}(h:kI g=some (I,rows)):jy g I rows/\ou 400 (sx g) (lX g) I.length I rows:=by
 have hN:=zI 401 0 (ou.begin (sx g) (lX g) (by decide)) h;refine⟨?_,hN⟩;have hstep:∀(st:List Lr) (k:Nat) (y:Sym),(cB g)[k]?=some y->(sx g st)[k]?=some (if fz g st y=[] then none else some (fP g (fz g st y))):=λst k y hk=>ox hk;exact {
  len:=hN.len
  ok:=hN.all (P:=λst=>∀x∈st,jR g x) ld (λst s _ hs=>by
   obtain⟨y,_,hy⟩:=RI.1 hs;split at hy
   ·cases hy
   ·obtain rfl:=BY hy;exact ld)
  zero:=⟨_,hN.first,λz=>dm js⟩
  from_:=λs st hp hs=>by
   obtain⟨k,sk,_,_,h3,h4⟩:=hN.from_ s st hp hs;obtain⟨y,_,hy⟩:=RI.1 h4;split at hy
   ·cases hy
   ·rename_i hne;obtain rfl:=BY hy;exact⟨_,λx hx=>(gi x hx).2,hne,λz=>dm λx hx=>(gi x hx).1⟩
  row:=λs st row hs hr=>by
   rw[(hN.row s st row hs hr).len];unfold sx;rw[RL,gg]
  no:=λs k st row y hs hr hk he=>(hN.row s st row hs hr).no k (by rw[hstep st k y hk,By he])
  yes:=λs k st row y hs hr hk he=>by
   obtain⟨j,h1,h2⟩:=(hN.row s st row hs hr).yes k _ (by rw[hstep st k y hk,AT he]);exact⟨j,_,h1,h2,λz=>dm λx hx=>(gi x hx).1⟩ }
theorem td{g:ai}{st:List bQ}{y:Sym}:ju g st y=[]↔fz g (aP st) y=[]:=by
 rw[<-kN];unfold aP;exact List.map_eq_nil_iff.symm
theorem rF{g:ai}{S:List (List bQ)}{rows:List (List Int)}(h:JL g=some (S,rows)):jy g (S.map aP) rows/\ou 400 (zC g) (A1 g) S.length S rows:=by
 have hN:=zI 401 0 (ou.begin (zC g) (A1 g) (by decide)) h;refine⟨?_,hN⟩;have hstep:∀(st:List bQ) (k:Nat) (y:Sym),(cB g)[k]?=some y->(zC g st)[k]?=some (if ju g st y=[] then none else some (dx g (ju g st y))):=λst k y hk=>ox hk;have hat:∀{s:Nat} {st:List Lr},(S.map aP)[s]?=some st->∃sk,S[s]?=some sk/\st=aP sk:=λ{s st} hs=>by
  rw[RM] at hs;cases hk:S[s]? with
  | none=>rw[hk] at hs;cases hs
  | some sk=>rw[hk] at hs;exact⟨sk,rfl,(BY hs).symm⟩
 have hmem:∀(st:List bQ) (y:Sym) (z:Lr),z∈aP (dx g (ju g st y))↔fD g (fz g (aP st) y) z:=λst y z=>by
  rw[eS,kN,dm λx hx=>(gi x hx).1]
 exact {
  len:=by rw[RL];exact hN.len
  ok:=λs st hs=>by
   obtain⟨sk0,hs0,rfl⟩:=hat hs;refine hN.all (P:=λst=>∀x∈aP st,jR g x) (λx hx=>?_) (λst s _ hs=>?_) s sk0 hs0
   ·unfold A1 at hx;rw[eS] at hx;exact ld x hx
   ·obtain⟨y,_,hy⟩:=RI.1 hs;split at hy
    ·cases hy
    ·obtain rfl:=BY hy;intro x hx;rw[eS] at hx;exact ld x hx
  zero:=⟨_,ox hN.first,λz=>by
   show z∈aP (dx g _)↔_;rw[eS];exact dm js⟩
  from_:=λs st hp hs=>by
   obtain⟨sk0,hs0,rfl⟩:=hat hs;obtain⟨k,sk,_,_,h3,h4⟩:=hN.from_ s sk0 hp hs0;obtain⟨y,_,hy⟩:=RI.1 h4;split at hy
   ·cases hy
   ·rename_i hne;obtain rfl:=BY hy;exact⟨_,λx hx=>(gi x hx).2,λe=>hne (td.2 e),hmem sk y⟩
  row:=λs st row hs hr=>by
   obtain⟨sk0,hs0,rfl⟩:=hat hs;rw[(hN.row s sk0 row hs0 hr).len];unfold zC;rw[RL,gg]
  no:=λs k st row y hs hr hk he=>by
   obtain⟨sk0,hs0,rfl⟩:=hat hs;exact(hN.row s sk0 row hs0 hr).no k (by rw[hstep sk0 k y hk,By (td.2 he)])
  yes:=λs k st row y hs hr hk he=>by
   obtain⟨sk0,hs0,rfl⟩:=hat hs;obtain⟨j,h1,h2⟩:=(hN.row s sk0 row hs0 hr).yes k _ (by rw[hstep sk0 k y hk,AT (λe=>he (td.1 e))]);exact⟨j,_,h1,ox h2,hmem sk0 y⟩ }
inductive y2(g:ai):Nat->Prop
 | start:y2 g g.start
 | more {r:bW} {m:Nat}:r∈g.rules->y2 g r.left->⟨false,m⟩∈r.right->y2 g m
inductive Bf(g:ai):Nat->Nat->Prop
 | start:Bf g g.start g.ae
 | DA {r:bW} {pre post:List Sym} {m t:Nat}:r∈g.rules->y2 g r.left->r.right=pre++⟨false,m⟩::post->dq g post t->Bf g m t
 | pass {r:bW} {pre post:List Sym} {m t:Nat}:r∈g.rules->y2 g r.left->r.right=pre++⟨false,m⟩::post->gP g post->Bf g r.left t->Bf g m t
def pN(g:ai)(k:Nat):Nat:=((g.rules[k]?).map (·.left)).getD 0
def nP(g:ai)(x:Lr)(t:Nat):Prop:=if x.az<g.rules.length then Bf g (pN g x.az) t else t=g.ae
theorem lG{g:ai}{k:Nat}{r:bW}(h:g.rules[k]?=some r):pN g k=r.left:=by unfold pN;rw[h];rfl
inductive sI(g:ai)(I:List (List Lr))(rows:List (List Int)):Nat->Lr->Nat->Prop
 | start:sI g I rows 0 ⟨g.rules.length,0⟩ g.ae
 | goto {s s' t:Nat} {x:Lr} {y:Sym}:sI g I rows s x t->nj I s x->aQ g x=some y->jP g rows s y=some s'->sI g I rows s' ⟨x.az,x.dot+1⟩ t
 | OL {x:Lr} {k t:Nat} {r:bW}:nj I 0 x->aQ g x=some ⟨false,r.left⟩->g.rules[k]?=some r->dq g (cI g x) t->sI g I rows 0 ⟨k,0⟩ t
 | DA {s s' u t k:Nat} {v x:Lr} {y:Sym} {r:bW}:sI g I rows s v u->nj I s v->jP g rows s y=some s'->nj I s' x->aQ g x=some ⟨false,r.left⟩->g.rules[k]?=some r->dq g (cI g x) t->sI g I rows s' ⟨k,0⟩ t
 | pass {s t k:Nat} {x:Lr} {r:bW}:sI g I rows s x t->nj I s x->aQ g x=some ⟨false,r.left⟩->g.rules[k]?=some r->gP g (cI g x)->sI g I rows s ⟨k,0⟩ t
noncomputable def kP(g:ai)(I:List (List Lr))(la:Nat->Lr->Nat->Prop):List (List bQ):=(List.range I.length).map λs=>(I.getD s []).map λx=>⟨x,bH (la s x) (g.ae+1)⟩
def rB(S:List (List bQ))(s:Nat)(x:Lr)(t:Nat):Prop:=∃st m,S[s]?=some st/\⟨x,m⟩∈st/\m.testBit t=true
theorem nr{g:ai}{I:List (List Lr)}{la:Nat->Lr->Nat->Prop}{s:Nat}:(kP g I la)[s]?=(I[s]?).map λst=>st.map λx=>⟨x,bH (la s x) (g.ae+1)⟩:=by
 unfold kP;rw[RM];by_cases h:s<I.length
 ·rw[Tg h,gE h,Sp,Sp,No,gE h];rfl
 ·rw[R3 (by simpa using h),R3 zo];rfl
theorem nE{g:ai}{I:List (List Lr)}{la:Nat->Lr->Nat->Prop}:(kP g I la).map aP=I:=by
 apply SA;intro s;rw[RM,nr];cases I[s]? with
 | none=>rfl
 | some st=>
  rw[Sp,Sp];congr 1;unfold aP;rw[Ti];have:(λx:bQ=>x.item) ∘ (λx=>(⟨x,bH (la s x) (g.ae+1)⟩:bQ))=id:=rfl;rw[this,List.map_id]
theorem dh{g:ai}{I:List (List Lr)}{la:Nat->Lr->Nat->Prop}{s:Nat}{x:Lr}{t:Nat}:rB (kP g I la) s x t↔nj I s x/\la s x t/\t<=g.ae:=by
 unfold rB nj;constructor
 ·rintro⟨st,m,h1,h2,h3⟩;rw[nr] at h1;cases hI:I[s]? with
  | none=>rw[hI] at h1;cases h1
  | some st0=>
   rw[hI] at h1;obtain rfl:=BY h1;obtain⟨z,hz,e⟩:=RI.1 h2;simp only[bQ.mk.injEq] at e;obtain⟨rfl,rfl⟩:=e;have:=(gO _ _ _).1 h3;exact⟨⟨st0,rfl,hz⟩,this.2,by omega⟩
 ·rintro⟨⟨st0,h1,h2⟩,h3,h4⟩;exact⟨_,_,by rw[nr,h1];rfl,RI.2 ⟨x,h2,rfl⟩,(gO _ _ _).2 ⟨by omega,h3⟩⟩
theorem zQ{g:ai}{I:List (List Lr)}{rows:List (List Int)}(h:kI g=some (I,rows)):∀(s:Nat) (st:List Lr),I[s]?=some st->∀x∈st,x.az<g.rules.length->y2 g (pN g x.az):=by
 obtain⟨hA,hN⟩:=kz h;have hclos:∀l:List Lr,(∀x∈l,x.az<g.rules.length->y2 g (pN g x.az))->∀z,fD g l z->z.az<g.rules.length->y2 g (pN g z.az):=by
  intro l hl z hz
  induction hz with
  | base h=>exact hl _ h
  | @more x n k r h1 h2 h3 h4 ih=>
   intro _;show y2 g (pN g k);rw[lG h3,h4];rw[bV] at h2;unfold bg at h2;split at h2
   ·have:=RK.1 (gM h2);simp only[Sym.mk.injEq,true_and] at this;subst this;exact .start
   ·cases hr:g.rules[x.az]? with
    | none=>rw[hr] at h2;simp at h2
    | some r2=>
     rw[hr] at h2;have h5:=ih (gS hr).1;rw[lG hr] at h5;exact .more (gM hr) h5 (gM h2)
 refine hN.all (P:=λst=>∀x∈st,x.az<g.rules.length->y2 g (pN g x.az)) (λx hx=>?_) (λst s hst hs=>?_)
 ·refine hclos _ (λy hy hlt=>?_) x ((dm js).1 hx);rw[RK.1 hy] at hlt;exact absurd hlt (Tr _)
 ·obtain⟨y,_,hy⟩:=RI.1 hs;split at hy
  ·cases hy
  ·obtain rfl:=BY hy;intro x hx;refine hclos _ (λz hz=>?_) x ((dm λz hz=>(gi z hz).1).1 hx);obtain⟨q,hq,_,rfl⟩:=iI.1 hz;exact hst q hq
theorem Jy{g:ai}{k d:Nat}{r:bW}{y:Sym}(hr:g.rules[k]?=some r)(h:aQ g ⟨k,d⟩=some y):r.right=r.right.take d++y::cI g ⟨k,d⟩:=by
 rw[bV] at h;have h:(bg g k)[d]?=some y:=h;have e:cI g ⟨k,d⟩=(bg g k).drop (d+1):=rfl;rw[e,cD hr];rw[cD hr] at h;obtain⟨h1,h2⟩:=gS h;rw[<-h2,<-Sa h1,S2]
theorem Dw{g:ai}{d:Nat}{y:Sym}(h:aQ g ⟨g.rules.length,d⟩=some y):y=⟨false,g.start⟩/\d=0/\cI g ⟨g.rules.length,d⟩=[]:=by
 rw[bV] at h;have h:(bg g g.rules.length)[d]?=some y:=h;rw[iA] at h;cases d with
 | zero=>
  refine⟨(BY h).symm,rfl,?_⟩;show (bg g g.rules.length).drop 1=[];rw[iA];rfl
 | succ d=>simp at h
theorem Nz{g:ai}(hg:Valid g){I:List (List Lr)}{rows:List (List Int)}(h:kI g=some (I,rows)):qx g (nj I) (rB (kP g I λ_=>nP g)) (jP g rows):=by
 obtain⟨hA,hN⟩:=kz h;obtain⟨st0,hst0,hz⟩:=hA.zero;refine hA.lr hg (dh.2 ⟨⟨st0,hst0,(hz _).2 (.base me)⟩,?_,AS _⟩) ?_ ?_
 ·unfold nP;rw[AT (Tr _)]
 ·intro s x k r t u hit hu ha hr hb;rw[dh];obtain⟨st,hst,hx⟩:=hit;have hk:=(gS hr).1;obtain⟨xr,xd⟩:=x;have hit2:nj I s ⟨k,0⟩:=by
   rcases TP s with rfl | hp
   ·rw[hst0] at hst;obtain rfl:=BY hst;exact⟨_,hst0,(hz _).2 (.more ((hz _).1 hx) ha hr rfl)⟩
   ·obtain⟨l,_,_,h3⟩:=hA.from_ s st hp hst;exact⟨st,hst,(h3 _).2 (.more ((h3 _).1 hx) ha hr rfl)⟩
  have hfol:nP g ⟨k,0⟩ t:=by
   unfold nP;rw[By hk,lG hr];by_cases hxr:xr<g.rules.length
   ·have hr2:=gE hxr;generalize g.rules[xr]=r2 at hr2;have hm2:=gM hr2;have hre:=zQ h s st hst _ hx hxr;have hre:y2 g (pN g xr):=hre;rw[lG hr2] at hre;have hsp:=Jy hr2 ha;rcases hb with hb | ⟨hb1,hb2⟩
    ·exact .DA hm2 hre hsp hb
    ·have h5:=(dh.1 hb2).2.1;unfold nP at h5;rw[By hxr] at h5;have h5:Bf g (pN g xr) t:=h5;rw[lG hr2] at h5;exact .pass hm2 hre hsp hb1 h5
   ·have hxe:xr=g.rules.length:=by
     have:=(bV (g:=g) (x:=⟨xr,xd⟩)).symm.trans ha;have h2:(bg g xr)[xd]?=some ⟨false,r.left⟩:=this;rcases R2 g.rules.length xr with h3 | h3
     ·unfold bg at h2;rw[AT zo,R3 (l:=g.rules) (i:=xr) zo] at h2;simp at h2
     ·omega
    subst hxe;obtain⟨h1,_,h3⟩:=Dw ha;simp only[Sym.mk.injEq,true_and] at h1;rw[h1];rcases hb with hb | ⟨_,hb2⟩
    ·rw[h3] at hb;obtain⟨pre,s1,post,e,_⟩:=hb;exact absurd (congrArg List.length e) (by simp)
    ·have h5:=(dh.1 hb2).2.1;unfold nP at h5;rw[AT (Tr _)] at h5;rw[h5];exact .start
  refine⟨hit2,hfol,?_⟩;rcases hb with hb | ⟨_,hb2⟩
  ·exact SF (z6 hg hb)
  ·exact(dh.1 hb2).2.2
 ·intro s s' x y hit ha hgo t ht;obtain⟨_,h2,h3⟩:=dh.1 ht;obtain⟨st,st',h4,h5,_,h6⟩:=hA.goes hg hgo;obtain⟨st2,h7,hx⟩:=hit;rw[h4] at h7;obtain rfl:=BY h7;exact dh.2 ⟨⟨st',h5,(h6 _).2 (.base (iI.2 ⟨x,hx,ha,rfl⟩))⟩,h2,h3⟩
theorem K7{g:ai}(hg:Valid g){I:List (List Lr)}{rows:List (List Int)}(h:kI g=some (I,rows)):qx g (nj I) (rB (kP g I (sI g I rows))) (jP g rows):=by
 obtain⟨hA,hN⟩:=kz h;obtain⟨st0,hst0,hz⟩:=hA.zero;have hclos:∀{s:Nat} {x:Lr} {k:Nat} {r:bW},nj I s x->aQ g x=some ⟨false,r.left⟩->g.rules[k]?=some r->nj I s ⟨k,0⟩:=λ{s x k r} ⟨st,hst,hx⟩ ha hr=>by
  rcases TP s with rfl | hp
  ·rw[hst0] at hst;obtain rfl:=BY hst;exact⟨_,hst0,(hz _).2 (.more ((hz _).1 hx) ha hr rfl)⟩
  ·obtain⟨l,_,_,h3⟩:=hA.from_ s st hp hst;exact⟨st,hst,(h3 _).2 (.more ((h3 _).1 hx) ha hr rfl)⟩
 refine hA.lr hg (dh.2 ⟨⟨st0,hst0,(hz _).2 (.base me)⟩,.start,AS _⟩) ?_ ?_
 ·intro s x k r t u hit hu ha hr hb;rw[dh];refine⟨hclos hit ha hr,?_,?_⟩
  ·rcases hb with hb | ⟨hb1,hb2⟩
   ·obtain⟨_,hu2,_⟩:=dh.1 hu;have hrecv:∀{s:Nat} {x:Lr} {u:Nat},sI g I rows s x u->s=0\/∃(q:Nat) (v:Lr) (u2:Nat) (y:Sym),sI g I rows q v u2/\nj I q v/\jP g rows q y=some s:=by
     intro s x u h
     induction h with
     | start=>exact .inl rfl
     | goto h1 h2 h3 h4 _=>exact .inr ⟨_,_,_,_,h1,h2,h4⟩
     | OL _ _ _ _=>exact .inl rfl
     | DA h1 h2 h3 _ _ _ _ _=>exact .inr ⟨_,_,_,_,h1,h2,h3⟩
     | pass _ _ _ _ _ ih=>exact ih
    rcases hrecv hu2 with rfl | ⟨q,v,u2,y,h1,h2,h3⟩
    ·exact .OL hit ha hr hb
    ·exact .DA h1 h2 h3 hit ha hr hb
   ·exact .pass (dh.1 hb2).2.1 hit ha hr hb1
  ·rcases hb with hb | ⟨_,hb2⟩
   ·exact SF (z6 hg hb)
   ·exact(dh.1 hb2).2.2
 ·intro s s' x y hit ha hgo t ht;obtain⟨_,h2,h3⟩:=dh.1 ht;obtain⟨st,st',h4,h5,_,h6⟩:=hA.goes hg hgo;have hit2:=hit;obtain⟨st2,h7,hx⟩:=hit;rw[h4] at h7;obtain rfl:=BY h7;exact dh.2 ⟨⟨st',h5,(h6 _).2 (.base (iI.2 ⟨x,hx,ha,rfl⟩))⟩,.goto h2 hit2 ha hgo,h3⟩
theorem Nq{g:ai}(hg:Valid g){S:List (List bQ)}{rows:List (List Int)}(h:JL g=some (S,rows)):qx g (nj (S.map aP)) (rB S) (jP g rows):=by
 obtain⟨hA,hN⟩:=rF h
 have hform:∀(s:Nat) (st:List bQ),S[s]?=some st->∃l,st=dx g l/\∀x∈aP l,jR g x:=hN.all (P:=λst=>∃l,st=dx g l/\∀x∈aP l,jR g x) ⟨_,rfl,js⟩ (λst s _ hs=>by
  obtain⟨y,_,hy⟩:=RI.1 hs;split at hy
  ·cases hy
  ·obtain rfl:=BY hy;exact⟨_,rfl,λx hx=>by rw[kN] at hx;exact(gi x hx).1⟩)
 have hit_of:∀{s:Nat} {x:Lr},nj (S.map aP) s x->∃st l,S[s]?=some st/\st=dx g l/\(∀x∈aP l,jR g x)/\fD g (aP l) x:=λ{s x} ⟨st,hst,hx⟩=>by
  rw[RM] at hst;cases hk:S[s]? with
  | none=>rw[hk] at hst;cases hst
  | some sk=>
   rw[hk] at hst;obtain rfl:=BY hst;obtain⟨l,rfl,hl⟩:=hform s sk hk;rw[eS,dm hl] at hx;exact⟨_,l,rfl,rfl,hl,hx⟩
 have hla:∀{s:Nat} {l:List bQ} {x:Lr} {t:Nat},S[s]?=some (dx g l)->(∀x∈aP l,jR g x)->(rB S s x t↔Ei g l x t):=λ{s l x t} hs hl=>by
  rw[<-BA hg hl];unfold rB;constructor
  ·rintro⟨st,m,h1,h2,h3⟩;rw[hs] at h1;obtain rfl:=BY h1;exact⟨m,h2,h3⟩
  ·rintro⟨m,h2,h3⟩;exact⟨_,m,hs,h2,h3⟩
 refine hA.lr hg ?_ ?_ ?_
 ·rw[hla (l:=[⟨⟨g.rules.length,0⟩,2 ^ g.ae⟩]) hN.first js]
  exact .base me (by simp) (AS _)
 ·intro s x k r t u hit hu ha hr hb;obtain⟨st,l,h1,rfl,hl,hx⟩:=hit_of hit;rw[hla h1 hl];rcases hb with hb | ⟨hb1,hb2⟩
  ·exact .DA hx ha hr hb
  ·exact .pass hx ha hr hb1 ((hla h1 hl).1 hb2)
 ·intro s s' x y hit ha hgo t ht;obtain⟨st,l,h1,rfl,hl,hx⟩:=hit_of hit;have hy:=qo hg ha;have hmem:∃m,⟨x,m⟩∈dx g l/\m.testBit t=true:=by
   obtain⟨st,m,g1,g2,g3⟩:=ht;rw[h1] at g1;obtain rfl:=BY g1;exact⟨m,g2,g3⟩
  obtain⟨m,hm,hmt⟩:=hmem;have hk:(⟨⟨x.az,x.dot+1⟩,m⟩:bQ)∈ju g (dx g l) y:=G7.2 ⟨x,hm,ha,rfl⟩;have hne:ju g (dx g l) y≠[]:=λe=>by rw[e] at hk;cases hk
  have hl2:∀z∈aP (ju g (dx g l) y),jR g z:=λz hz=>by rw[kN] at hz;exact(gi z hz).1
  obtain⟨row,hrow⟩:∃row,rows[s]?=some row:=⟨_,gE (by rw[hN.len];exact(gS h1).1)⟩;obtain⟨j,g1,g2⟩:=(hN.row s _ row h1 hrow).yes (EU g y) (dx g (ju g (dx g l) y)) (by
   unfold zC;rw[ox (qU hy),AT hne])
  have e:jP g rows s y=some j:=by
   unfold jP;rw[By (lM.2 hy),hrow];dsimp only;rw[g1];simp
  rw[hgo] at e;obtain rfl:=BY e;rw[hla g2 hl2];exact .base hk hmt (by
   have:=(hla h1 hl).1 ht;exact this.le hg)
section
variable {g:ai}{I:List (List Lr)}{rows:List (List Int)}
structure Pj(g:ai)(I:List (List Lr))(rows:List (List Int))(L:List (List bQ)):Prop where
 items:L.map aP=I
 small:∀st∈L,∀x∈st,x.set<2 ^ (g.ae+1)
 snd:∀s x t,rB L s x t->sI g I rows s x t
 pass:∀s x t k r,rB L s x t->aQ g x=some ⟨false,r.left⟩->g.rules[k]?=some r->gP g (cI g x)->rB L s ⟨k,0⟩ t
def MZ(g:ai)(rows:List (List Int))(L:List (List bQ))(s:Nat)(y:Sym):Prop:=∀s' st,jP g rows s y=some s'->L[s]?=some st->∀z t,Ei g (ju g st y) z t->rB L s' z t
def BC(L:List (List bQ))(s:Nat):Prop:=∀x t,¬rB L s x t
theorem Pj.it{L:List (List bQ)}(h:Pj g I rows L){s:Nat}{x:Lr}{t:Nat}(hl:rB L s x t):nj I s x:=by
 obtain⟨st,m,h1,h2,_⟩:=hl;refine⟨aP st,?_,RI.2 ⟨_,h2,rfl⟩⟩;rw[<-h.items,RM,h1];rfl
theorem z8{l:List bQ}:∀x∈dx g l,x.set<2 ^ (g.ae+1):=λx hx=>by
 obtain⟨z,_,rfl⟩:=RI.1 hx;exact jX _ _
def Started(g:ai)(L:List (List bQ)):Prop:=∀z t,Ei g [⟨⟨g.rules.length,0⟩,2 ^ g.ae⟩] z t->rB L 0 z t
end
end Go.Proofs.D