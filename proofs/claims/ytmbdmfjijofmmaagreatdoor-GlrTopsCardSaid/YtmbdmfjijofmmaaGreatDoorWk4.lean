/-
  Walks: what functions of the program do, over the abstract machine.
-/
import Derived.Test.YtmbdmfjijofmmaaGreatDoorWk3
set_option linter.unusedVariables false
set_option maxRecDepth 20000
set_option maxHeartbeats 0
open Go Go.Abs Go.Proofs Go.Proofs.D
set_option linter.unusedVariables false
set_option maxRecDepth 20000
set_option maxHeartbeats 0
open Go Go.Abs Go.Proofs Go.Proofs.D
namespace Go.Proofs.D
structure Qk where
 vs:List Value
 bs:List (Nat×aD)
structure Q4 where
 vs:List Value
 a:Option Addr
 m:Nat
 c:Nat
 B:List (Nat×aD)
structure Q6 where
 L:List (List bL)
 bs:List (Nat×aD)
 W:List Nat
 a:Option Addr
 m:Nat
 c:Nat
 B:List (Nat×aD)
def pW:Ty (Nat×Nat) where
 size:=2
 rel:=λ_ l x=>l=[.int .i64 x.1,.int .i64 x.2]
 len:=λ_ _ _ h=>by rw[h];rfl
 one:=λ_ _ _ h=>by rw[h];rfl
 mono:=λ_ _ _ _ _ h=>h
def iI(g:af)(t:Nat)(lk:bL):Option (Nat×Nat):=if aR g lk.item=none/\lk.set.testBit t=true then some (if lk.item.aA<g.rules.length then (2,lk.item.aA) else (3,0)) else none
def iF(g:af)(row:List Int)(t:Nat):List (Nat×Nat):=if t<g.ae then (match row[t]? with | some j=>if 0<=j then [(1,j.toNat)] else [] | none=>[]) else []
theorem He(g:af)(st:List bL)(row:List Int)(t:Nat):fu g st row t=iF g row t++st.filterMap (iI g t):=rfl
theorem Cx{g:af}{row:List Int}{t:Nat}:(iF g row t).length<=1:=by
 unfold iF;by_cases h:t<g.ae
 ·rw[If h];cases row[t]? with
  | none=>exact RC _
  | some j=>
   dsimp only;by_cases h2:0<=j
   ·rw[If h2];exact AS _
   ·rw[By h2];exact RC _
 ·rw[By h];exact RC _
structure P1 where
 vs:List Value
 a:Option Addr
 m:Nat
 c:Nat
 B:List (Nat×aD)
 l:List (Nat×Nat)
theorem JZ{α β:Type}{f:α->Option β}{l:List α}{k:Nat}{x:α}(h:l[k]?=some x):(l.take (k+1)).filterMap f=(l.take k).filterMap f++(f x).toList:=by
 rw[Rk,h,List.filterMap_append];cases hf:f x<;>simp[hf]
theorem ME{α β:Type}(f:α->Option β)(l:List α)(k:Nat):((l.take k).filterMap f).length<=k:=AI (List.length_filterMap_le _ _) (by simp;omega)
theorem Da{α:Type}(B:List α)(x:α)(bs:List α)(own:List (List α)):(B::[x]::bs::own).flatten.Perm ([x]::(bs++B)::own).flatten:=by
 classical
 rw[List.perm_iff_count];intro y;simp only[SC,List.count_append];omega
theorem NM{p:Prop} (h:p:=by
 intro k u F2 hF2 hk hP;obtain⟨hub,huv,hul⟩:=hP;have hst2:=hst1.mono hF2;have hr2:=(hr.mono hF1).mono hF2;have hubl:=hub.len;have hf1:=ME (iI g t) st k;have hpre:(iF g row t).length<=1:=by
  exact Cx
 have hull:u.l.length<=1+k:=by rw[hul,Rf];omega
 have hvs1:u.vs[0+t*1]?=some (.slice u.a u.m u.c):=by rw[huv,RA zo]
 have huvl:u.vs.length=g.ae+1:=by rw[huv,T2];exact hvl
 refine rS ?_;refine WT.bG hT hst2 Z Z Z Z Z Z Z Z Z zo (λx hxk b5 off5 ro5 cs5 lx5 hb5 hp5 hrel5=>?_);obtain rfl:lx5=_:=hrel5;obtain⟨hxo,hxs⟩:=hok x (gM hxk);have hfm:=JZ (f:=iI g t) hxk;have hxr:=hxo.1;refine rS ?_;refine WT.aI hT Z Z Z Z Z Z (λi10 hi10=>?_);refine rS ?_;have haf:=lY F2 g hg4 hr2 zo x.item zo;unfold ai at haf;refine WT.bN Tryz.func150 Z Z Z Z Z Z haf (λv hv=>?_);obtain⟨z,bo,rfl,hay,han⟩:=hv;obtain⟨zt,zn⟩:=z;refine rS ?_;refine WT.aI hT Z Z Z Z Z Z (λi11 hi11=>?_);refine rS ?_
 have skip:iI g t x=none->u.l=iF g row t++(st.take (k+1)).filterMap (iI g t):=λe=>by rw[hfm,e,hul];simp
 refine WT.split 61 Z (λhbo=>?_) (λhbo=>?_)
 ·refine rS ?_;refine AW.cond Z (λ_=>?_) (λh=>(by cases h));refine AW.exit ?_;refine⟨u,sM,cy,hub,huv,skip ?_⟩;unfold iI;rw[By (by rw[hay hbo];simp)]
 ·have han:=han hbo;refine rS ?_;refine WT.H4 (x:=x.set) (y:=t) Z Z Z Z Z Z zo ?_;refine WT.rp (x:=x.set / 2 ^ t) (y:=1) Z Z Z Z Z Z (Uj (Uu _ _) zo) (by decide) ?_;rw[xz];refine rS ?_;refine AW.cond Z (λh=>?_) (λh=>?_)
  ·have h:x.set.testBit t=false:=by
    cases hb:x.set.testBit t with
    | false=>rfl
    | true=>rw[hb] at h;simp at h
   refine AW.exit ?_;refine⟨u,sM,cy,hub,huv,skip ?_⟩;unfold iI;rw[By (by rw[h];simp)]
  ·have h:x.set.testBit t=true:=by
    cases hb:x.set.testBit t with
    | true=>rfl
    | false=>rw[hb] at h;simp at h
   refine rS ?_;refine AW.cond Z (λh2=>?_) (λh2=>?_)
   ·have h2:x.item.aA<g.rules.length:=by simp at h2;omega
    have hone:iI g t x=some (2,x.item.aA):=by unfold iI;rw[If ⟨han,h⟩,If h2]
    refine AW.draw (ps:=[(5,10)]) Z Z ?_;refine rS ?_;refine WT.dL (j:=t) (s:=1) hT Z Z Z Z Z Z Z Z Z ht ?_;refine WT.loadAt hT 3 Z Z Z Z Z Z me Z Z hvs1 ?_;refine rS ?_;refine WT.bd hT Z Z Z Z Z Z Z Z Z Z Z Z Z Z (λi33 hi33=>?_);refine WT.bP (R:=pW) (ys:=[(2,x.item.aA)]) hT 3 hub Z (λ_=>rfl) Z Z Z Z Z Z Z Z Z Z Z (λh0 s0=>bh hT s0 0 Z Z Z Z) (aF.single (R:=pW) (x:=(2,x.item.aA)) rfl) Z (by decide) kq (λa3 c3 B3 hB3=>?_);refine WT.dL (j:=t) (s:=1) hT Z Z Z Z Z Z Z Z Z ht ?_;refine WT.storeAt hT 4 0 Z Z Z Z Z Z Z Z Z Z zo Z Z ?_;refine rS ?_
    refine⟨oF,?_⟩;refine⟨⟨u.vs.set (0+t*1) (.slice a3 (u.m+1) c3),a3,u.m+1,c3,B3,u.l++[(2,x.item.aA)]⟩,sM,cy,hB3,?_,?_⟩
    ·dsimp only;rw[huv,List.set_set]
    ·dsimp only;rw[hul,hfm,RY,hone];rfl
   ·have h2:x.item.aA=g.rules.length:=by simp at h2;omega
    have hone:iI g t x=some (3,0):=by unfold iI;rw[If ⟨han,h⟩,By zo]
    refine rS ?_;refine WT.dL (j:=t) (s:=1) hT Z Z Z Z Z Z Z Z Z ht ?_;refine WT.loadAt hT 3 Z Z Z Z Z Z me Z Z hvs1 ?_;refine rS ?_;refine WT.bd hT Z Z Z Z Z Z Z Z Z Z Z Z Z Z (λi33 hi33=>?_);refine WT.bP (R:=pW) (ys:=[((3,0):Nat×Nat)]) hT 3 hub Z (λ_=>rfl) Z Z Z Z Z Z Z Z Z Z Z (λh0 s0=>bh hT s0 0 Z Z Z Z) (aF.single (R:=pW) (x:=((3,0):Nat×Nat)) rfl) Z (by decide) kq (λa3 c3 B3 hB3=>?_);refine WT.dL (j:=t) (s:=1) hT Z Z Z Z Z Z Z Z Z ht ?_;refine WT.storeAt hT 4 0 Z Z Z Z Z Z Z Z Z Z zo Z Z ?_;refine rS ?_
    refine⟨⟨u.vs.set (0+t*1) (.slice a3 (u.m+1) c3),a3,u.m+1,c3,B3,u.l++[((3,0):Nat×Nat)]⟩,sM,cy,hB3,?_,?_⟩
    ·dsimp only;rw[huv,List.set_set]
    ·dsimp only;rw[hul,hfm,RY,hone];rfl):p:=h
theorem Nv{p:Prop} (h:p:=by
 intro u F2 hF2 hP;obtain⟨hub,huv,hul⟩:=hP;rw[No zo] at hul;have huvl:u.vs.length=g.ae+1:=by rw[huv,T2];exact hvl
 rw[<-He] at hul;rw[hul] at hub;refine⟨⟨u.vs,bs++u.B⟩,sM,ah.flat (Da _ _ _ _),huvl,λk hk=>?_,λk h1 h2=>?_⟩
 ·rcases Rw k t with h6 | h6
  ·obtain⟨xa,xn,xc,e1,e2⟩:=hold k h6;exact⟨xa,xn,xc,by dsimp only;rw[huv,RO zo];exact e1,λH h1 h2=>e2 H (hF2.trans h1) λi b hm=>h2 i b (R6 _ hm)⟩
  ·obtain rfl:k=t:=by omega
   exact⟨_,_,_,by dsimp only;rw[huv,Rn,RQ,RA zo],λH h1 h2=>hub.frozen h1 λi b hm=>h2 i b (R7 _ hm)⟩
 ·dsimp only;rw[huv,RO zo];exact hrest k zo h2):p:=h
theorem N1{p:Prop} (h:p:=by
 refine rS ?_;refine AW.range (S:=P1) (λ_=>[]) (λu=>u.B::[(io,.cells false u.vs)]::bs::[(i3,.cells false [.int .i64 g.ae,.int .i64 g.ak,.int .i64 g.start,.slice a m c])]::own)
  (λk u G=>dy pW G u.a u.m u.c u.B u.l/\u.vs=vs.set (0+t*1) (.slice u.a u.m u.c)/\u.l=iF g row t++(st.take k).filterMap (iI g t)) n ⟨vs,none,0,0,[],[]⟩
  Z Z Z Z Z Z Z Z Z zo rfl rfl (λ_=>rfl) (λ_=>rfl) sM (ah.flat (Rc _)) ⟨dy.gq _ _,hset0.symm,by rw[hpre0];rfl⟩ ?_ ?_
 ·exact NM
 ·exact Nv):p:=h
theorem yR(F:ar)(g:af)(hg:Valid g){a:Option Addr}{m c:Nat}(hr:bw bK F a m c g.rules){b:Option Addr}{n d:Nat}{st:List bL}(hst:bw o9 F b n d st)(hn:n<=1000)(hok:∀x∈st,jK g x.item/\x.set<2 ^ (g.ae+1))
  {rb:Option Addr} {rn rd:Nat} {row:List Int} (hrow:bw fm F rb rn rd row) (hrn:g.ae<=rn) :
  Abs.Spec CC 103 [.agg ⟨ai g a m c⟩,.slice b n d,.slice rb rn rd] F [] λF' v o=>o=[]/\∃a' n' c',v=.slice a' n' c'/\bw (cg pW) F' a' n' c' ((List.range (g.ae+1)).map λt=>fu g st row t):=by
 have hgr:=hg.range.rules;have hgt:=hg.range.ae;have hrl:=hr.len;have hsl:=hst.len;have hrwl:=hrow.len;have hp:=sT hg.range.ae.2;have hg4:∀r∈g.rules,r.right.length<=100:=λr h=>by have:=(hg.right r h).2.1;omega
 unfold ai;refine Abs.Spec.fn (n:=102) Tryz.func103 rfl rfl λown=>?_;refine AW.seq (AW.du ?_);refine WT.cC Z Z Z Z Z Z (λi3 hi3=>?_);refine rS ?_;refine WT.nD (l:=g.ae+1) hT Z Z Z Z Z Z Z Z Z Z Z Z kq (λio hio=>?_);rw[mj,By (show ¬g.ae+1=0 by omega)];refine rS ?_;refine AW.range (S:=Qk) (λ_=>[]) (λs=>[(io,.cells false s.vs)]::s.bs::[(i3,.cells false [.int .i64 g.ae,.int .i64 g.ak,.int .i64 g.start,.slice a m c])]::own)
  (λt s G=>s.vs.length=g.ae+1/\(∀k,k<t->∃xa xn xc,s.vs[k]?=some (.slice xa xn xc)/\∀H,ar.le G H->(∀i b,(i,b)∈s.bs->H i=some b)->bw pW H xa xn xc (fu g st row k))/\∀k,t<=k->k<g.ae+1->s.vs[k]?=some (.slice none 0 0)) (g.ae+1) ⟨List.replicate (g.ae+1) (.slice none 0 0),[]⟩
  Z Z Z Z Z Z Z Z Z zo rfl rfl (λ_=>rfl) (λ_=>rfl) sM (ah.flat (Rc _)) ⟨by simp,λk hk=>absurd hk (Tr _),λk _ hk=>by rw[Sp,If hk]⟩ ?_ ?_
 ·intro t s F1 hF1 ht hP;obtain⟨hvl,hold,hrest⟩:=hP;obtain⟨vs,bs⟩:=s;dsimp only at hvl hold hrest;have hst1:=hst.mono hF1;have hrow1:=hrow.mono hF1;have htn:=hrest t (AS _) ht;have hset0:vs.set (0+t*1) (.slice none 0 0)=vs:=by
   apply R5;intro i;by_cases e:i=t
   ·subst e;rw[Rn,RQ,RA zo,htn]
   ·rw[Rn,RQ,RO (λe2=>e e2.symm)]
  refine rS ?_;refine WT.split 26 Z (λhtt=>?_) (λhtt=>?_)
  ·have htt:t<g.ae:=by simpa using htt
   obtain⟨j,hj⟩:∃j,row[t]?=some j:=⟨_,gE zo⟩;refine rS ?_;refine WT.bG hT hrow1 Z Z Z Z Z Z Z Z Z zo (λj2 hj2 b7 off7 ro7 cs7 lx7 hb7 hp7 hrel7=>?_);obtain rfl:lx7=_:=hrel7;rw[hj] at hj2;obtain rfl:=AT hj2;refine rS ?_;refine AW.cond Z (λh6=>?_) (λh6=>?_)
   ·have h6:0<=j:=by simpa using h6
    have hpre0:iF g row t=[(1,j.toNat)]:=by unfold iF;rw[If htt,hj];dsimp only;rw[If h6]
    obtain⟨jn,rfl⟩:=Int.eq_ofNat_of_zero_le h6;refine AW.le (own2:=[]::[(io,.cells false vs)]::bs::[(i3,.cells false [.int .i64 g.ae,.int .i64 g.ak,.int .i64 g.start,.slice a m c])]::own) (ah.flat (Rc _)) ?_;refine AW.draw (ps:=[(5,11)]) Z Z ?_;refine rS ?_;refine WT.dL (j:=t) (s:=1) hT Z Z Z Z Z Z Z Z Z ht ?_;refine WT.loadAt hT 1 Z Z Z Z Z Z me Z Z (v:=.slice none 0 0) (by rw[Rn,RQ];exact htn) ?_;refine rS ?_;refine WT.bG hT hrow1 Z Z Z Z Z Z Z Z Z zo (λj3 hj3 b8 off8 ro8 cs8 lx8 hb8 hp8 hrel8=>?_);obtain rfl:lx8=_:=hrel8;rw[hj] at hj3
    obtain rfl:=AT hj3;refine rS ?_;refine WT.bd hT Z Z Z Z Z Z Z Z Z Z Z Z Z Z (λi33 hi33=>?_);refine WT.bP (R:=pW) (ys:=[(1,jn)]) hT 1 (dy.gq pW F1) Z (λ_=>rfl) Z Z Z Z Z Z Z Z Z Z Z (λh0 s0=>bh hT s0 0 Z Z Z Z) (aF.single (R:=pW) (x:=(1,jn)) rfl) Z (by decide) kq (λa3 c3 B3 hB3=>?_);refine WT.dL (j:=t) (s:=1) hT Z Z Z Z Z Z Z Z Z ht ?_;refine WT.storeAt hT 2 0 Z Z Z Z Z Z Z Z Z Z zo Z Z ?_;refine rS ?_;refine⟨oF,?_⟩;refine rS ?_
    refine AW.range (S:=P1) (λ_=>[]) (λu=>u.B::[(io,.cells false u.vs)]::bs::[(i3,.cells false [.int .i64 g.ae,.int .i64 g.ak,.int .i64 g.start,.slice a m c])]::own)
     (λk u G=>dy pW G u.a u.m u.c u.B u.l/\u.vs=vs.set (0+t*1) (.slice u.a u.m u.c)/\u.l=iF g row t++(st.take k).filterMap (iI g t)) n ⟨vs.set (0+t*1) (.slice a3 (0+1) c3),a3,0+1,c3,B3,[]++[(1,jn)]⟩
     Z Z Z Z Z Z Z Z Z zo rfl rfl (λ_=>rfl) (λ_=>rfl) sM (cy) ⟨hB3,rfl,by rw[hpre0];rfl⟩ ?_ ?_
    ·exact NM
    ·exact Nv
   ·have h6:¬0<=j:=by simpa using h6
    have hpre0:iF g row t=[]:=by unfold iF;rw[If htt,hj];dsimp only;rw[By h6]
    exact N1
  ·have htt:¬t<g.ae:=by simpa using htt
   have hpre0:iF g row t=[]:=by unfold iF;rw[By htt]
   refine rS ?_;refine AW.cond Z (λh=>(by cases h)) (λ_=>?_);exact N1
 ·intro s F1 hF1 hP;obtain⟨hvl,hold,_⟩:=hP;obtain⟨vs,bs⟩:=s;dsimp only at hvl hold;refine AW.le (own2:=((io,.cells false vs)::bs)::[(i3,.cells false [.int .i64 g.ae,.int .i64 g.ak,.int .i64 g.start,.slice a m c])]::own) (ah.flat (Rc _)) ?_;refine AW.aw 0 Z Z (λF2 hF2 hB2=>?_);refine rS ?_;refine AW.ret ⟨_,[],⟨_,_,rfl,rfl,rfl⟩,bU,rfl,_,_,_,rfl,?_⟩;refine⟨by simp,.inr rfl,λh=>zo,λh=>(by cases h),λp hp=>(by cases hp;rfl),λk x hk=>?_⟩;have hk1:k<g.ae+1:=by have:=(gS hk).1;simpa using this
  rw[Re,SP hk1] at hk;obtain rfl:=AT hk;obtain⟨xa,xn,xc,e1,e2⟩:=hold k hk1;have hv:=gS e1;refine⟨io,0,false,vs,[.slice xa xn xc],rfl,hB2 io _ me,?_,_,_,_,rfl,e2 F2 hF2 λi b hm=>hB2 i b (I9 _ hm)⟩;refine qv ?_ rfl;show _=(vs.drop (0+k*1)).take 1;rw[Rn,RQ,RX hv.1,List.take_succ_cons,TV,hv.2]
end Go.Proofs.D
set_option linter.unusedVariables false
set_option maxRecDepth 20000
set_option maxHeartbeats 0
open Go Go.Abs Go.Proofs Go.Proofs.D
namespace Go.Abs
end Go.Abs
namespace Go.Proofs.D
structure QJ where
 i:Nat
 br:List (List bL)
 rows:List (List Int)
 sa:Option Addr
 sn:Nat
 sc:Nat
 SB:List (Nat×aD)
 ta:Option Addr
 tn:Nat
 tc:Nat
 TB:List (Nat×aD)
 es:cQ (List UInt8)
structure Qp where
 br:List (List bL)
 row:List Int
 sa:Option Addr
 sn:Nat
 sc:Nat
 SB:List (Nat×aD)
 ra:Option Addr
 rn:Nat
 rc:Nat
 RB:List (Nat×aD)
 es:cQ (List UInt8)
theorem xp(F:ar){a:Option Addr}{m c:Nat}{xs:List Int}(hx:bw fm F a m c xs)(hm:m<=1000000) :
  Abs.Spec CC 87 [.slice a m c] F [] λF' v o=>∃B',o=[B']/\∃a' c',v=.slice a' m c'/\dC fm F' a' m c' B' xs:=by
 refine Abs.Spec.fn (n:=8) Tryz.func87 rfl rfl λown=>?_;refine au ?_;refine WT.rz hT Z Z Z Z Z Z Z Z ?_;refine au ?_;refine AW.cond Z (λh=>?_) (λh=>?_)
 ·exact KM
 ·refine au ?_;refine WT.bd hT Z Z Z Z Z Z Z Z Z Z Z Z Z Z (λi5 hi5=>?_);refine au ?_;obtain⟨ds,hds,hcs⟩:=rR hT hx (t:=22) rfl rfl 3;exact KG
def PK(g:af)(st:List bL):Prop:=st.length<=1000/\∀x∈st,jK g x.item/\x.set<2 ^ (g.ae+1)
theorem yw{g:af}(hg:Valid g)(l:List bL):PK g (dr g l):=by
 refine⟨?_,λx hx=>⟨?_,y3 x hx⟩⟩
 ·have:=(nf hg (aP l)).1;rw[<-eC] at this;unfold aP at this
  rwa [Rq] at this
 ·have:x.item∈aP (dr g l):=Rg.2 ⟨x,hx,rfl⟩;rw[eC] at this;exact kY _ this
theorem JD{g:af}(hg:Valid g){s:List bL}{y:Sym}{s':List bL}(h:LN g s y=some s'):PK g s':=by
 unfold LN at h;split at h
 ·cases h
 ·obtain rfl:=AT h;exact yw hg _
theorem AR{g:af}(hg:Valid g){I:List (List Lr)}{rows:List (List Int)}(h:kB g=some (I,rows)):∀st∈I,PI g st:=λst hst=>by
 obtain⟨k,hk⟩:=TU hst
 exact(kf h).2.all (P:=PI g) (nf hg _) (λst s _ hs=>by
  obtain⟨y,_,hy⟩:=Rg.1 hs;split at hy
  ·cases hy
  ·obtain rfl:=AT hy;exact nf hg _) k st hk
theorem vd{g:af}(hg:Valid g){method:Nat}{S:List (List bL)}{rows:List (List Int)}(h:cW g method=some (S,rows)):∀st∈S,PK g st:=by
 intro st hst;obtain⟨k,hk⟩:=TU hst;unfold cW at h;split at h
 ·exact(qV h).2.all (P:=PK g) (yw hg _) (λst s _ hs=>by
   obtain⟨y,_,hy⟩:=Rg.1 hs;exact JD hg (s:=st) (y:=y) hy) k st hk
 ·cases hA:kB g with
  | none=>rw[hA] at h;cases h
  | some a=>
   obtain⟨I,rows0⟩:=a;rw[hA] at h;have e:=AT h;simp only[RJ] at e;obtain⟨rfl,rfl⟩:=e;rw[ni] at hk;cases hI:I[k]? with
   | none=>rw[hI] at hk;cases hk
   | some st0=>
    rw[hI] at hk;obtain rfl:=AT hk;obtain⟨h1,h2⟩:=AR hg hA st0 (gM hI);refine⟨by simpa using h1,λx hx=>?_⟩;obtain⟨z,hz,rfl⟩:=Rg.1 hx;exact⟨h2 z hz,jR _ _⟩
structure Qh where
 a:Option Addr
 m:Nat
 c:Nat
 B:List (Nat×aD)
 a2:Option Addr
 m2:Nat
 c2:Nat
 B2:List (Nat×aD)
theorem xF{g:af}{method:Nat}{S:List (List bL)}{rows:List (List Int)}(h:cW g method=some (S,rows)):S.length<=400:=by
 unfold cW at h;split at h
 ·exact(qV h).2.m5
 ·cases hA:kB g with
  | none=>rw[hA] at h;cases h
  | some a=>
   obtain⟨I,rows0⟩:=a;rw[hA] at h;have e:=AT h;simp only[RJ] at e;obtain⟨rfl,rfl⟩:=e;have:=(kf hA).2.m5;have e2:=congrArg List.length (nu (g:=g) (I:=I) (la:=if method=1 then λ_=>nG g else rP g I rows0));rw[Rq] at e2;rw[e2];exact this
theorem Gd(F:ar)(g:af)(hg:Valid g)(ht5:g.ae<=5){a:Option Addr}{m c:Nat}(hr:bw bK F a m c g.rules) :
  Abs.Spec CC 45 [.agg ⟨ai g a m c⟩,.int .i64 1] F [] λF' v o=>o=[]/\((cW g 1=none/\v=.tuple ⟨[.slice none 0 0,.slice none 0 0,.int .i64 2]⟩)\/
   ∃S rows a1 n1 c1 a2 n2 c2,cW g 1=some (S,rows)/\v=.tuple ⟨[.slice a1 n1 c1,.slice a2 n2 c2,.int .i64 0]⟩/\bw (cg (cg pW)) F' a1 n1 c1 (oZ g S rows)/\bw (cg fm) F' a2 n2 c2 (rows.map (·.drop g.ae))):=by
 have hgr:=hg.range.rules;have hgt:=hg.range.ae;have hgn:=hg.range.ak;have hrl:=hr.len;have hp:=sT hg.range.ae.2;have hp6:2 ^ (g.ae+1)<=64:=AI (Rz (by decide) (show g.ae+1<=6 by omega)) (by decide);have okK:∀{x:bL},(jK g x.item/\x.set<2 ^ (g.ae+1))->(x.item.aA<100/\x.item.dot<100)/\x.set<100:=λh=>⟨OE hg h.1,by omega⟩;refine Abs.Spec.fn (n:=98) Tryz.func45 rfl rfl λown=>?_;refine AW.seq (AW.du ?_);refine WT.cC Z Z Z Z Z Z (λi2 hi2=>?_);refine WT.aw 0 Z Z (λF0 hF0 hB0=>?_);have hi2:=hB0 i2 _ me;have hr:=hr.mono hF0
 unfold ai at hi2 ⊢;refine aj ?_;have hck:=j5 F0 g hg.range hr;unfold ai at hck;refine WT.bN Tryz.func85 Z Z Z Z Z Z hck (λv hv=>?_);rw[hg.u0] at hv;subst hv;refine aj ?_;refine AW.cond Z (λh=>(by cases h)) (λ_=>?_);refine aj ?_;refine AW.cond Z (λh=>(by cases h)) (λ_=>?_);refine aj ?_;have hmk:=xw F0 g hg hr;unfold ai at hmk;refine WT.dH Tryz.func95 Z Z Z Z Z Z hmk (λF1 v hF1 hv=>?_);obtain⟨im,E,Fi,is,eb,ee,rfl,hM⟩:=hv;have hr1:=hr.mono hF1;have hi21:=hF1 _ _ hi2;refine aj ?_
 refine AW.cond Z (λh=>(by cases h)) (λ_=>?_);refine aj ?_;have hof:=xk F1 g hg hr1;unfold ai at hof;refine WT.dH Tryz.func100 Z Z Z Z Z Z hof (λF2 v hF2 hv=>?_);have hM2:=hM.mono hF2;rcases hv with ⟨hA,rfl⟩ | ⟨I,rows,b1,m1,d1,b2,m2,d2,hA,rfl,hI,hRw⟩
 ·have hst:cW g 1=none:=by unfold cW;rw[By (by decide),hA];rfl
  refine aj ?_;refine WT.aI hT Z Z Z Z Z Z (λi12 hi12=>?_);refine aj ?_;refine AW.cond Z (λ_=>?_) (λh=>(by cases h));refine aj ?_;exact AW.ret ⟨_,[],⟨_,_,rfl,⟨_,_,rfl,⟨_,_,rfl,rfl,rfl⟩,rfl⟩,rfl⟩,bU,rfl,.inl ⟨hst,rfl⟩⟩
 ·refine aj ?_;refine WT.aI hT Z Z Z Z Z Z (λi12 hi12=>?_);refine aj ?_;refine AW.cond Z (λh=>(by cases h)) (λ_=>?_);refine aj ?_;have hIf:=(kf hA).2.m5;have hIl:=hI.len;refine WT.dH Tryz.func101 Z Z Z Z Z Z (HR F2 g hg hM2 (a2:=b2) (n2:=m2) (c2:=d2) hI zo (AR hg hA)) (λF3 v hF3 hv=>?_);obtain⟨a1,n1,c1,rfl,hS⟩:=hv;refine aj ?_;refine AW.cond Z (λh=>(by cases h)) (λ_=>?_);have hst:cW g 1=some (kJ g I (λ_=>nG g),rows):=by unfold cW;rw[By (by decide),hA];rfl
  generalize kJ g I (λ_=>nG g)=S at hS hst;have hRw:=hRw.mono hF3;have hrG:=(hr1.mono hF2).mono hF3;have hiG:=hF3 _ _ (hF2 _ _ hi21);have hSR:=lS hg hst;have hSP:=vd hg hst;have hSf:=xF hst;have hAC:=hSR.1;have hRl:=hRw.len;have hSl:=hS.len;have hrs:rows.length=S.length:=by have:=hAC.len;rwa [Rq] at this
  refine aj ?_;refine AW.range (S:=Qh) (λs=>[(14,.slice s.a s.m s.c),(15,.slice s.a2 s.m2 s.c2)]) (λs=>s.B::s.B2::[(i12,.cells false [.slice b1 m1 d1,.slice b2 m2 d2])]::[]::own) (λj s G=>dy (cg (cg pW)) G s.a s.m s.c s.B ((oZ g S rows).take j)/\dy (cg fm) G s.a2 s.m2 s.c2 s.B2 ((rows.map (·.drop g.ae)).take j)) n1 ⟨none,0,0,[],none,0,0,[]⟩
   Z Z Z Z Z Z Z Z Z zo rfl rfl (λ_=>rfl) (λ_=>rfl) sM (ah.flat (Rc _)) ⟨dy.gq _ _,dy.gq _ _⟩ ?_ ?_
  ·intro j s F8 hF8 hj hP;obtain⟨hb,hb2⟩:=hP;have hS8:=hS.mono hF8;have hRw8:=hRw.mono hF8;have hr8:=hrG.mono hF8;have hi8:=hF8 _ _ hiG;have hal:(oZ g S rows).length=S.length:=by unfold oZ;simp
   have hbl:=hb.len;have hbl2:=hb2.len;rw[RK] at hbl;rw[RK,Rq] at hbl2;refine aj ?_;refine WT.bG hT hS8 Z Z Z Z Z Z Z Z Z zo (λst hsj b1 off1 ro1 cs1 lx1 hb1 hp1 hrel1=>?_);obtain⟨sa,sn,sc,rfl,hsta⟩:=hrel1;have hsl:=hsta.len;obtain⟨hP1,hP2⟩:=hSP st (gM hsj);refine aj ?_;refine AW.draw (ps:=[(14,7),(14,8),(14,9),(16,7),(16,8),(16,9),(17,7),(17,8),(17,9)]) Z Z ?_;refine aj ?_;refine WT.bG hT hRw8 Z Z Z Z Z Z Z Z Z zo (λrow hrj b3 off3 ro3 cs3 lx3 hb3 hp3 hrel3=>?_);obtain⟨ra,rn,rc,rfl,hrow⟩:=hrel3;have hrowl:=hrow.len
   have hrow2:row.length=g.ae+g.ak:=hAC.row j (aP st) row (by rw[Re,hsj];rfl) hrj;refine aj ?_;have hac:=yR F8 g hg hr8 hsta zo hP2 hrow zo;unfold ai at hac;refine WT.dH Tryz.func103 Z Z Z Z Z Z hac (λF9 v hF9 hv=>?_);obtain⟨xa,xn,xc,rfl,hx⟩:=hv;have hall:(oZ g S rows).take (j+1)=(oZ g S rows).take j++[(List.range (g.ae+1)).map λt=>fu g st row t]:=by
    have e:(oZ g S rows)[j]?=some ((List.range (g.ae+1)).map λt=>fu g st row t):=by
     unfold oZ;rw[oa (SP (show j<S.length by omega)),getD_some hsj,getD_some hrj]
    rw[Rk,e];rfl
   have hrw:(rows.map (·.drop g.ae)).take (j+1)=(rows.map (·.drop g.ae)).take j++[row.drop g.ae]:=by
    rw[Rk,oa hrj];rfl
   refine WT.bd hT Z Z Z Z Z Z Z Z Z Z Z Z Z Z (λi33 hi33=>?_);refine WT.bP (R:=cg (cg pW)) (ys:=[(List.range (g.ae+1)).map λt=>fu g st row t]) hT 1 (hb.mono hF9) Z (λ_=>rfl) Z Z Z Z Z Z Z Z Z Z Z (λh0 s0=>bh hT s0 0 Z Z Z Z) (aF.single (R:=cg (cg pW)) (x:=(List.range (g.ae+1)).map λt=>fu g st row t) ⟨_,_,_,rfl,hx⟩) Z (by decide) kq (λa3 c3 B3 hB3=>?_);refine aj ?_;obtain⟨b4,off4,ro4,cs4,lx4,hba,hb4,hp4,hrel4⟩:=hRw8.el j row hrj;obtain⟨ra',rn',rc',rfl,hrow'⟩:=hrel4;have hrow':=hrow'.mono hF9;have hb49:=hF9 _ _ hb4;subst hba
   refine WT.dL (j:=j) (s:=1) hT Z Z Z Z Z Z Z Z Z zo ?_;have hrowl':=hrow'.len;have hi9:=hF9 _ _ hi8;refine aj ?_;obtain⟨qa,qc,hrs2,hqa⟩:=hrow'.slice (C:=CC) (lo:=g.ae) (hi:=rn') zo (AS _) hT (t:=22) Z Z Z (some (.int .i64 ((g.ae:Nat):Int))) none (by simp[cZ]) rfl;refine WT.slice Z Z Z Z Z Z Z Z hrs2 ?_;rw[No zo] at hqa;refine WT.lC Tryz.func87 Z Z Z Z Z Z (xp F9 hqa zo) (λF10 v B10 hF10 hv=>?_);obtain⟨ca,cc,rfl,hv⟩:=hv;refine WT.aw 0 Z Z (λF11 hF11 hB11=>?_);have hcl:=hv.arr hF11 hB11;have hrl2:rows.length<=400:=by omega
   refine WT.bd hT Z Z Z Z Z Z Z Z Z Z Z Z Z Z (λi34 hi34=>?_);refine WT.bP (R:=cg fm) (ys:=[row.drop g.ae]) hT 4 (((hb2.mono hF9).mono hF10).mono hF11) Z (λ_=>rfl) Z Z Z Z Z Z Z Z Z Z Z (λh0 s0=>bh hT s0 0 Z Z Z Z) (aF.single (R:=cg fm) (x:=row.drop g.ae) ⟨_,_,_,rfl,hcl⟩) Z (by decide) kq (λa5 c5 B5 hB5=>?_);refine aj ?_;refine⟨oF,?_⟩;refine⟨⟨a3,s.m+1,c3,B3,a5,s.m2+1,c5,B5⟩,sM,cy,?_,?_⟩
   ·dsimp only;rw[hall];exact(hB3.mono hF10).mono hF11
   ·dsimp only;rw[hrw];exact hB5
  ·intro s F8 hF8 hP;obtain⟨hb,hb2⟩:=hP;have hal:(oZ g S rows).length=S.length:=by unfold oZ;simp
   rw[No zo] at hb;rw[No (by rw[Rq];omega)] at hb2;refine AW.aw 0 Z Z (λF9 hF9 hB9=>?_);have h1:=hb.frozen hF9 hB9;refine AW.aw 1 Z Z (λF10 hF10 hB10=>?_);have h2:=(hb2.mono hF9).frozen hF10 hB10;refine aj ?_;exact AW.ret ⟨_,[],⟨_,_,rfl,⟨_,_,rfl,⟨_,_,rfl,rfl,rfl⟩,rfl⟩,rfl⟩,bU,rfl,.inr ⟨S,rows,_,_,_,_,_,_,hst,rfl,h1.mono hF10,h2⟩⟩
def j9:om CC 271 (Nat×Nat) where
 key:=λp=>.agg ⟨[.int .i64 p.1,.int .i64 p.2]⟩
 ok:=λp=>uD hT 8 _ _ rfl
 eq:=λp q=>by
  have h:tK CC 8 271 (.agg ⟨[.int .i64 p.1,.int .i64 p.2]⟩) (.agg ⟨[.int .i64 q.1,.int .i64 q.2]⟩)=some (decide (p=q)):=by
   rw[<-M2];exact vC hT 8 _ _ _ _ rfl
  by_cases e:p=q
  ·exact .inl ⟨e,by rw[h];simp[e]⟩
  ·exact .inr ⟨e,by rw[h];simp[e]⟩
def mr(l:List (Nat×Nat)):cQ (Nat×Nat):=l.map λx=>(x,.bool true)
noncomputable def m9(l:List (Nat×Nat)):aD:=.map (aK j9 (mr l))
theorem tq(x:Nat×Nat):∀l:List (Nat×Nat),dX (mr l) x (.bool true)=mr (if x∈l then l else l++[x])
 | []=>rfl
 | y::l=>by
  show dX ((y,.bool true)::mr l) x (.bool true)=_;unfold dX;by_cases h:x=y
  ·rw[If h,If (by rw[h];exact Rl ..)];rfl
  ·rw[By h,tq x l];by_cases h2:x∈l
   ·rw[If h2,If (I9 _ h2)];rfl
   ·rw[By h2,By (by simp[h,h2])];rfl
theorem CV(ok:CC.Ok Tryz.prog)(fok:bH CC Tryz.prog)(F:ar){d s q:Nat}{l m:List (Nat×Nat)}{B:List (Nat×aD)}(hq:B[q]?=some (s,m9 m))(hl:l.Nodup) :
  cm CC Tryz.prog 199 [.map (some d),.map (some s)] F [[(d,m9 l)],B] λF' v o=>∃l',o=[[(d,m9 l')],B]/\l'.Nodup/\∀x,x∈l'↔x∈l\/x∈m:=by
 refine cm.fn (n:=16) ok Tryz.func199 rfl rfl λown=>?_;refine bf.rangeMap ok fok [_] Z Z Z Z Z Z Z Z Z Z Z Z Z Z Z ?_;refine dJ.rv ok fok ?_;refine aj ?_;refine⟨s,aK j9 (mr m),λii seen k' F' az=>∃l',bD [(7,.pointer (some ⟨ii,0,none⟩)),(0,.map (some d))] k'/\ah ([(d,m9 l')]::B::own) az/\l'.Nodup/\∀x,x∈l'↔x∈l\/∃i∈seen,m[i]?=some x,?_⟩
 refine⟨rfl,⟨_,_,dP hT rfl rfl⟩,λp hp=>?_,λii=>⟨l,sM,ah.refl _,hl,λx=>by simp⟩,λii seen k' F' az ⟨l',h1,_⟩=>h1 7 _ rfl,λii seen k' F' az ⟨l',_,h2,_⟩ h hs=>?_,λii seen k' F' az hF ⟨l',h1,h2,h3,h4⟩ i p hp hns=>?_,λii seen k' F' az hF ⟨l',h1,h2,h3,h4⟩ hall=>?_⟩
 ·obtain⟨y,hy,rfl⟩:=Rg.1 hp;rfl
 ·exact St.has (p:=1) (hs.le h2) rfl (gM hq)
 ·obtain⟨x,hx,rfl⟩:∃x,m[i]?=some x/\p=(j9.key x,.bool true):=by
   unfold aK mr at hp;rw[Re,Re] at hp;cases hm:m[i]? with
   | none=>rw[hm] at hp;cases hp
   | some x=>rw[hm] at hp;cases hp;exact⟨x,rfl,rfl⟩
  refine dJ.weaken (k2:=[(10,.tuple ⟨[.agg ⟨[.int .i64 x.1,.int .i64 x.2]⟩,.bool true]⟩),(0,.map (some d)),(7,.pointer (some ⟨ii,0,none⟩))]) (bD.cons rfl (bD.cons (h1 0 _ rfl) (bD.cons (h1 7 _ rfl) (bD.nil _)))) ?_;refine dJ.le h2 (dJ.rv ok fok ?_);refine aj ?_;refine WT.aI hT Z Z Z Z Z Z (λi4 hi4=>?_);refine aj ?_;refine bf.fY ok fok (AW.du ?_);refine aj ?_;refine WT.sO j9 (key:=x) (m:=mr l') hT 1 0 Z Z Z Z Z Z Z Z Z Z Z Z ?_;rw[tq];refine WT.nil ?_;refine⟨rfl,_,sM,⟨_,SF _ _,Rc _⟩,?_,λy=>?_⟩
  ·split
   ·exact h3
   ·rename_i h;rw[SD];exact⟨h3,by simp,λa ha b hb e=>h (by rw[Rh] at hb;rw[<-hb,<-e];exact ha)⟩
  ·have key:y∈(if x∈l' then l' else l'++[x])↔y∈l'\/y=x:=by
    split
    ·rename_i h;exact⟨.inl,λh2=>h2.elim id λe=>e▸h⟩
    ·simp
   rw[key,h4];constructor
   ·rintro((h | ⟨j,h,h'⟩) | rfl)
    ·exact .inl h
    ·exact .inr ⟨j,I9 _ h,h'⟩
    ·exact .inr ⟨i,Rl ..,hx⟩
   ·rintro(h | ⟨j,h,h'⟩)
    ·exact .inl (.inl h)
    ·rcases Rt.1 h with rfl | h
     ·rw[hx] at h';exact .inr (AT h').symm
     ·exact .inl (.inr ⟨j,h,h'⟩)
 ·refine⟨[],[(d,m9 l')]::B::own,bD.nil _,h2,[],[[(d,m9 l')],B],rfl,RM _,l',rfl,h3,λx=>?_⟩;rw[h4];constructor
  ·rintro(h | ⟨i,_,h⟩)
   ·exact .inl h
   ·exact .inr (gM h)
  ·rintro(h | h)
   ·exact .inl h
   ·obtain⟨i,hi,rfl⟩:=R2 h;exact .inr ⟨i,hall i (by unfold aK mr;simpa using hi),gE hi⟩
abbrev Nd:=Nat×Nat
abbrev Gr:=List (Nd×List Nd)
def bl:Gr->Nd->List Nd
 | [],_=>[]
 | (k,l)::g,n=>if n=k then l else bl g n
def eJ:Gr->Nd->Nd->Gr
 | [],t,b=>[(t,[b])]
 | (k,l)::g,t,b=>if t=k then (k,if b∈l then l else l++[b])::g else (k,l)::eJ g t b
def aQ(G:Gr):List Nd:=G.map (·.1)
theorem eZ{t b x:Nd}:∀{G:Gr},x∈aQ (eJ G t b)↔x∈aQ G\/x=t
 | []=>by simp[aQ,eJ]
 | (k,l)::G=>by
  unfold eJ;split
  ·rename_i h;subst h;show x∈t::aQ G↔x∈t::aQ G\/x=t;exact⟨.inl,λh=>h.elim id λe=>e▸Rl ..⟩
  ·show x∈k::aQ (eJ G t b)↔x∈k::aQ G\/x=t;rw[Rt,Rt,eZ,or_assoc]
theorem xZ{t b x:Nd}:∀{G:Gr},bl (eJ G t b) x=if x=t then (if b∈bl G t then bl G t else bl G t++[b]) else bl G x
 | []=>by
  show (if x=t then [b] else [])=_;by_cases h:x=t
  ·rw[If h,If h];rfl
  ·rw[By h,By h];rfl
 | (k,l)::G=>by
  by_cases h:t=k
  ·subst h;rw[eJ,If rfl];show (if x=t then (if b∈l then l else l++[b]) else bl G x)=_;rw[bl,If rfl];by_cases hx:x=t
   ·rw[If hx,If hx]
   ·rw[By hx,By hx,bl,By hx]
  ·rw[eJ,By h];show (if x=k then l else bl (eJ G t b) x)=_;rw[xZ,bl,bl,By h];by_cases hx:x=t
   ·subst hx;rw[By h,If rfl,If rfl]
   ·rw[By hx,By hx]
theorem dv{t b x y:Nd}{G:Gr}:y∈bl (eJ G t b) x↔y∈bl G x\/(x=t/\y=b):=by
 rw[xZ];by_cases h:x=t
 ·subst h;rw[If rfl];split
  ·rename_i hb;exact⟨.inl,λh=>h.elim id λe=>e.2▸hb⟩
  ·simp
 ·rw[By h];simp[h]
theorem yV{t b:Nd}:∀{G:Gr},b∈bl G t->eJ G t b=G
 | [],h=>by cases h
 | (k,l)::G,h=>by
  unfold eJ;unfold bl at h;split
  ·rename_i e;rw[If e] at h;rw[If h]
  ·rename_i e;rw[By e] at h;rw[yV h]
theorem fP{x y:Nd}:∀{G:Gr},y∈bl G x->x∈aQ G
 | [],h=>by cases h
 | (k,l)::G,h=>by
  unfold bl at h;split at h
  ·rename_i e;rw[e];exact Rl ..
  ·exact I9 _ (fP h)
def qz(G:Gr):Nat:=(G.map λe=>e.2.length).sum
theorem Eh{t b:Nd}:∀{G:Gr},b∉bl G t->qz (eJ G t b)=qz G+1
 | [],_=>rfl
 | (k,l)::G,h=>by
  unfold eJ;unfold bl at h;split
  ·rename_i e;rw[If e] at h;rw[By h];show (l++[b]).length+qz G=l.length+qz G+1;rw[Rf,Sx];omega
  ·rename_i e;rw[By e] at h;show l.length+qz (eJ G t b)=l.length+qz G+1;rw[Eh h];omega
structure Np(G:Gr):Prop where
 nd:(aQ G).Nodup
 jo:∀e∈G,e.2.Nodup
theorem Hm{t b:Nd}:∀{G:Gr},(aQ G).Nodup->(aQ (eJ G t b)).Nodup
 | [],_=>by simp[aQ,eJ]
 | (k,l)::G,h=>by
  have h:k∉aQ G/\(aQ G).Nodup:=Sh.1 h;unfold eJ;split
  ·exact Sh.2 h
  ·rename_i e;refine Sh.2 ⟨λhk=>?_,Hm h.2⟩;rcases eZ.1 hk with hk | hk
   ·exact h.1 hk
   ·exact e hk.symm
theorem BT{t b:Nd}:∀{G:Gr},(∀e∈G,e.2.Nodup)->∀e∈eJ G t b,e.2.Nodup
 | [],_,e,he=>by
  obtain rfl:=Rh.1 he;simp
 | (k,l)::G,h,e,he=>by
  unfold eJ at he;split at he
  ·rcases Rt.1 he with rfl | he
   ·have hl:=h _ me;dsimp only at hl ⊢;split
    ·exact hl
    ·rename_i hb;rw[SD];exact⟨hl,by simp,λa ha c hc e=>hb (by rw[Rh] at hc;rw[<-hc,<-e];exact ha)⟩
   ·exact h e (I9 _ he)
  ·rcases Rt.1 he with rfl | he
   ·exact h _ me
   ·exact BT (λe he=>h e (I9 _ he)) e he
theorem Np.add{G:Gr}(h:Np G)(t b:Nd):Np (eJ G t b):=⟨Hm h.nd,BT h.jo⟩
theorem tX:∀{G:Gr},(aQ G).Nodup->∀e∈G,bl G e.1=e.2
 | [],_,e,he=>by cases he
 | (k,l)::G,h,e,he=>by
  have h:k∉aQ G/\(aQ G).Nodup:=Sh.1 h;unfold bl;rcases Rt.1 he with rfl | he
  ·rw[If rfl]
  ·have hk:e.1∈aQ G:=Rg.2 ⟨e,he,rfl⟩;rw[By (λh2:e.1=k=>h.1 (by rw[<-h2];exact hk))];exact tX h.2 e he
theorem iD{α:Type}[DecidableEq α]:∀{l m:List α},l.Nodup->(∀x∈l,x∈m)->l.length<=m.length
 | [],_,_,_=>RC _
 | x::l,m,h,hs=>by
  have h:=Sh.1 h;have:=iD (m:=m.erase x) h.2 λy hy=>(List.mem_erase_of_ne (λe:y=x=>h.1 (by rw[<-e];exact hy))).2 (hs y (I9 _ hy));have hm:=List.length_erase_of_mem (hs x me);have hp:0<m.length:=TJ (hs x me);rw[RG];omega
theorem Em{α:Type}(f:α->Nat)(c:Nat):∀{l:List α},(∀e∈l,f e<=c)->(l.map f).sum<=l.length*c
 | [],_=>RC _
 | e::l,h=>by
  rw[Na,Sy,RG,Nat.succ_mul];have:=Em f c λx hx=>h x (I9 _ hx);have:=h e me;omega
def Ft(p n:Nat):List Nd:=(List.range (p+1)).flatMap λi=>(List.range n).map λs=>(i,s)
theorem vf{p n:Nat}{x:Nd}:x∈Ft p n↔x.1<=p/\x.2<n:=by
 unfold Ft;obtain⟨a,b⟩:=x;simp[SM,Rm];omega
theorem vm(p n:Nat):(Ft p n).length=(p+1)*n:=by
 unfold Ft;rw[List.length_flatMap];simp only[Rq,S7];rw[List.map_const',List.sum_replicate_nat,S7]
theorem MT{G:Gr}{p n:Nat}(h:Np G)(hk:∀x∈aQ G,x.1<=p/\x.2<n)(he:∀x y,y∈bl G x->y∈aQ G):qz G<=((p+1)*n)*((p+1)*n):=by
 unfold qz;refine AI (Em _ ((p+1)*n) λe hm=>?_) (Rb _ ?_)
 ·rw[<-vm];refine iD (h.jo e hm) λy hy=>?_;rw[<-tX h.nd e hm] at hy;exact vf.2 (hk _ (he _ _ hy))
 ·rw[<-vm];have:=iD (m:=Ft p n) h.nd λx hx=>vf.2 (hk x hx);rw[aQ,Rq] at this;exact this
def Cq(G:Gr):Nat->Nd->Nd->Prop
 | 0,x,y=>y=x
 | d+1,x,y=>∃z,Cq G d x z/\y∈bl G z
theorem Cq.mono{G G':Gr}(h:∀x y,y∈bl G x->y∈bl G' x):∀{d:Nat} {x y:Nd},Cq G d x y->Cq G' d x y
 | 0,_,_,e=>e
 | _+1,_,_,⟨z,h1,h2⟩=>⟨z,h1.mono h,h _ _ h2⟩
structure nI(G:Gr)(p:Nat)(L:List Nat):Prop where
 sorted:L.Pairwise (·<·)
 mem:∀s,s∈L↔(p,s)∈aQ G
theorem nI.m5{G:Gr}{p:Nat}{L:List Nat}(h:nI G p L)(hG:(aQ G).Nodup):L.length<=(aQ G).length:=by
 have h2:(L.map λs=>((p,s):Nd)).Nodup:=List.Pairwise.map _ (λa b hab e=>by have:=congrArg Prod.snd e;dsimp only at this;omega) h.sorted;have:=iD (m:=aQ G) h2 λx hx=>by
  obtain⟨s,hs,rfl⟩:=Rg.1 hx;exact(h.mem s).1 hs
 rwa [Rq] at this
structure iu where
 oi:Nat
 es:List (Nd×Nat×List Nd)
def iu.outer(s:iu):cQ Nd:=s.es.map λe=>(e.1,.map (some e.2.1))
noncomputable def iu.B(s:iu):List (Nat×aD):=(s.oi,.map (aK j9 s.outer))::s.es.map λe=>(e.2.1,m9 e.2.2)
def iu.abs(s:iu):Gr:=s.es.map λe=>(e.1,e.2.2)
abbrev nd(x:Nd):Value:=.agg ⟨[.int .i64 x.1,.int .i64 x.2]⟩
theorem pL(n:Nd):∀es:List (Nd×Nat×List Nd),(Abs.look (es.map λe=>(e.1,Value.map (some e.2.1))) n=none/\n∉es.map (·.1))\/
  ∃(a b:List (Nd×Nat×List Nd)) (id:Nat) (l:List Nd),es=a++(n,id,l)::b/\n∉a.map (·.1)/\Abs.look (es.map λe=>(e.1,Value.map (some e.2.1))) n=some (.map (some id))
 | []=>.inl ⟨rfl,by simp⟩
 | (k,id,l)::es=>by
  by_cases h:n=k
  ·exact .inr ⟨[],es,id,l,by rw[h];rfl,by simp,by simp[Abs.look,h]⟩
  ·rcases pL n es with ⟨h2,h4⟩ | ⟨a,b,id2,l2,h2,h4,h3⟩
   ·exact .inl ⟨by simp only[Na,Abs.look,h,SL];exact h2,by simp[h];simpa using h4⟩
   ·exact .inr ⟨(k,id,l)::a,b,id2,l2,by rw[h2];rfl,by simp[h];simpa using h4,by simp only[Na,Abs.look,h,SL];exact h3⟩
theorem Co{n:Nd}{l:List Nd}{b:Gr}:∀{a:Gr},n∉a.map (·.1)->bl (a++(n,l)::b) n=l
 | [],_=>by simp[bl]
 | (k,m)::a,h=>by
  have h:n≠k/\n∉a.map (·.1):=⟨λe=>h (by rw[e];exact Rl ..),λe=>h (I9 _ e)⟩;show (if n=k then m else bl (a++(n,l)::b) n)=l;rw[By h.1,Co h.2]
theorem Dl{n y:Nd}{l:List Nd}{b:Gr}:∀{a:Gr},n∉a.map (·.1)->eJ (a++(n,l)::b) n y=a++(n,if y∈l then l else l++[y])::b
 | [],_=>by simp[eJ]
 | (k,m)::a,h=>by
  have h:n≠k/\n∉a.map (·.1):=⟨λe=>h (by rw[e];exact Rl ..),λe=>h (I9 _ e)⟩;show eJ ((k,m)::(a++(n,l)::b)) n y=_;rw[eJ,By h.1,Dl h.2];rfl
theorem Bo{n:Nd}:∀{a:Gr},n∉a.map (·.1)->bl a n=[]
 | [],_=>rfl
 | (k,m)::a,h=>by
  have h:n≠k/\n∉a.map (·.1):=⟨λe=>h (by rw[e];exact Rl ..),λe=>h (I9 _ e)⟩;show (if n=k then m else _)=_;rw[By h.1,Bo h.2]
theorem Jl{n y:Nd}:∀{a:Gr},n∉a.map (·.1)->eJ a n y=a++[(n,[y])]
 | [],_=>rfl
 | (k,m)::a,h=>by
  have h:n≠k/\n∉a.map (·.1):=⟨λe=>h (by rw[e];exact Rl ..),λe=>h (I9 _ e)⟩;show (if n=k then _ else _)=_;rw[By h.1,Jl h.2];rfl
structure iu.At(s:iu)(n:Nd)(j id:Nat)(l:List Nd):Prop where
 at_:s.es[j]?=some (n,id,l)
 look:Abs.look s.outer n=some (.map (some id))
 below:bl s.abs n=l
 add:∀y,(s.es.set j (n,id,if y∈l then l else l++[y])).map (λe=>(e.1,e.2.2))=eJ s.abs n y
theorem iu.IX{s:iu}{n:Nd}{a b:List (Nd×Nat×List Nd)}{id:Nat}{l:List Nd}(he:s.es=a++(n,id,l)::b)(hn:n∉a.map (·.1))(hl:Abs.look s.outer n=some (.map (some id))):s.At n a.length id l where
 at_:=by rw[he];simp
 look:=hl
 below:=by
  unfold iu.abs;rw[he,RV,Na];exact Co (by simpa using hn)
 add:=λy=>by
  unfold iu.abs;rw[he,RV,Na,Dl (by simpa using hn)];simp
theorem iu.At.mem{s:iu}{n:Nd}{j id:Nat}{l:List Nd}(h:s.At n j id l):s.B[j+1]?=some (id,m9 l):=by
 show (s.es.map λe=>(e.2.1,m9 e.2.2))[j]?=_;rw[Re,h.at_];rfl
theorem Cd{κ:Type}[DecidableEq κ]{k:κ}{v:Value}:∀{m:cQ κ},Abs.look m k=none->Abs.look (m++[(k,v)]) k=some v
 | [],_=>by simp[Abs.look]
 | (k',v')::m,h=>by
  show Abs.look ((k',v')::(m++[(k,v)])) k=_;unfold Abs.look at h ⊢;split at h
  ·cases h
  ·rename_i h2;rw[By h2];exact Cd h
theorem ye(x:Nd):∀l:List Nd,(Abs.look (mr l) x).getD (.bool false)=.bool (decide (x∈l))
 | []=>rfl
 | y::l=>by
  show (if x=y then some (Value.bool true) else Abs.look (mr l) x).getD _=_;by_cases h:x=y
  ·rw[If h,h];simp
  ·rw[By h,ye x l];simp[h]
theorem Eo:∀{B:List (Nat×aD)} {q:Nat} {b:Nat×aD} (x:Nat×aD),B[q]?=some b->ur B q x=some (B.set q x)
 | [],_,_,_,h=>by cases h
 | _::B,0,_,x,_=>rfl
 | b::B,q+1,_,x,h=>by
  unfold ur;rw[Eo (B:=B) x h];rfl
theorem iu.ur(s:iu){n:Nd}{j id:Nat}{l:List Nd}(h:s.At n j id l)(l':List Nd):s.B.set (j+1) (id,m9 l')=iu.B ⟨s.oi,s.es.set j (n,id,l')⟩:=by
 have hj:=(gS h.at_).1;have e1:(s.es.set j (n,id,l')).map (λe=>(e.1,Value.map (some e.2.1)))=s.outer:=by
  rw[SA];show s.outer.set j _=_;refine R5 λi=>?_;rw[Tx];split
  ·rename_i e;subst e;unfold iu.outer;rw[Re,h.at_];simp[hj]
  ·rfl
 unfold iu.B;rw[show iu.outer ⟨s.oi,s.es.set j (n,id,l')⟩=s.outer from e1];show (_::(s.es.map _).set j _)=_;rw[SA]
theorem GL{κ:Type}[DecidableEq κ]{C:Ctx}{t:TypeId}(K:om C t κ)(a b:cQ κ):aK K (a++b)=aK K a++aK K b:=RV ..
theorem G8{s:iu}{n:Nd}{id:Nat}(h:Abs.look s.outer n=none):Abs.look (iu.outer ⟨s.oi,s.es++[(n,id,[])]⟩) n=some (.map (some id)):=by
 unfold iu.outer;rw[RV];exact Cd h
theorem iu.grow(s:iu)(n:Nd)(id:Nat)(h:Abs.look s.outer n=none):iu.B ⟨s.oi,s.es++[(n,id,[])]⟩=s.B.set 0 (s.oi,.map (aK j9 (dX s.outer n (.map (some id)))))++[(id,.map [])]:=by
 unfold iu.B;rw[lv j9 n _ _ h];show (_,aD.map (aK j9 (List.map _ (s.es++[(n,id,[])]))))::List.map _ (s.es++[(n,id,[])])=_;rw[RV,RV,GL];rfl
theorem BA(F:ar){is:Nat}{ro:Bool}{x0 x1 x2 x3:Value}(s:iu)(hi:F is=some (.cells ro [x0,x1,x2,x3,.map (some s.oi)]))(top below:Nd) :
  Abs.Spec CC 164 [.pointer (some ⟨is,0,none⟩),nd top,nd below] F [s.B] λF' v o=>∃B',o=[B']/\∃s':iu,B'=s'.B/\s'.oi=s.oi/\s'.abs=eJ s.abs top below/\v=.bool (!decide (below∈bl s.abs top)):=by
 obtain⟨m,hm,hm0,hm1⟩:∃m:Option Nat,(Abs.look s.outer top).getD (.map none)=.map m/\(m=none->Abs.look s.outer top=none/\top∉s.es.map (·.1))/\∀id,m=some id->∃j l,s.At top j id l:=by
  rcases pL top s.es with ⟨h1,h2⟩ | ⟨a,b,id,l,h1,h2,h3⟩
  ·exact⟨none,by rw[show Abs.look s.outer top=none from h1];rfl,λ_=>⟨h1,h2⟩,λid h=>(by cases h)⟩
  ·exact⟨some id,by rw[show Abs.look s.outer top=some (.map (some id)) from h3];rfl,λh=>(by cases h),λid' h=>(by cases h;exact⟨_,_,iu.IX h1 h2 h3⟩)⟩
 refine Abs.Spec.fn (n:=38) Tryz.func164 rfl rfl λown=>?_;refine AW.seq (AW.du ?_);refine WT.cC Z Z Z Z Z Z (λi4 hi4=>?_);refine WT.cC Z Z Z Z Z Z (λi5 hi5=>?_);refine aj ?_;refine WT.oP j9 (key:=top) (m:=s.outer) hT 2 Z Z Z Z Z Z Z me Z Z Z ?_;rw[hm];refine WT.MR hT Z Z Z Z Z Z Z Z ?_;refine aj ?_
 refine AW.EG (S:=iu) (λ_=>[]) (λt=>[(i5,.cells false [.int .i64 below.1,.int .i64 below.2])]::[(i4,.cells false [.int .i64 top.1,.int .i64 top.2])]::t.B::own) (λt G=>t.oi=s.oi/\∃j id l,t.At top j id l/\eJ t.abs top below=eJ s.abs top below/\l=bl s.abs top) ?_ (λt F1 hF1 ht=>?_)
 ·refine AW.cond Z (λh=>?_) (λh=>?_)
  ·obtain⟨hl,hk⟩:=hm0 (by simpa using h);refine AW.draw (ps:=[(3,5),(4,5)]) Z Z ?_;refine aj ?_;refine WT.makeMap Z Z Z Z (λi20 hi20=>?_);refine WT.sO j9 (key:=top) (m:=s.outer) hT 3 0 Z Z Z Z Z Z Z Z Z Z Z Z ?_;refine aj ?_;refine⟨oF,?_⟩;refine⟨⟨s.oi,s.es++[(top,i20,[])]⟩,sM,?_,rfl,s.es.length,i20,[],iu.IX rfl hk (G8 hl),?_,(Bo (a:=s.abs) (by unfold iu.abs;simpa using hk)).symm⟩
   ·show ah (_::_::iu.B ⟨s.oi,s.es++[(top,i20,[])]⟩::own) _;rw[iu.grow s top i20 hl];refine ah.flat ?_;simp only[SC,RY,Tl,SG];exact(S0 (l₁:=_::_::s.B.set 0 _) (l₂:=own.flatten)).symm
   ·unfold iu.abs;rw[RV];show eJ (_++(top,[])::[]) top below=_;rw[Dl (by simpa using hk),Jl (by simpa using hk),By (by simp)];rfl
  ·obtain⟨id,rfl⟩:∃id,m=some id:=by
    cases m with
    | none=>simp at h
    | some id=>exact⟨id,rfl⟩
   obtain⟨j,l,hA⟩:=hm1 id rfl;refine aj ?_;exact⟨s,sM,ah.refl _,rfl,j,id,l,hA,rfl,hA.below.symm⟩
 ·obtain⟨hoi,j,id,l,hA,hadd,hbel⟩:=ht;have hi1:=hF1 _ _ hi;rw[<-hoi] at hi1;have hlk:(Abs.look t.outer top).getD (.map none)=.map (some id):=by rw[hA.look];rfl
  refine aj ?_;refine WT.oP j9 (key:=top) (m:=t.outer) hT 2 Z Z Z Z Z Z Z me Z Z Z ?_;rw[hlk];refine aj ?_;refine WT.oP j9 (key:=below) (m:=mr l) hT 2 Z Z Z Z Z Z Z (gM hA.mem) Z Z Z ?_;rw[ye];refine aj ?_;refine WT.oP j9 (key:=top) (m:=t.outer) hT 2 Z Z Z Z Z Z Z me Z Z Z ?_;rw[hlk];refine aj ?_;refine WT.sO j9 (key:=below) (m:=mr l) hT 2 (j+1) Z Z Z Z Z Z Z hA.mem Z Z (Eo _ hA.mem) Z ?_;rw[tq];refine aj ?_
  refine AW.ret ⟨_,[iu.B ⟨t.oi,t.es.set j (top,id,if below∈l then l else l++[below])⟩],⟨_,_,rfl,rfl,rfl⟩,?_,_,rfl,⟨t.oi,t.es.set j (top,id,if below∈l then l else l++[below])⟩,rfl,hoi,?_,?_⟩
  ·rw[<-t.ur hA];exact bU
  ·rw[<-hadd];exact hA.add below
  ·rw[hbel];rfl
structure Hh(g:af)(w:List Nat)(n i j:Nat)(row:List Nat):Prop where
 len:row.length=w.length+1
 bit:∀p x,row[p]?=some x->∀q,x.testBit q=true↔((p<i\/(p=i/\q<j))/\iB g w ⟨false,n⟩ p q)
theorem Hh.skip{g:af}{w:List Nat}{n i j:Nat}{row:List Nat}(h:Hh g w n i j row)(hd:¬iB g w ⟨false,n⟩ i j):Hh g w n i (j+1) row where
 len:=h.len
 bit:=λp x hx q=>by
  rw[h.bit p x hx q];constructor
  ·rintro⟨h1,h2⟩;exact⟨by omega,h2⟩
  ·rintro⟨h1 | ⟨rfl,h1⟩,h2⟩
   ·exact⟨.inl h1,h2⟩
   ·rcases Rw q j with h3 | h3
    ·exact⟨.inr ⟨rfl,h3⟩,h2⟩
    ·obtain rfl:q=j:=by omega
     exact absurd h2 hd
structure Q8 where
 a:Option Addr
 m:Nat
 c:Nat
 B:List (Nat×aD)
 vs:List Value
 bs:List (Nat×aD)
 E:List (List Nat)
section
variable {g:af}{w:List Nat}{E:List (List Nat)}{root:Key}{S:List Key}
mutual
theorem Hp(hE:lU g w E)(hK:GO g w E root S):∀{s:Sym} {i j:Nat},iB g w s i j->j<=w.length->⟨s,i,j⟩∈S->∀p,i<=p->p<j->∃t,w[p]?=some t/\(⟨⟨true,t⟩,p,p+1⟩:Key)∈S
 | _,i,_,.term h,hj,hS,p,h1,h2=>by
  obtain rfl:p=i:=by omega
  exact⟨_,h,hS⟩
 | _,i,j,.ym (r:=r) hr hd,hj,hS,p,h1,h2=>by
  obtain⟨ks,hks,hall⟩:=xy hE hK hd hj;obtain⟨q,hq⟩:=TU hr;have hp:(⟨q,ks⟩:ob)∈jI g w E ⟨⟨false,r.left⟩,i,j⟩:=BR.2 ⟨r,hq,rfl,rfl,hks⟩;exact hall (λx hx=>hK.closed _ hS _ hp x hx) p h1 h2
theorem xy(hE:lU g w E)(hK:GO g w E root S):∀{l:List Sym} {i j:Nat},gH g w l i j->j<=w.length->∃ks∈splits w E j l i,((∀x∈ks,x∈S)->∀p,i<=p->p<j->∃t,w[p]?=some t/\(⟨⟨true,t⟩,p,p+1⟩:Key)∈S)
 | _,i,_,.nil,hj=>⟨[],by unfold splits;simp,λ_ p h1 h2=>by omega⟩
 | _,i,j,.cons (s:=s) (l:=l) (m:=m) h1 h2,hj=>by
  obtain⟨ks,hks,hall⟩:=xy hE hK h2 hj;have him:=Cz h1;have hmj:m<=j:=zO h2;refine⟨⟨s,i,m⟩::ks,?_,λhS p hp1 hp2=>?_⟩
  ·unfold splits;refine SM.2 ⟨m,Rm.2 zo,?_⟩;rw[If ((IJ hE zo).2 h1)];exact Rg.2 ⟨ks,hks,rfl⟩
  ·rcases Rw p m with h | h
   ·exact Hp hE hK h1 zo (hS _ me) p hp1 h
   ·exact hall (λx hx=>hS x (I9 _ hx)) p h hp2
end
end
structure uM(w:List Nat)(N:List Key)(j:Nat)(xs:List Int):Prop where
 len:xs.length=w.length
 seen:∀q k,q<j->N[q]?=some k->k.sym.term=true->xs[k.gU]?=some (k.sym.n:Int)
theorem uM.mono{w:List Nat}{N:List Key}{j:Nat}{xs:List Int}(h:uM w N j xs)(h2:∀k,N[j]?=some k->k.sym.term=false):uM w N (j+1) xs:=
 ⟨h.len,λq k hq hk ht=>by
  rcases Rw q j with h3 | h3
  ·exact h.seen q k h3 hk ht
  ·obtain rfl:q=j:=by omega
   rw[h2 k hk] at ht;cases ht⟩
theorem G4{x:Nat}(h:x<4294967296):b9 .and .u64 (x:Int) 4294967295=some (.int .u64 (x:Int)):=by
 have:=LK (x:=x) (y:=4294967295) zo (by decide)
 rw[show x &&& 4294967295=x by
  have:=Nat.and_two_pow_sub_one_eq_mod x 32;rw[show 2 ^ 32-1=4294967295 from rfl] at this;rw[this];exact TF h] at this
 exact this
theorem I5{x:Nat}(h:x<4294967296):iU .shr .u64 (x:Int) 32=some (.int .u64 0):=by
 have:=EF (x:=x) (y:=32) (by decide);rw[Nat.div_eq_of_lt (by exact h)] at this;exact this
theorem O6(y:Nat):b9 .mul .u64 0 (y:Int)=some (.int .u64 0):=by
 have:=Hg 0 y;rw[Ua] at this;exact this
theorem OY(y:Nat):b9 .mul .u64 (y:Int) 0=some (.int .u64 0):=by
 have:=Hg y 0;rw[Nat.mul_zero] at this;exact this
theorem NO{x y:Nat}(h:x*y<18446744073709551616):b9 .mul .u64 (x:Int) (y:Int)=some (.int .u64 ((x*y:Nat):Int)):=by
 rw[Hg,TF h]
theorem DZ(F:ar)(x y:Nat)(hx:x<65536)(hy:y<65536):Abs.Spec CC 235 [.int .u64 x,.int .u64 y] F [] λ_ v o=>o=[]/\v=.tuple ⟨[.int .u64 0,.int .u64 ((x*y:Nat):Int)]⟩:=by
 have hxy:x*y<4294967296:=Nat.mul_lt_mul'' hx hy;refine Abs.Spec.fn (n:=51) Tryz.func235 rfl rfl λown=>?_;refine au ?_;refine WT.lB Z Z Z Z Z Z (by decide) (G4 zo) ?_;refine au ?_;refine WT.It Z Z Z Z Z Z (by decide) (I5 zo) ?_;refine au ?_;refine WT.lB Z Z Z Z Z Z (by decide) (G4 zo) ?_;refine au ?_;refine WT.It Z Z Z Z Z Z (by decide) (I5 zo) ?_;refine au ?_;refine WT.lB Z Z Z Z Z Z (by decide) (NO zo) ?_;refine au ?_;refine WT.lB Z Z Z Z Z Z (by decide) (O6 y) ?_;refine au ?_;refine WT.It Z Z Z Z Z Z (by decide) (I5 hxy) ?_
 refine WT.lB (v:=.int .u64 0) Z Z Z Z Z Z (by decide) Z ?_;refine au ?_;refine WT.lB (v:=.int .u64 0) Z Z Z Z Z Z (by decide) Z ?_;refine au ?_;refine WT.It (v:=.int .u64 0) Z Z Z Z Z Z (by decide) Z ?_;refine au ?_;refine WT.lB Z Z Z Z Z Z (by decide) (OY x) ?_;refine WT.lB (v:=.int .u64 0) Z Z Z Z Z Z (by decide) Z ?_;refine au ?_;refine WT.lB (v:=.int .u64 0) Z Z Z Z Z Z (by decide) Z ?_;refine au ?_;refine WT.lB (v:=.int .u64 0) Z Z Z Z Z Z (by decide) Z ?_;refine au ?_;refine WT.It (v:=.int .u64 0) Z Z Z Z Z Z (by decide) Z ?_
 refine WT.lB (v:=.int .u64 0) Z Z Z Z Z Z (by decide) Z ?_;refine au ?_;refine WT.lB Z Z Z Z Z Z (by decide) (NO zo) ?_;refine au ?_;exact AW.ret ⟨_,[],⟨_,_,rfl,⟨_,_,rfl,rfl,rfl⟩,rfl⟩,bU,rfl,rfl⟩
theorem IV(F:ar)(x y:Nat)(hx:x<65536)(hy:y<65536):Abs.Spec CC 204 [.int .u64 x,.int .u64 y] F [] λ_ v o=>o=[]/\v=.tuple ⟨[.int .u64 0,.int .u64 ((x*y:Nat):Int)]⟩:=by
 refine Abs.Spec.fn (n:=30) Tryz.func204 rfl rfl λown=>?_;refine au ?_;refine AW.cond Z (λh=>(by cases h)) (λ_=>?_);refine au ?_;refine WT.bN Tryz.func235 Z Z Z Z Z Z (DZ _ x y hx hy) (λv hv=>?_);subst hv;refine au ?_;exact AW.ret ⟨_,[],⟨_,_,rfl,⟨_,_,rfl,rfl,rfl⟩,rfl⟩,bU,rfl,rfl⟩
theorem Aw(F:ar){b:Nat}{ro:Bool}{z:Int}(hb:F b=some (.cells ro [.int .i64 z]))(n:Nat)(hn:n<65536) :
  Abs.Spec CC 172 [.slice (some ⟨b,0,none⟩) 1 1,.int .i64 n] F [] λF' v o=>∃B',o=[B']/\∃i,v=.slice (some ⟨i,0,none⟩) n (bif n==0 then 0 else 1)/\B'=[(i,.cells false (List.replicate n (.int .i64 z)))]:=by
 refine Abs.Spec.fn (n:=48) Tryz.func172 rfl rfl λown=>?_;refine au ?_;refine AW.cond Z (λh=>(by simp at h;omega)) (λ_=>?_);refine au ?_;refine WT.conv hT (k2:=.u64) Z Z Z Z Z Z Z Z (jD (by decide)) ?_
 refine au ?_;refine WT.conv hT (k2:=.u64) Z Z Z Z Z Z Z Z (jD zo) ?_
 refine WT.bN Tryz.func204 Z Z Z Z Z Z (IV _ 1 n (by decide) hn) (λv hv=>?_);rw[SW] at hv;subst hv
 (iterate 5 (refine WT.DR hT Z Z Z Z Z ?_))
 refine WT.nil ?_;refine AW.seq (AW.seq (AW.du ?_))
 (iterate 4 (refine WT.DR hT Z Z Z Z Z ?_))
 refine WT.lB (v:=.bool false) Z Z Z Z Z Z (by decide) ?_ ?_
 ·simp only[b9,IT,Value.bool.injEq,decide_eq_false_iff_not];omega
 refine au ?_;refine AW.cond Z (λh=>(by cases h)) (λ_=>?_);refine au ?_;refine WT.conv hT (k2:=.i64) Z Z Z Z Z Z Z Z (wrap64 zo) ?_
 refine WT.nD (by_:=8) hT Z Z Z Z Z Z Z Z Z Z Z Z zo (λi7 hi7=>?_);refine au ?_;by_cases hn0:n=0
 ·subst hn0;refine WT.NC hT Z Z Z Z Z Z (λp hp=>by cases hp;rfl) Z Z Z Z ?_;refine au ?_;refine AW.block ?_;refine AW.cK (S:=Unit) (λ_=>[]) (λ_=>_) (λ_ _=>True) (λ_=>0) () sM oR trivial ?_;intro _ F2 hF2 _;refine au ?_;refine AW.cond Z (λh=>(by cases h)) (λh=>?_);refine AW.exit ?_;refine au ?_;exact AW.ret ⟨_,[_],⟨_,_,rfl,rfl,rfl⟩,bU,_,rfl,_,rfl,rfl⟩
 ·have hmin:Nat.min 1 n=1:=Se zo;refine WT.Ef (m:=1) (new:=[.int .i64 z]) hT 0 Z Z Z Z Z Z Z Z Z Z Z (λh0 s0=>?_) Z (by simp) (by simp;omega) Z ?_
  ·rw[hmin];simp[eU,iv,s0.xQ _ _ hb,bF]
  refine WT.iE (v':=.int .i64 ((1:Nat):Int)) 33 Z (by rw[hmin]) ?_;refine au ?_;refine AW.block ?_;refine AW.cK (S:=Nat) (λj=>[(8,.int .i64 (j:Nat))]) (λj=>[(i7,.cells false (List.replicate j (.int .i64 z)++List.replicate (n-j) (.int .i64 0)))]::own) (λj _=>1<=j/\j<=n) (λj=>n-j) 1
   sM (ah.flat (Ss ?_)) ⟨AS _,by omega⟩ ?_
  ·have:=tB (x:=.int .i64 z) (z:=.int .i64 0) 0 n 1 zo;simp only[List.replicate_zero,SG,Rn] at this;rw[<-this];rfl
  intro j F2 hF2 ⟨hj1,hj2⟩;refine au ?_;refine AW.cond Z (λh=>?_) (λh=>?_)
  ·have h:j<n:=by simpa using h
   refine au ?_;refine AW.block ?_;refine AW.draw (ps:=[]) Z Z ?_;refine au ?_;refine WT.slice Z Z Z Z Z Z Z Z (λh0=>jj (lo:=j) (hi:=n) hT Z Z Z Z Z zo (AS _) (by cases n<;>simp) h0) ?_;refine au ?_;refine WT.slice Z Z Z Z Z Z Z Z (λh0=>jj (lo:=0) (hi:=j) hT Z Z Z Z Z (RC _) zo (by cases n<;>simp) h0) ?_;obtain⟨q,hq⟩:∃q,Nat.min (j-0) (n-j)=q:=⟨_,rfl⟩;have hq1:q<=n-j:=by rw[<-hq];exact TH _ _
   have hq2:q<=j:=by rw[<-hq];exact TP (j-0) (n-j)
   have hq3:0<q:=by
    have:0<min (j-0) (n-j):=by rw[Nat.lt_min];omega
    rw[<-hq];exact this
   have hfit:0+j*1+(List.replicate q (Value.int .i64 z)).length<=(List.replicate j (Value.int .i64 z)++List.replicate (n-j) (Value.int .i64 0)).length:=by
    simp only[Rf,Sa];omega
   refine WT.Ef (m:=j-0) (new:=List.replicate q (.int .i64 z)) hT 0 Z Z Z Z Z Z Z Z Z Z Z (λh0 s0=>?_) (by simp[Go.Abs.one]) (by intro e;have:=congrArg List.length e;simp at this;omega) hfit Z ?_
   ·have hb2:=s0.has (p:=0) rfl me;have e0:(q==0)=false:=by simpa using Nat.ne_of_gt hq3
    rw[hq];simp only[eU,e0,Ri,iv,hb2,RQ];exact GN _ _ _ hq2
   rw[show 0+j*1=j by omega,tB _ _ _ hq1,hq];refine WT.KH Z Z Z Z Z Z zo ?_;refine WT.iE (v':=.int .i64 ((j+q:Nat):Int)) 46 Z (by rw[Int.natCast_add]) ?_;refine au ?_;refine⟨j+q,by omega,sM,ah.flat (Ss ?_),by omega,by omega⟩;rw[show n-(j+q)=n-j-q by omega]
  ·have h:j=n:=by simp at h;omega
   subst h;refine AW.exit ?_;refine au ?_;rw[SV];simp only[List.replicate_zero,R0];exact AW.ret ⟨_,[_],⟨_,_,rfl,rfl,rfl⟩,bU,_,rfl,_,rfl,rfl⟩
theorem J1{F:ar}{i n:Nat}(z:Int):dC fm F (some ⟨i,0,none⟩) n (bif n==0 then 0 else 1) [(i,.cells false (List.replicate n (.int .i64 z)))] (List.replicate n z):=by
 refine⟨by simp,?_,λh=>?_,λh=>(by cases h),λp hp=>(by cases hp;rfl),.inr ⟨i,_,rfl,rfl,?_,by decide⟩⟩
 ·cases n<;>simp[fm]
 ·cases n with
  | zero=>rfl
  | succ n=>simp at h
 ·induction n with
  | zero=>exact .nil
  | succ n ih=>
   rw[TE,TE];exact aF.cons (R:=fm) (l:=[.int .i64 z]) rfl ih
theorem Bp(O:List Int)(a:Int)(l:List Sym)(y:Sym):cR O a (l++[y])=cI O (cR O a l) y:=by
 unfold cR;rw[List.foldl_append];rfl
structure P9 where
 O:List Int
 B:List (Nat×aD)
 again:Bool
theorem y7(F:ar)(g:af)(hg:Valid g){a:Option Addr}{m c:Nat}(hr:bw bK F a m c g.rules) :
  Abs.Spec CC 165 [.agg ⟨ai g a m c⟩] F [] λF' v o=>∃B',o=[B']/\∃O a' c',v=.slice a' g.ak c'/\dC fm F' a' g.ak c' B' O/\kL g.ak O/\fy g O/\∀r∈g.rules,gN O r:=by
 unfold ai;have hrl:=hr.len;have hgn:=hg.range.ak;have hgr:=hg.range.rules;refine Abs.Spec.fn (n:=81) Tryz.func165 rfl rfl λown=>?_;refine AW.seq (AW.du ?_);refine WT.cC Z Z Z Z Z Z (λi1 hi1=>?_);refine au ?_;refine WT.bd hT Z Z Z Z Z Z Z Z Z Z Z Z Z Z (λi11 hi11=>?_);refine WT.aw 0 Z Z (λF1 hF1 hB1=>?_);have hi11:=hB1 i11 _ me;refine au ?_;refine WT.lC Tryz.func172 Z Z Z Z Z Z (Aw _ hi11 g.ak zo) (λF2 v B2 hF2 hv=>?_);obtain⟨io,rfl,rfl⟩:=hv;have hv0:=J1 (F:=F2) (i:=io) (n:=g.ak) (-1)
 have hc1:(bif g.ak==0 then 0 else 1)=1:=by rw[show (g.ak==0)=false by simp;omega];rfl
 rw[hc1] at hv0 ⊢;refine au ?_
 have hO0:kL g.ak (List.replicate g.ak (-1)):=⟨by simp,λx hx=>by rw[Sl hx];decide,λx hx=>by
  rw[Sl hx];have:0<4 ^ gi (List.replicate g.ak (-1)):=TK (by decide);omega⟩
 have hS0:fy g (List.replicate g.ak (-1)):=λn x hx h=>by
  rw[Sl (gM hx)] at h;exact absurd h (by decide)
 refine AW.block ?_;refine AW.cK (S:=P9) (λs=>[(4,.bool s.again)]) (λs=>s.B::[]::[(i1,.cells false [.int .i64 g.ae,.int .i64 g.ak,.int .i64 g.start,.slice a m c])]::own)
  (λs G=>dC fm G (some ⟨io,0,none⟩) g.ak 1 s.B s.O/\kL g.ak s.O/\fy g s.O/\(s.again=false->∀r∈g.rules,gN s.O r)) (λs=>2*jc s.O+(if s.again then 1 else 0)) ⟨_,_,true⟩
  sM oR ⟨hv0,hO0,hS0,λh=>by cases h⟩ ?_
 intro s F3 hF3 hP;obtain⟨hv,hO,hS,hcl⟩:=hP;refine au ?_;refine AW.cond Z (λh=>?_) (λh=>?_)
 ·have hag:s.again=true:=h;refine au ?_;refine AW.block ?_;refine au ?_;refine AW.range (S:=P9) (λt=>[(4,.bool t.again)]) (λt=>t.B::[]::[(i1,.cells false [.int .i64 g.ae,.int .i64 g.ak,.int .i64 g.start,.slice a m c])]::own)
   (λj t G=>dC fm G (some ⟨io,0,none⟩) g.ak 1 t.B t.O/\kL g.ak t.O/\fy g t.O/\jc t.O<=jc s.O/\(t.again=true->jc t.O<jc s.O)/\(t.again=false->∀r∈g.rules.take j,gN t.O r)) m ⟨s.O,s.B,false⟩
   Z Z Z Z Z Z Z Z Z zo rfl rfl (λ_=>rfl) (λ_=>rfl) sM oR ⟨hv,hO,hS,AS _,λh=>(by cases h),λ_ r hr=>by simp at hr⟩ ?_ ?_
  ·intro j t F4 hF4 hj hP;obtain⟨hv4,hO4,hS4,hw4,hw5,hcl4⟩:=hP;have hr4:=((hr.mono hF1).mono hF2).mono hF3;have hr4:=hr4.mono hF4;have hO4l:=hO4.len;have hmax:=hO4.max hgn.2;refine dA ?_;refine WT.bG hT hr4 Z Z Z Z Z Z Z Z Z zo (λr hrj b off ro cs lx hb1 hp1 hrel=>?_);obtain⟨ra,rn,rc,rfl,hra⟩:=hrel;have hral:=hra.len;obtain⟨hrleft,hrn,hry⟩:=hg.right r (gM hrj);refine dA ?_;refine WT.aI hT Z Z Z Z Z Z (λi6 hi6=>?_);refine dA ?_;refine AW.range (S:=Int) (λx=>[(7,.int .i64 x)]) (λ_=>_) (λq x G=>x=cR t.O 0 (r.right.take q)) rn 0
    Z Z Z Z Z Z Z Z Z zo rfl rfl (λ_=>rfl) (λ_=>rfl) sM oR rfl ?_ ?_
   ·intro q x F5 hF5 hq hx;have hra5:=hra.mono hF5;have hv5:=hv4.mono hF5;have hlim:cR t.O 0 (r.right.take q)<=4*1048576:=by
     have h1:=xB (M:=1048576) (by decide) hmax (r.right.take q);have h2:((r.right.take q).length:Int)*1048576<=4*1048576:=Int.mul_le_mul_of_nonneg_right (by simp;omega) (by decide);omega
    have hge:=yF (O:=t.O) (r.right.take q) 0 (by decide);rw[<-hx] at hlim hge;refine dA ?_;refine WT.bG hT hra5 Z Z Z Z Z Z Z Z Z zo (λy hyq b3 off3 ro3 cs3 lx3 hb3 hp3 hrel3=>?_);obtain rfl:lx3=_:=hrel3;have hyok:=hry y (gM hyq);have hst:∀z,cI t.O x y=z->z=cR t.O 0 (r.right.take (q+1)):=by
     rintro z rfl;rw[Rk,hyq,hx];exact(Bp ..).symm
    refine dA ?_;refine WT.aI hT Z Z Z Z Z Z (λi9 hi9=>?_);refine dA ?_;refine AW.block ?_;refine dA ?_;refine WT.split 33 Z (λhterm=>?_) (λhterm=>?_)
    ·refine dA ?_;refine AW.cond Z (λh=>?_) (λh=>?_)
     ·have h:0<=x:=by simpa using h
      refine dA ?_;exact⟨x+1,sM,cy,hst _ (by unfold cI;rw[If ⟨hterm,h⟩])⟩
     ·have h:¬0<=x:=by simpa using h
      refine dA ?_;refine WT.split 42 Z (λh2=>absurd (by simpa using h2) h) (λ_=>?_);refine dA ?_;refine AW.cond Z (λh=>(by cases h)) (λ_=>?_);refine dA ?_;exact⟨-1,sM,cy,hst _ (by unfold cI;rw[By (λh2=>h h2.2),By (λh2=>h h2.1)])⟩
    ·have hyn:y.n<g.ak:=by rw[bZ,By (by simp[hterm])] at hyok;exact hyok
     obtain⟨z,hz⟩:∃z,t.O[y.n]?=some z:=⟨_,gE zo⟩;have hzd:t.O.getD y.n (-1)=z:=by rw[BY,hz];rfl
     have hzm:=hmax z (gM hz);refine dA ?_;refine AW.cond Z (λh=>(by cases h)) (λ_=>?_);refine dA ?_;refine WT.split 42 Z (λh2=>?_) (λh2=>?_)
     ·have h2:0<=x:=by simpa using h2
      refine dA ?_;refine WT.be hT hv5 Z Z Z Z Z Z Z Z Z hyn (λb5 hb5=>?_);refine WT.C8 hT 2 hv5 hb5 hz Z Z Z Z Z Z Z Z Z (λl h=>h) ?_;refine dA ?_;refine AW.cond Z (λh=>?_) (λh=>?_)
      ·have h:0<=z:=by simpa using h
       refine dA ?_;refine WT.be hT hv5 Z Z Z Z Z Z Z Z Z hyn (λb6 hb6=>?_);refine WT.C8 hT 2 hv5 hb6 hz Z Z Z Z Z Z Z Z Z (λl h=>h) ?_;refine dA ?_;exact⟨x+z,sM,cy,hst _ (by unfold cI;rw[By (by simp[hterm]),If (by rw[hzd];exact⟨h2,h⟩),hzd])⟩
      ·have h:¬0<=z:=by simpa using h
       refine dA ?_;exact⟨-1,sM,cy,hst _ (by unfold cI;rw[By (by simp[hterm]),By (by rw[hzd];exact λh3=>h h3.2)])⟩
     ·have h2:¬0<=x:=by simpa using h2
      refine dA ?_;refine AW.cond Z (λh=>(by cases h)) (λ_=>?_);refine dA ?_;exact⟨-1,sM,cy,hst _ (by unfold cI;rw[By (by simp[hterm]),By (λh3=>h2 h3.1)])⟩
   ·intro x F5 hF5 hx;rw[No zo] at hx;have hv5:=hv4.mono hF5;obtain⟨z,hz⟩:∃z,t.O[r.left]?=some z:=⟨_,gE zo⟩;have hzd:t.O.getD r.left (-1)=z:=by rw[BY,hz];rfl
    have kx:gN t.O r->∀r'∈g.rules.take (j+1),(∀r'∈g.rules.take j,gN t.O r')->gN t.O r':=by
     intro h1 r' hr' h2;rw[Rk,hrj] at hr';rcases Rx.1 hr' with h | h
     ·exact h2 r' h
     ·simp at h;subst h;exact h1
    refine dA ?_;refine WT.be hT hv5 Z Z Z Z Z Z Z Z Z hrleft (λb5 hb5=>?_);refine WT.C8 hT 1 hv5 hb5 hz Z Z Z Z Z Z Z Z Z (λl h=>h) ?_;refine dA ?_;have put:0<=x->(z<0\/x<z)->kL g.ak (t.O.set r.left x)/\fy g (t.O.set r.left x)/\jc (t.O.set r.left x)<jc t.O:=by
     intro h1 h2;subst hx;refine⟨hO4.put hrn hz h1 h2,hS4.put (gM hrj) h1,?_⟩;have:=(hO4.put hrn hz h1 h2).max hgn.2 (cR t.O 0 r.right) (gM (i:=r.left) (by rw[RA zo]));exact Jq hz h1 this h2
    refine WT.split 65 Z (λh1=>?_) (λh1=>?_)
    ·have h1:0<=x:=by simpa using h1
     refine dA ?_;refine WT.split 68 Z (λh2=>?_) (λh2=>?_)
     ·have h2:z<0:=by simpa using h2
      refine dA ?_;refine AW.cond Z (λ_=>?_) (λh=>(by cases h));refine dA ?_;refine WT.be hT hv5 Z Z Z Z Z Z Z Z Z hrleft (λb6 hb6=>?_);refine WT.oY (y:=x) hT 1 hv5 hb6 hz Z Z Z Z Z Z Z (λ_=>rfl) Z (λB6 hB6=>?_);refine dA ?_;obtain⟨p1,p2,p3⟩:=put h1 (.inl h2);exact⟨⟨t.O.set r.left x,B6,true⟩,sM,cy,hB6,p1,p2,by dsimp only;omega,λ_=>by dsimp only;omega,λh=>by cases h⟩
     ·have h2:¬z<0:=by simpa using h2
      refine dA ?_;refine AW.cond Z (λh=>?_) (λh=>?_)
      ·have h:x<z:=by simpa using h
       refine dA ?_;refine WT.be hT hv5 Z Z Z Z Z Z Z Z Z hrleft (λb6 hb6=>?_);refine WT.oY (y:=x) hT 1 hv5 hb6 hz Z Z Z Z Z Z Z (λ_=>rfl) Z (λB6 hB6=>?_);refine dA ?_;obtain⟨p1,p2,p3⟩:=put h1 (.inr h);exact⟨⟨t.O.set r.left x,B6,true⟩,sM,cy,hB6,p1,p2,by dsimp only;omega,λ_=>by dsimp only;omega,λh=>by cases h⟩
      ·have h:¬x<z:=by simpa using h
       refine dA ?_;exact⟨t,sM,cy,hv5,hO4,hS4,hw4,hw5,λh3 r' hr'=>kx (λ_=>by rw[hzd,<-hx];omega) r' hr' (hcl4 h3)⟩
    ·have h1:¬0<=x:=by simpa using h1
     refine dA ?_;refine AW.cond Z (λh=>(by cases h)) (λ_=>?_);refine dA ?_;exact⟨t,sM,cy,hv5,hO4,hS4,hw4,hw5,λh3 r' hr'=>kx (λh4=>absurd (hx▸h4) h1) r' hr' (hcl4 h3)⟩
  ·intro t F4 hF4 hP;obtain⟨hv4,hO4,hS4,hw4,hw5,hcl4⟩:=hP;rw[No zo] at hcl4;refine⟨t,?_,sM,ah.refl _,hv4,hO4,hS4,hcl4⟩;rw[hag];cases ht:t.again with
   | true=>have:=hw5 ht;simp;omega
   | false=>simp;omega
 ·have hag:s.again=false:=h;refine AW.exit ?_;refine au ?_;refine AW.perm (Jf _ _ _ _) ?_;exact AW.ret ⟨_,[_],⟨_,_,rfl,rfl,rfl⟩,bU,_,rfl,s.O,_,_,rfl,hv,hO,hS,hcl hag⟩
structure FV(g:af)(w:List Nat)(F:ar)(a:Option Addr)(n c:Nat)(r:Int):Prop where
 res:∃E,lU g w E/\KY g w E F (.tuple ⟨[.agg ⟨[.slice a n c,.int .i64 r]⟩,.int .i64 0]⟩)
theorem FV.mono{g:af}{w:List Nat}{F G:ar}{a:Option Addr}{n c:Nat}{r:Int}(h:FV g w F a n c r)(hF:ar.le F G):FV g w G a n c r:=by
 obtain⟨E,hE,h⟩:=h.res;refine⟨E,hE,?_⟩;rcases h with ⟨s,xa,xn,xc,xr,h1,h2,h3,h4⟩ | ⟨h1,_⟩
 ·exact .inl ⟨s,xa,xn,xc,xr,h1,h2,h3.mono hF,h4⟩
 ·cases h1
theorem FV.cases{g:af}{w:List Nat}{F:ar}{a:Option Addr}{n c:Nat}{r:Int}(h:FV g w F a n c r):∃E,lU g w E/\rC g w E F (.agg ⟨[.slice a n c,.int .i64 r]⟩):=by
 obtain⟨E,hE,h⟩:=h.res;rcases h with ⟨s,xa,xn,xc,xr,h1,h2,h3,h4⟩ | ⟨h1,_⟩
 ·cases h2;exact⟨E,hE,h3⟩
 ·cases h1
structure QW where
 k:Nat
 x:Nat
 y:Nat
theorem GH(F:ar):Abs.Spec CC 254 [.slice none 0 0,.int .i64 0,.int .i64 0] F [[]] λ_ v o=>∃B',o=[B']/\B'=[]:=by
 refine Abs.Spec.fn (n:=49) Tryz.func254 rfl rfl λown=>?_;refine au ?_;refine AW.block ?_;refine AW.cK (S:=Unit) (λ_=>[]) (λ_=>_) (λ_ _=>True) (λ_=>0) () sM oR trivial ?_;intro _ F1 hF1 _;refine au ?_;refine AW.cond Z (λh=>(by cases h)) (λ_=>?_);refine AW.exit ?_;exact⟨_,[_],rfl,bU,_,rfl,rfl⟩
abbrev xI(g:Nat)(args:List Value)(F:ar)(B B':List (Nat×aD)):Prop:=Abs.Spec CC g args F [B] λ_ v o=>∃B1,o=[B1]/\B1=B'
theorem xu(F:ar){a:Option Addr}{n c:Nat}(hn:n<=12){B B':List (Nat×aD)}(h:xI 254 [.slice a n c,.int .i64 0,.int .i64 (n:Nat)] F B B')(lim:Value) :
  xI 223 [.slice a n c,.int .i64 0,.int .i64 (n:Nat),lim] F B B':=by
 unfold xI;refine Abs.Spec.fn (n:=134) Tryz.func223 rfl rfl λown=>?_;refine au ?_;refine AW.block ?_;refine AW.cK (S:=Unit) (λ_=>[]) (λ_=>_) (λ_ G=>G=F) (λ_=>0) () sM oR Z ?_;intro _ F1 hF1 hG;subst hG;refine AW.block ?_;refine au ?_;refine AW.cond Z (λ_=>?_) (λhd=>(by simp at hd;omega));refine au ?_;refine WT.bW 0 Tryz.func254 Z Z Z Z Z Z Z (λ_=>rfl) h (λF2 v B2 hF2 hv=>?_);subst hv;refine au ?_;exact AW.ret ⟨_,[_],rfl,bU,_,rfl,rfl⟩
theorem we(F:ar){a:Option Addr}{n c:Nat}(hn:n<=12){B B':List (Nat×aD)}(h:xI 254 [.slice a n c,.int .i64 0,.int .i64 (n:Nat)] F B B') :
  xI 198 [.slice a n c] F B B':=by
 unfold xI;refine Abs.Spec.fn (n:=11) Tryz.func198 rfl rfl λown=>?_;refine au ?_;refine WT.conv hT (k2:=.u64) Z Z Z Z Z Z Z Z (jD zo) ?_
 refine WT.bN Tryz.func174 Z Z Z Z Z Z (rX _ n zo) (λv hv=>?_);subst hv;refine WT.bW 0 Tryz.func223 Z Z Z Z Z Z Z (λ_=>rfl) (xu F hn h _) (λF2 v B2 hF2 hv=>?_);subst hv;refine au ?_;exact⟨_,[_],rfl,bU,_,rfl,rfl⟩
def Qv:Go.Shelf.Ren:=⟨λ| 189=>198 | 125=>174 | 257=>223 | 128=>213 | 129=>214 | 294=>254 | 295=>255 | 296=>256 | 297=>257 | 298=>258 | 299=>259 | 216=>260 | 300=>261 | 301=>262 | 328=>276 | 329=>237 | 330=>238 | 331=>277 | 332=>278 | 215=>175 | 343=>283 | n=>n,λ| 28=>22 | 3=>3 | 46=>298 | 0=>0 | 51=>182 | 53=>354 | 4=>4 | 183=>348 | 182=>347 | 131=>253 | 5=>5 | 9=>9 | 218=>378 | 222=>382 | 228=>403 | 229=>404 | n=>n,λn=>n⟩
theorem Nx:Lays.n189 Tryz.prog Qv where
 mixed:=by kernel_rfl
 f125:=Tryz.func174.trans (congrArg some (by kernel_rfl))
 f128:=Tryz.func213.trans (congrArg some (by kernel_rfl))
 f129:=Tryz.func214.trans (congrArg some (by kernel_rfl))
 f189:=Tryz.func198.trans (congrArg some (by kernel_rfl))
 f215:=Tryz.func175.trans (congrArg some (by kernel_rfl))
 f216:=Tryz.func260.trans (congrArg some (by kernel_rfl))
 f257:=Tryz.func223.trans (congrArg some (by kernel_rfl))
 f294:=Tryz.func254.trans (congrArg some (by kernel_rfl))
 f295:=Tryz.func255.trans (congrArg some (by kernel_rfl))
 f296:=Tryz.func256.trans (congrArg some (by kernel_rfl))
 f297:=Tryz.func257.trans (congrArg some (by kernel_rfl))
 f298:=Tryz.func258.trans (congrArg some (by kernel_rfl))
 f299:=Tryz.func259.trans (congrArg some (by kernel_rfl))
 f300:=Tryz.func261.trans (congrArg some (by kernel_rfl))
 f301:=Tryz.func262.trans (congrArg some (by kernel_rfl))
 f328:=Tryz.func276.trans (congrArg some (by kernel_rfl))
 f329:=Tryz.func237.trans (congrArg some (by kernel_rfl))
 f330:=Tryz.func238.trans (congrArg some (by kernel_rfl))
 f331:=Tryz.func277.trans (congrArg some (by kernel_rfl))
 f332:=Tryz.func278.trans (congrArg some (by kernel_rfl))
 f343:=Tryz.func283.trans (congrArg some (by kernel_rfl))
 t0:=Tryz.underlying0
 a0:=Tryz.isAgg0
 z0:=Tryz.sizeOf0
 v0:=Tryz.zeroValue0
 t3:=Tryz.underlying3
 a3:=Tryz.isAgg3
 z3:=Tryz.sizeOf3
 v3:=Tryz.zeroValue3
 t4:=Tryz.underlying4
 a4:=Tryz.isAgg4
 z4:=Tryz.sizeOf4
 v4:=Tryz.zeroValue4
 t5:=Tryz.underlying5
 a5:=Tryz.isAgg5
 z5:=Tryz.sizeOf5
 v5:=Tryz.zeroValue5
 t9:=Tryz.underlying9
 a9:=Tryz.isAgg9
 z9:=Tryz.sizeOf9
 v9:=Tryz.zeroValue9
 t28:=Tryz.underlying22
 a28:=Tryz.isAgg22
 z28:=Tryz.sizeOf22
 v28:=Tryz.zeroValue22
 t46:=Tryz.underlying298
 a46:=Tryz.isAgg298
 z46:=Tryz.sizeOf298
 v46:=Tryz.zeroValue298
 t51:=Tryz.underlying182
 a51:=Tryz.isAgg182
 z51:=Tryz.sizeOf182
 v51:=Tryz.zeroValue182
 t53:=Tryz.underlying354
 a53:=Tryz.isAgg354
 z53:=Tryz.sizeOf354
 v53:=Tryz.zeroValue354
 t131:=Tryz.underlying253
 a131:=Tryz.isAgg253
 z131:=Tryz.sizeOf253
 v131:=Tryz.zeroValue253
 t182:=Tryz.underlying347
 a182:=Tryz.isAgg347
 z182:=Tryz.sizeOf347
 v182:=Tryz.zeroValue347
 t183:=Tryz.underlying348
 a183:=Tryz.isAgg348
 z183:=Tryz.sizeOf348
 v183:=Tryz.zeroValue348
 t218:=Tryz.underlying378
 a218:=Tryz.isAgg378
 z218:=Tryz.sizeOf378
 v218:=Tryz.zeroValue378
 t222:=Tryz.underlying382
 a222:=Tryz.isAgg382
 z222:=Tryz.sizeOf382
 v222:=Tryz.zeroValue382
 t228:=Tryz.underlying403
 a228:=Tryz.isAgg403
 z228:=Tryz.sizeOf403
 v228:=Tryz.zeroValue403
 t229:=Tryz.underlying404
 a229:=Tryz.isAgg404
 z229:=Tryz.sizeOf404
 v229:=Tryz.zeroValue404
def qL(xs:List Nat):List Nat:=xs.mergeSort λx y=>decide (x<=y)
theorem L9(xs:List Nat):cr (xs.map λx:Nat=>(x:Int))=(qL xs).map λx:Nat=>(x:Int):=by
 unfold cr qL;exact(List.map_mergeSort λa _ b _=>by simp).symm
theorem MN{F:ar}{xs:List Nat}{cs:List Value}(h:aF eS F cs xs):cs=xs.map ci:=by
 induction h with
 | nil=>rfl
 | cons h _ ih=>obtain rfl:_=_:=h;rw[ih];rfl
theorem n7{F:ar}:∀xs:List Nat,aF eS F (xs.map ci) xs
 | []=>.nil
 | x::xs=>.cons (l:=[ci x]) rfl (n7 xs)
theorem Ia(ok:CC.Ok Tryz.prog)(fok:bH CC Tryz.prog)(F:ar){a:Option Addr}{m c:Nat}{B:List (Nat×aD)}{xs:List Nat}(hb:dy eS F a m c B xs)(h0:xs=[]->a=none)(hm:xs.length<=1000000) :
  cm CC Tryz.prog 198 [.slice a m c] F [B] λF' v o=>∃B',o=[B']/\dy eS F' a m c B' (qL xs):=by
 have hl:=hb.len;rcases hb.at_ with ⟨rfl,rfl,rfl,rfl⟩ | ⟨i,cs,rfl,rfl,rfl,h1,h2⟩
 ·obtain rfl:m=0:=hl;refine cm.mono (cm.JU ok fok (we F (n:=0) (by decide) (GH F))) λF' v o _ h=>?_;obtain⟨B1,rfl,rfl⟩:=h;exact⟨[],rfl,by unfold qL;rw[List.mergeSort_nil];exact dy.gq _ _⟩
 ·have hne:xs≠[]:=λe=>by cases h0 e
  obtain rfl:=MN h1;have hx:(xs.map ci:List Value)=((xs.map λx:Nat=>(x:Int)).map (Value.int .i64))++[]:=by simp
  have hlen:(xs.map λx:Nat=>(x:Int)).length=m:=by rw[Rq,hl]
  have hp:0<xs.length:=List.length_pos_iff.2 hne;have:=cm.HO (C:=CC) Nx (f:=198) rfl F i (xs.map λx:Nat=>(x:Int)) [] zo zo;rw[hlen,<-hx] at this;refine cm.mono this λF' v o _ h=>?_;obtain⟨rfl,rfl⟩:=h;refine⟨_,rfl,?_,.inr ⟨i,_,rfl,rfl,rfl,?_,h2⟩⟩
  ·unfold qL;rw[List.length_mergeSort];exact hl
  ·rw[L9,R0,S3];exact n7 _
structure Hr(s:iu)(pos:Nat)(seen:List Nat)(a:Option Addr)(xs:List Nat):Prop where
 nd:xs.Nodup
 mem:∀z,z∈xs↔∃i∈seen,∃e,s.es[i]?=some e/\e.1=(pos,z)
 m5:xs.length<=seen.length
 sn:seen.Nodup
 sl:∀i∈seen,i<s.es.length
 no:xs=[]->a=none
theorem Hr.le{s:iu}{pos:Nat}{seen:List Nat}{a:Option Addr}{xs:List Nat}(h:Hr s pos seen a xs):xs.length<=s.es.length:=by
 have:=iD (m:=List.range s.es.length) h.sn λi hi=>Rm.2 (h.sl i hi);rw[S7] at this;exact AI h.m5 this
theorem Hr.skip{s:iu}{pos:Nat}{seen:List Nat}{a:Option Addr}{xs:List Nat}(h:Hr s pos seen a xs){i:Nat}{e:Nd×Nat×List Nd}(he:s.es[i]?=some e)(hi:i∉seen)(hne:e.1.1≠pos):Hr s pos (i::seen) a xs where
 nd:=h.nd
 mem:=λz=>by
  rw[h.mem];constructor
  ·rintro⟨j,h1,h2⟩;exact⟨j,I9 _ h1,h2⟩
  ·rintro⟨j,h1,e',h2,h3⟩;rcases Rt.1 h1 with rfl | h1
   ·rw[he] at h2;cases h2;exact absurd (congrArg Prod.fst h3) hne
   ·exact⟨j,h1,e',h2,h3⟩
 m5:=Nat.le_succ_of_le h.m5
 sn:=Sh.2 ⟨hi,h.sn⟩
 sl:=λj hj=>by
  rcases Rt.1 hj with rfl | hj
  ·exact(gS he).1
  ·exact h.sl j hj
 no:=h.no
theorem Hr.take{s:iu}{pos:Nat}{seen:List Nat}{a a':Option Addr}{xs:List Nat}(h:Hr s pos seen a xs)(hnd:(aQ s.abs).Nodup){i:Nat}{e:Nd×Nat×List Nd}(he:s.es[i]?=some e)(hi:i∉seen)(heq:e.1.1=pos):Hr s pos (i::seen) a' (xs++[e.1.2]) where
 nd:=by
  rw[SD];refine⟨h.nd,by simp,λx hx y hy hxy=>?_⟩;obtain rfl:=Rh.1 hy;subst hxy;obtain⟨j,h1,e',h2,h3⟩:=(h.mem _).1 hx;have hk:(aQ s.abs)[i]?=(aQ s.abs)[j]?:=by
   unfold aQ iu.abs;simp only[Re,he,h2,RU];congr 1;rw[h3];exact Prod.ext heq rfl
  have hlt:i<(aQ s.abs).length:=by
   unfold aQ iu.abs;simpa using (gS he).1
  exact hi (by rw[(List.getElem?_inj hlt hnd).1 hk];exact h1)
 mem:=λz=>by
  rw[Rx,Rh,h.mem];constructor
  ·rintro(⟨j,h1,h2⟩ | rfl)
   ·exact⟨j,I9 _ h1,h2⟩
   ·exact⟨i,Rl ..,e,he,Prod.ext heq rfl⟩
  ·rintro⟨j,h1,e',h2,h3⟩;rcases Rt.1 h1 with rfl | h1
   ·rw[he] at h2;cases h2;exact .inr (congrArg Prod.snd h3).symm
   ·exact .inl ⟨j,h1,e',h2,h3⟩
 m5:=by rw[Rf,RG];exact Nat.succ_le_succ h.m5
 sn:=Sh.2 ⟨hi,h.sn⟩
 sl:=λj hj=>by
  rcases Rt.1 hj with rfl | hj
  ·exact(gS he).1
  ·exact h.sl j hj
 no:=λe=>by simp at e
theorem Hr.PH{s:iu}{pos:Nat}{seen:List Nat}{a:Option Addr}{xs:List Nat}(h:Hr s pos seen a xs)(hall:∀i,i<s.es.length->i∈seen):nI s.abs pos (qL xs) where
 sorted:=by
  have h1:(qL xs).Pairwise (·<=·):=(List.pairwise_mergeSort (le:=λx y=>decide (x<=y)) (λa b c h1 h2=>by simp at h1 h2 ⊢;omega) (λa b=>by simp;omega) xs).imp λh=>by simpa using h
  have h2:(qL xs).Nodup:=(List.mergeSort_perm xs _).nodup_iff.2 h.nd;exact(h1.and h2).imp λh=>by omega
 mem:=λz=>by
  unfold qL;rw[(List.mergeSort_perm xs _).mem_iff,h.mem];unfold aQ iu.abs;rw[S3];constructor
  ·rintro⟨i,_,e,h1,h2⟩;exact Rg.2 ⟨e,gM h1,h2⟩
  ·intro hz;obtain⟨e,h1,h2⟩:=Rg.1 hz;obtain⟨i,hi,rfl⟩:=R2 h1;exact⟨i,hall i hi,_,gE hi,h2⟩
theorem sZ(ok:CC.Ok Tryz.prog)(fok:bH CC Tryz.prog)(F:ar){is:Nat}{ro:Bool}{x0 x1 x2 x3:Value}(s:iu)(hi:F is=some (.cells ro [x0,x1,x2,x3,.map (some s.oi)]))(hnd:(aQ s.abs).Nodup)(hfew:s.es.length<=1000000)(pos:Nat) :
  cm CC Tryz.prog 162 [.pointer (some ⟨is,0,none⟩),.int .i64 pos] F [s.B] λF' v o=>∃L a n c,o=[s.B]/\nI s.abs pos L/\v=.slice a n c/\bw eS F' a n c L:=by
 refine cm.fn (n:=28) ok Tryz.func162 rfl rfl λown=>?_;refine bf.du ok fok ?_;refine aj ?_;refine bf.du ok fok ?_;refine aj ?_;refine bf.seq (bf.rangeMap ok fok [_,_,_,_] Z Z Z Z Z Z Z Z Z Z Z Z Z Z Z ?_);refine dJ.rv ok fok ?_;refine aj ?_;refine⟨s.oi,aK j9 s.outer,λii seen k' F' az=>∃xs a m c B,bD [(11,.pointer (some ⟨ii,0,none⟩)),(0,.pointer (some ⟨is,0,none⟩)),(1,.int .i64 pos),(5,.slice a m c)] k'/\ah (B::s.B::own) az/\dy eS F' a m c B xs/\Hr s pos seen a xs,?_⟩
 refine⟨rfl,⟨_,_,dP hT rfl rfl⟩,λp hp=>?_,λii=>⟨[],none,0,0,[],sM,ah.flat (Rc _),dy.gq _ _,⟨Te,λz=>by simp,AS _,Te,λi hi=>(by cases hi),λ_=>rfl⟩⟩,λii seen k' F' az ⟨xs,a,m,c,B,h1,_⟩=>h1 11 _ rfl,λii seen k' F' az ⟨xs,a,m,c,B,_,h2,_⟩ h hs=>?_,λii seen k' F' az hF ⟨xs,a,m,c,B,h1,h2,h3,h4⟩ i p hp hns=>?_,λii seen k' F' az hF ⟨xs,a,m,c,B,h1,h2,h3,h4⟩ hall=>?_⟩
 ·obtain⟨y,hy,rfl⟩:=Rg.1 hp;rfl
 ·exact St.has (p:=1) (hs.le h2) rfl me
 ·obtain⟨e,he,rfl⟩:∃e,s.es[i]?=some e/\p=(j9.key e.1,.map (some e.2.1)):=by
   unfold aK iu.outer at hp;rw[Re,Re] at hp;cases hm:s.es[i]? with
   | none=>rw[hm] at hp;cases hp
   | some x=>rw[hm] at hp;cases hp;exact⟨x,rfl,rfl⟩
  have hlen:=h3.len;have hle:=h4.le;refine dJ.weaken (k2:=[(14,.tuple ⟨[.agg ⟨[.int .i64 e.1.1,.int .i64 e.1.2]⟩,.map (some e.2.1)]⟩),(0,.pointer (some ⟨is,0,none⟩)),(1,.int .i64 pos),(5,.slice a m c),(11,.pointer (some ⟨ii,0,none⟩))]) (bD.cons rfl (bD.cons (h1 0 _ rfl) (bD.cons (h1 1 _ rfl) (bD.cons (h1 5 _ rfl) (bD.cons (h1 11 _ rfl) (bD.nil _)))))) ?_;refine dJ.le h2 (dJ.rv ok fok ?_);refine aj ?_;refine WT.aI hT Z Z Z Z Z Z (λi6 hi6=>?_);refine aj ?_;refine bf.fY ok fok (AW.seq (AW.du ?_));refine aj ?_;refine AW.cond Z (λhc=>?_) (λhc=>?_)
  ·have hc:e.1.1=pos:=by simp at hc;omega
   refine aj ?_;refine WT.bd hT Z Z Z Z Z Z Z Z Z Z Z Z Z Z (λi23 hi23=>?_);refine WT.bP (R:=eS) (ys:=[e.1.2]) hT 2 h3 Z (λ_=>rfl) Z Z Z Z Z Z Z Z Z Z Z (λh0 s0=>bh hT s0 0 Z Z Z Z) (aF.single (R:=eS) (x:=e.1.2) rfl) Z (by decide) kq (λa3 c3 B3 hB3=>?_);refine aj ?_;exact⟨rfl,_,a3,m+1,c3,B3,sM,cy,hB3,h4.take hnd he hns hc⟩
  ·have hc:e.1.1≠pos:=by simp at hc;omega
   refine aj ?_;exact⟨rfl,xs,a,m,c,B,sM,cy,h3,h4.skip he hns hc⟩
 ·refine⟨[(0,.pointer (some ⟨is,0,none⟩)),(1,.int .i64 pos),(5,.slice a m c)],B::s.B::own,bD.cons (h1 0 _ rfl) (bD.cons (h1 1 _ rfl) (bD.cons (h1 5 _ rfl) (bD.nil _))),h2,?_⟩;have hlen:=h3.len;show bf CC Tryz.prog 28 _ _ F' _ _;refine bf.seq (bf.region (dJ.take ok fok 1 ?_));refine aj ?_;refine dJ.call ok rfl (λ_=>rfl) (Ia ok fok F' h3 h4.no (by have:=h4.le;omega)) (Rc _) (λF2 v o hF2 hv=>?_);obtain⟨B2,rfl,hb2⟩:=hv;refine dJ.nil ?_;refine bf.fY ok fok ?_;refine aj ?_;refine AW.aw 0 Z Z (λF3 hF3 hB3=>?_);have hfz:=hb2.frozen hF3 hB3
  exact AW.ret ⟨_,[s.B],⟨_,_,rfl,rfl,rfl⟩,bU,_,_,_,_,rfl,h4.PH (λi hi=>hall i (by unfold aK iu.outer;simpa using hi)),rfl,hfz⟩
structure QL where
 id:Nat
 l:List Nd
theorem Gl(ok:CC.Ok Tryz.prog)(fok:bH CC Tryz.prog)(F:ar){is:Nat}{ro:Bool}{x0 x1 x2 x3:Value}(s:iu)(hi:F is=some (.cells ro [x0,x1,x2,x3,.map (some s.oi)]))(hcl:∀x y,y∈bl s.abs x->y∈aQ s.abs)(n:Nd)(hn:n∈aQ s.abs)(deep:Nat)(hd:deep<=1000) :
  cm CC Tryz.prog 163 [.pointer (some ⟨is,0,none⟩),nd n,.int .i64 deep] F [s.B] λF' v o=>∃id l,o=[[(id,m9 l)],s.B]/\v=.map (some id)/\l.Nodup/\∀x,x∈l↔Cq s.abs deep n x:=by
 have hkey:∀d x,Cq s.abs d n x->x∈aQ s.abs:=λd=>by
  induction d with
  | zero=>intro x h;obtain rfl:x=n:=h;exact hn
  | succ d ih=>rintro x ⟨z,h1,h2⟩;exact hcl _ _ h2
 have hat:∀x∈aQ s.abs,∃j id l,s.At x j id l:=λx hx=>by
  rcases pL x s.es with ⟨h1,h2⟩ | ⟨a,b,id,l,h1,h2,h3⟩
  ·exfalso;refine h2 ?_;unfold aQ iu.abs at hx;simpa using hx
  ·exact⟨_,_,_,iu.IX h1 h2 h3⟩
 refine cm.fn (n:=34) ok Tryz.func163 rfl rfl λown=>?_;refine bf.du ok fok ?_;refine WT.cC Z Z Z Z Z Z (λi4 hi4=>?_);refine aj ?_;refine bf.du ok fok ?_;refine WT.makeMap Z Z Z Z (λi10 hi10=>?_);refine aj ?_;refine WT.C1 j9 (key:=n) (m:=[]) hT 0 0 Z Z Z Z Z Z Z Z Z Z Z Z ?_;rw[show dX ([]:cQ Nd) n (.bool true)=mr [n] from rfl];refine aj ?_;refine bf.seq (bf.du ok fok ?_);refine aj ?_
 refine bf.range ok fok (S:=QL) (λu=>[(7,.map (some u.id))]) (λu=>[(u.id,m9 u.l)]::[(i4,.cells false [.int .i64 n.1,.int .i64 n.2])]::s.B::own) (λj u G=>u.l.Nodup/\∀x,x∈u.l↔Cq s.abs j n x) deep ⟨i10,[n]⟩
  Z Z Z Z Z Z Z Z Z zo rfl rfl (λ_=>rfl) (λ_=>rfl) sM (ah.flat (Rc _)) ⟨by simp,λx=>Rh⟩ ?_ ?_
 ·intro j u F1 hF1 hj hI;obtain⟨hnd,hmem⟩:=hI;have hi1:=hF1 _ _ hi;refine bf.du ok fok ?_;refine WT.makeMap Z Z Z Z (λi16 hi16=>?_);refine aj ?_;refine bf.seq (bf.rangeMap ok fok [_] Z Z Z Z Z Z Z Z Z Z Z Z Z Z Z ?_);refine dJ.rv ok fok ?_;refine aj ?_
  refine⟨u.id,aK j9 (mr u.l),_,BF.of (S:=List Nd) (λ_=>[]) (λl=>[(i16,m9 l)]::s.B::[(u.id,m9 u.l)]::[(i4,.cells false [.int .i64 n.1,.int .i64 n.2])]::own) (λseen l F=>l.Nodup/\∀x,x∈l↔∃i∈seen,∃z,u.l[i]?=some z/\x∈bl s.abs z) [] rfl ⟨_,_,dP hT rfl rfl⟩ (λp hp=>?_) rfl rfl (λ_=>⟨rfl,rfl,rfl,rfl⟩) sM (ah.flat (TS (List.Perm.cons _ (bX (p:=2) rfl)))) ⟨Te,λx=>by simp⟩ (λseen l F hI h hs=>St.has (p:=2) hs rfl me) (λii seen l F2 hF2 hI i p hp hns=>?_) (λseen l F2 hF2 hI hall=>?_)⟩
  ·obtain⟨y,hy,rfl⟩:=Rg.1 hp;rfl
  ·obtain⟨hln,hlm⟩:=hI;obtain⟨z,hz,rfl⟩:∃z,u.l[i]?=some z/\p=(j9.key z,.bool true):=by
    unfold aK mr at hp;rw[Re,Re] at hp;cases hm:u.l[i]? with
    | none=>rw[hm] at hp;cases hp
    | some x=>rw[hm] at hp;cases hp;exact⟨x,rfl,rfl⟩
   obtain⟨jz,idz,lz,hA⟩:=hat z (hkey j z ((hmem z).1 (gM hz)));have hi2:=hF2 _ _ hi1;have hlk:(Abs.look s.outer z).getD (.map none)=.map (some idz):=by rw[hA.look];rfl
   refine dJ.weaken (k2:=(21,.tuple ⟨[.agg ⟨[.int .i64 z.1,.int .i64 z.2]⟩,.bool true]⟩)::_) (λ_ _ h=>h) (dJ.rv ok fok ?_);refine aj ?_;refine WT.aI hT Z Z Z Z Z Z (λi9 hi9=>?_);refine aj ?_;refine bf.IZ ok fok [_,_,_,_,_,_,_] Z Z Z ?_;refine aj ?_;refine WT.oP j9 (key:=z) (m:=s.outer) hT 2 Z Z Z Z Z Z Z me Z Z Z ?_;rw[hlk];refine aj ?_;refine dJ.call ok rfl (λ_=>rfl) (CV ok fok F2 hA.mem hln) ((bX (p:=1) rfl).trans ((bX (p:=1) rfl).cons _)) (λF3 v o hF3 hv=>?_);obtain⟨l2,rfl,hl2,hm2⟩:=hv;refine dJ.nil ?_
   refine⟨rfl,l2,sM,ah.cons _ (ah.cons _ (ah.skip [(i9,_)] oR)),hl2,λx=>?_⟩;rw[hm2,hlm,<-hA.below];constructor
   ·rintro(⟨i',h1,h2⟩ | h1)
    ·exact⟨i',I9 _ h1,h2⟩
    ·exact⟨i,Rl ..,z,hz,h1⟩
   ·rintro⟨i',h1,z',h2,h3⟩;rcases Rt.1 h1 with rfl | h1
    ·rw[hz] at h2;cases h2;exact .inr h3
    ·exact .inl ⟨i',h1,z',h2,h3⟩
  ·obtain⟨hln,hlm⟩:=hI;refine bf.fY ok fok (AW.du ?_);refine aj ?_;refine⟨⟨i16,l⟩,sM,ah.cons _ ((ah.skip [(u.id,m9 u.l)] oR).trans (ah.perm (S0 (l₁:=[_,_])).symm)),hln,λx=>?_⟩;rw[hlm];constructor
   ·rintro⟨i,_,z,h1,h2⟩;exact⟨z,(hmem z).1 (gM h1),h2⟩
   ·rintro⟨z,h1,h2⟩;obtain⟨i,hi,rfl⟩:=R2 ((hmem z).2 h1);exact⟨i,hall i (by unfold aK mr;simpa using hi),_,gE hi,h2⟩
 ·intro u F1 hF1 hI;obtain⟨hnd,hmem⟩:=hI;refine bf.fY ok fok ?_;refine aj ?_;refine AW.le (ah.cons _ (ah.skip _ oR)) ?_;exact AW.ret ⟨_,[[(u.id,m9 u.l)],s.B],⟨_,_,rfl,rfl,rfl⟩,RM _,u.id,u.l,rfl,rfl,hnd,hmem⟩
def Min(g:af)(w:List Nat)(s:Sym)(T:Tree)(i j:Nat):Prop:=bj g w s T i j/\∀T',bj g w s T' i j->T.pre.length<=T'.pre.length
inductive M3(g:af)(w:List Nat):List Sym->List Tree->Nat->Nat->Prop
 | nil {i:Nat}:M3 g w [] [] i i
 | cons {s:Sym} {l:List Sym} {t:Tree} {ts:List Tree} {i m j:Nat}:Min g w s t i m->M3 g w l ts m j->M3 g w (s::l) (t::ts) i j
section
variable {g:af}{w:List Nat}
theorem M3.of:∀{ts:List Tree} {l:List Sym} {i j:Nat},M3 g w l ts i j->aG g w l ts i j
 | _,_,_,_,.nil=>.nil
 | _,_,_,_,.cons h1 h2=>.cons h1.1 (M3.of h2)
end
mutual
theorem bj.ends{g:af}{w:List Nat}:∀{t:Tree} {s s':Sym} {i j j':Nat},bj g w s t i j->bj g w s' t i j'->j=j'
 | .mk _ _ _,_,_,_,_,_,.leaf _,h=>by
  generalize hr:(-1:Int)=r at h;cases h with
  | leaf _=>rfl
  | node _ _=>omega
 | .mk _ _ ks,_,_,_,_,_,.node (k:=k) h h2,h'=>by
  generalize hr:(k:Int)=r at h';cases h' with
  | leaf _=>omega
  | node _ h3=>exact aG.ends h2 h3
theorem aG.ends{g:af}{w:List Nat}:∀{ts:List Tree} {l l':List Sym} {i j j':Nat},aG g w l ts i j->aG g w l' ts i j'->j=j'
 | [],_,_,_,_,_,.nil,h=>by cases h;rfl
 | t::ts,_,_,_,_,_,.cons h1 h2,h=>by
  cases h with
  | cons h3 h4=>
   obtain rfl:=bj.ends h1 h3;exact aG.ends h2 h4
end
mutual
theorem bj.Au{g:af}{w:List Nat}:∀{t:Tree} {s:Sym} {i j:Nat},bj g w s t i j->iB g w s i j
 | .mk _ _ _,_,_,_,.leaf h=>.term h
 | .mk _ _ ks,_,_,_,.node h h2=>.ym (gM h) (aG.Au h2)
theorem aG.Au{g:af}{w:List Nat}:∀{ts:List Tree} {l:List Sym} {i j:Nat},aG g w l ts i j->gH g w l i j
 | [],_,_,_,.nil=>.nil
 | t::ts,_,_,_,.cons h1 h2=>.cons (bj.Au h1) (aG.Au h2)
end
section
variable {g:af}{w:List Nat}
end
theorem zA(F:ar)(g:af)(hg:Valid g){a:Option Addr}{m c:Nat}(hr:bw bK F a m c g.rules) :
  Abs.Spec CC 106 [.agg ⟨ai g a m c⟩] F [] λF' v o=>∃B',o=[B']/\∃O a' c',v=.tuple ⟨[.slice a' g.ak c',.int .i64 0]⟩/\dC fm F' a' g.ak c' B' O/\kL g.ak O/\fy g O/\∀r∈g.rules,gN O r:=by
 unfold ai;refine Abs.Spec.fn (n:=12) Tryz.func106 rfl rfl λown=>?_;refine AW.seq (AW.du ?_);refine WT.cC Z Z Z Z Z Z (λi1 hi1=>?_);refine au ?_;refine WT.bN Tryz.func85 Z Z Z Z Z Z (j5 _ g hg.range hr) (λv hv=>?_);rw[hg.u0] at hv;subst hv;refine au ?_;refine AW.cond Z (λh=>(by cases h)) (λ_=>?_);refine au ?_;refine WT.lC Tryz.func165 Z Z Z Z Z Z (y7 _ g hg hr) (λF2 v B2 hF2 hv=>?_);obtain⟨O,a',c',rfl,hv⟩:=hv;refine au ?_;refine AW.perm (BB _ _ _) ?_;exact AW.ret ⟨_,[_],⟨_,_,rfl,⟨_,_,rfl,rfl,rfl⟩,rfl⟩,bU,_,rfl,O,_,_,rfl,hv⟩
structure Qm where
 xs:List Bool
 a:Option Addr
 m:Nat
 c:Nat
 B:List (Nat×aD)
theorem DY(F:ar)(g:af)(hg:Valid g){a:Option Addr}{m c:Nat}(hr:bw bK F a m c g.rules) :
  Abs.Spec CC 51 [.agg ⟨ai g a m c⟩] F [] λF' v o=>o=[]/\∃a' c' E,v=.tuple ⟨[.slice a' g.ak c',.int .i64 0]⟩/\bw cd F' a' g.ak c' E/\pT g E:=by
 unfold ai;have hgn:=hg.range.ak;refine Abs.Spec.fn (n:=30) Tryz.func51 rfl rfl λown=>?_;refine AW.seq (AW.du ?_);refine WT.cC Z Z Z Z Z Z (λi1 hi1=>?_);refine au ?_;refine WT.lC Tryz.func106 Z Z Z Z Z Z (zA _ g hg hr) (λF2 v B2 hF2 hv=>?_);obtain⟨O,a',c',rfl,hv,hO,hS,hC⟩:=hv;refine WT.aw 0 Z Z (λF3 hF3 hB3=>?_);have ho:=hv.arr hF3 hB3;have hOl:=hO.len;refine au ?_;refine AW.cond Z (λh=>(by cases h)) (λ_=>?_);refine au ?_
 refine AW.range (S:=Qm) (λs=>[(6,.slice s.a s.m s.c)]) (λs=>s.B::[]::[(i1,.cells false [.int .i64 g.ae,.int .i64 g.ak,.int .i64 g.start,.slice a m c])]::own) (λj s G=>dy cd G s.a s.m s.c s.B s.xs/\s.xs=(O.take j).map λx=>decide (0<=x)) g.ak ⟨[],none,0,0,[]⟩
  Z Z Z Z Z Z Z Z Z zo rfl rfl (λ_=>rfl) (λ_=>rfl) sM (ah.flat (Rc _)) ⟨dy.gq _ _,by simp⟩ ?_ ?_
 ·intro j s F4 hF4 hj hP;obtain⟨hb,hxs⟩:=hP;have hbl:=hb.len;have hsl:s.xs.length<=j:=by rw[hxs];simp;omega
  have ho4:=ho.mono hF4;refine au ?_;refine WT.bG hT ho4 Z Z Z Z Z Z Z Z Z zo (λx hx b3 off3 ro3 cs3 lx3 hb3 hp3 hrel3=>?_);obtain rfl:lx3=_:=hrel3;refine au ?_;refine WT.bd hT Z Z Z Z Z Z Z Z Z Z Z Z Z Z (λi9 hi9=>?_);refine WT.bP (ys:=[decide (x≥0)]) hT 1 hb Z (λ_=>rfl) Z Z Z Z Z Z Z Z Z Z Z (λh0 s0=>bh hT s0 0 Z Z Z Z) (aF.single (R:=cd) (x:=decide (x≥0)) rfl) Z (by decide) kq (λa3 c3 B3 hB3=>?_);refine au ?_;refine⟨⟨s.xs++[decide (x≥0)],a3,s.m+1,c3,B3⟩,sM,cy,hB3,?_⟩;show s.xs++[decide (x≥0)]=_;rw[Rk,hx,RV,hxs];rfl
 ·intro s F4 hF4 hP;obtain⟨hb,hxs⟩:=hP;rw[No zo] at hxs;have hbl:=hb.len;have hsm:s.m=g.ak:=by rw[hbl,hxs,Rq,hOl]
  refine AW.aw 0 Z Z (λF5 hF5 hB5=>?_);have hE:=hb.frozen hF5 hB5;refine au ?_;refine AW.ret ⟨_,[],⟨_,_,rfl,⟨_,_,rfl,rfl,rfl⟩,rfl⟩,bU,rfl,s.a,s.c,s.xs,by rw[hsm];rfl,by rw[<-hsm];exact hE,?_⟩;rw[hxs];exact E7 hO hS hC
theorem CN{α:Type}{p:α->Bool}:∀{l:List α},(idxOf p l=-1/\∀y∈l,p y=false)\/∃i x,idxOf p l=(i:Nat)/\l[i]?=some x/\p x=true/\∀y∈l.take i,p y=false:=by
 intro l;by_cases h:∃i x,l[i]?=some x/\p x=true/\∀y∈l.take i,p y=false
 ·obtain⟨i,x,h1,h2,h3⟩:=h;exact .inr ⟨i,x,qD h1 h2 h3,h1,h2,h3⟩
 ·refine .inl ?_;have all:∀n,n<=l.length->∀y∈l.take n,p y=false:=by
   intro n
   induction n with
   | zero=>intro _ y hy;simp at hy
   | succ n ih=>
    intro hn;have ih:=ih zo;obtain⟨x,hx⟩:∃x,l[n]?=some x:=⟨_,gE zo⟩;refine jh hx ih ?_;cases hp:p x with
    | false=>rfl
    | true=>exact absurd ⟨n,x,hx,hp,ih⟩ h
  have h2:=all l.length (AS _);rw[S1] at h2;exact⟨mq h2,h2⟩
structure DS where
 i:Nat
 j:Nat
 ys:List bz
 B:List (Nat×aD)
theorem uh(F:ar){a:Option Addr}{m c:Nat}{B:List (Nat×aD)}{xs:List bz}(hv:dy bK F a m c B xs)(hm:m<=1000000)(p:bz->Bool){g:Nat}{fn:Func}{first capt:List Value}(hg:CC.func g=some fn)(hgb:fn.body.isSome=true)
  (hp:∀G,ar.le F G->∀x∈xs,∀b n d,bw fh G b n d x.right->Abs.Spec CC g (first++[.agg ⟨[.int .i64 x.left,.slice b n d]⟩]++capt) G [] λ_ v o=>o=[]/\v=.bool (p x)) :
  Abs.Spec CC 53 [.slice a m c,.func (.func g) ⟨first⟩ ⟨capt⟩] F [B] λF' v o=>o=[]/\∃a' n' c',v=.slice a' n' c'/\bw bK F' a' n' c' (xs.filter λx=>!p x):=by
 have hlen:=hv.len;refine Abs.Spec.fn (n:=42) Tryz.func53 rfl rfl λown=>?_;refine au ?_;refine WT.eK 0 Tryz.func108 Z Z Z Z Z Z Z (λG hG hBG=>nE G (hv.frozen hG hBG) hm p hg hgb (λx hx b n d hr=>hp G hG x hx b n d hr)) (λv hv'=>?_);subst hv';rcases CN (p:=p) (l:=xs) with ⟨h1,h2⟩ | ⟨i,x,h1,hx,hpx,h2⟩
 ·rw[h1];refine au ?_;refine AW.cond Z (λ_=>?_) (λh=>(by cases h));refine AW.aw 0 Z Z (λF1 hF1 hB1=>?_);refine au ?_;refine AW.ret ⟨_,[],⟨_,_,rfl,rfl,rfl⟩,bU,rfl,a,m,c,rfl,?_⟩;rw[List.filter_eq_self.2 (λy hy=>by rw[h2 y hy];rfl)];exact hv.frozen hF1 hB1
 ·rw[h1];have hi:=(gS hx).1;obtain⟨ib,cs0,rfl,rfl,rfl,hcs0⟩:∃ib cs0,a=some ⟨ib,0,none⟩/\c=2/\B=[(ib,.cells false cs0)]/\aF bK F cs0 xs:=by
   rcases hv.at_ with ⟨e,_⟩ | ⟨ib,cs0,e1,e2,e3,e4,_⟩
   ·subst e;simp at hi
   ·exact⟨ib,cs0,e1,e2,e3,e4⟩
  have hvv:=hv.vec;refine au ?_;refine AW.cond Z (λh=>(by simp at h)) (λ_=>?_);refine au ?_;refine AW.block ?_;refine AW.cK (S:=DS) (λs=>[(5,.int .i64 s.i),(6,.int .i64 s.j)]) (λs=>s.B::own)
   (λs G=>dC bK G (some ⟨ib,0,none⟩) m 2 s.B s.ys/\s.i<s.j/\s.j<=m/\s.ys.take s.i=(xs.take s.j).filter (λx=>!p x)/\s.ys.drop s.j=xs.drop s.j) (λs=>m-s.j) ⟨i,i+1,xs,_⟩
   sM oR ⟨hvv,SK _,by dsimp only;omega,?_,rfl⟩ ?_
  ·rw[Rk,hx,List.filter_append,List.filter_eq_self.2 (λy hy=>by rw[h2 y hy];rfl)];simp[hpx]
  intro s F1 hF1 hP;obtain⟨hv1,hij,hjm,htake,hdrop⟩:=hP;have hv1l:=hv1.len;refine au ?_;refine AW.cond Z (λh=>?_) (λh=>?_)
  ·have h:s.j<m:=by simpa using h
   obtain⟨y,hy⟩:∃y,xs[s.j]?=some y:=⟨_,gE zo⟩;have hy1:s.ys[s.j]?=some y:=by
    have e1:(s.ys.drop s.j)[0]?=s.ys[s.j]?:=by simp
    have e2:(xs.drop s.j)[0]?=xs[s.j]?:=by simp
    rw[<-e1,hdrop,e2,hy]
   obtain⟨z,hz⟩:∃z,s.ys[s.i]?=some z:=⟨_,gE zo⟩;have hil:s.i<s.ys.length:=by omega
   refine au ?_;refine AW.block ?_;refine au ?_;refine WT.be hT hv1 Z Z Z Z Z Z Z Z Z h (λb5 hb5=>?_);refine WT.cz hT 0 hv1 hb5 hy1 Z Z Z Z Z Z Z Z Z (λl hl=>?_);obtain⟨ya,yn,yc,rfl,hya⟩:=hl;refine WT.aI hT Z Z Z Z Z Z (λi7 hi7=>?_);refine au ?_;refine WT.fZ hg hgb Z Z Z Z Z Z Z (hp _ hF1 y (gM hy) _ _ _ hya) (λv hv'=>?_);subst hv';refine au ?_;have hdr:s.ys.drop (s.j+1)=xs.drop (s.j+1):=by
    have:=congrArg (List.drop 1) hdrop;rw[Td,Td] at this;exact this
   refine AW.cond Z (λh3=>?_) (λh3=>?_)
   ·have h3:p y=false:=by simpa using h3
    refine au ?_;refine WT.be hT hv1 Z Z Z Z Z Z Z Z Z zo (λb6 hb6=>?_);refine WT.oY (y:=y) hT 1 hv1 hb6 hz Z Z Z Z Z ⟨_,_,_,rfl,hya⟩ Z (λ_=>rfl) Z (λB6 hB6=>?_);refine au ?_;refine⟨⟨s.i+1,s.j+1,s.ys.set s.i y,B6⟩,by dsimp only;omega,sM,cy,hB6,by dsimp only;omega,by dsimp only;omega,?_,?_⟩
    ·show (s.ys.set s.i y).take (s.i+1)=(xs.take (s.j+1)).filter _;rw[Rk,RA hil,List.take_set_of_le (AS _),htake,Rk,hy,List.filter_append];simp[h3]
    ·show (s.ys.set s.i y).drop (s.j+1)=xs.drop (s.j+1);rw[List.drop_set_of_lt zo,hdr]
   ·have h3:p y=true:=by simpa using h3
    refine au ?_;refine⟨⟨s.i,s.j+1,s.ys,s.B⟩,by dsimp only;omega,sM,cy,hv1,by dsimp only;omega,by dsimp only;omega,?_,hdr⟩;show s.ys.take s.i=(xs.take (s.j+1)).filter _;rw[htake,Rk,hy,List.filter_append];simp[h3]
  ·have h:s.j=m:=by simp at h;omega
   rw[h,show xs.take m=xs from No zo] at htake;refine AW.exit ?_;refine au ?_;refine WT.slice Z Z Z Z Z Z Z Z (λh0=>jj (lo:=s.i) (hi:=m) hT Z Z Z Z Z zo (AS _) (.inr rfl) h0) ?_;refine WT.Ie (x0:=(⟨0,[]⟩:bz)) (i:=s.i) (l:=m-s.i) hT 0 hv1 Z Z Z Z Z Z Z Z ⟨none,0,0,rfl,bw.gq _ _⟩ zo zo Z (λ_=>rfl) (λB6 hB6=>?_);refine WT.aw 0 Z Z (λF6 hF6 hB6'=>?_);have harr:=hB6.arr hF6 hB6';obtain⟨sa,sc,hs,hsl⟩:=harr.slice (C:=CC) (lo:=0) (hi:=s.i) (RC _) zo hT (t:=23) Z Z Z none (some (.int .i64 (s.i:Nat))) rfl rfl;refine au ?_
   refine WT.slice Z Z Z Z Z Z Z Z hs ?_;refine au ?_;refine AW.ret ⟨_,[],⟨_,_,rfl,rfl,rfl⟩,bU,rfl,sa,_,sc,rfl,?_⟩;have e:(List.take s.i (List.take s.i s.ys++List.replicate (m-s.i) ⟨0,[]⟩)).drop 0=xs.filter λx=>!p x:=by
    rw[S6,T1 (by rw[RK];omega),htake]
   rw[e] at hsl;exact hsl
theorem J6(x y:Item):((((x.aA:Int)==(y.aA:Int))&&(((x.dot:Int)==(y.dot:Int))&&(((x.gU:Int)==(y.gU:Int))&&true)))=decide (x=y)):=by
 obtain⟨a,b,c⟩:=x;obtain⟨d,e,f⟩:=y;rw[SH];simp only[IN,Sb,RS,Item.mk.injEq,Ui];omega
noncomputable def Mk:om CC 208 Item where
 key:=λx=>.agg ⟨[.int .i64 x.aA,.int .i64 x.dot,.int .i64 x.gU]⟩
 ok:=λp=>uD hT 8 _ _ rfl
 eq:=λp q=>by
  have h:tK CC 8 208 (.agg ⟨[.int .i64 p.aA,.int .i64 p.dot,.int .i64 p.gU]⟩) (.agg ⟨[.int .i64 q.aA,.int .i64 q.dot,.int .i64 q.gU]⟩)=some (decide (p=q)):=by
   rw[<-J6];exact vC hT 8 _ _ _ _ rfl
  by_cases e:p=q
  ·exact .inl ⟨e,by rw[h];simp[e]⟩
  ·exact .inr ⟨e,by rw[h];simp[e]⟩
structure uq where
 ic:Nat
 ra:Option Addr
 rm:Nat
 rc:Nat
structure oS where
 k:Nat
 cw:List (List Item)
 last:List Item
 sa:Option Addr
 sc:Nat
 BS:List (Nat×aD)
 vs:List Value
 la:Option Addr
 lc:Nat
 BL:List (Nat×aD)
 us:List Value
 im:Nat
 es:cQ Item
 xa:Option Addr
 xn:Nat
 xc:Nat
 BX:List (Nat×aD)
structure yU(g:af)(Q:Nat->Item->Prop):Prop where
 ok:∀k x,Q k x->kR g.rules k x
 yP:∀k x n i r,Q k x->bg g.rules x=some ⟨false,n⟩->g.rules[i]?=some r->r.left=n->Q k ⟨i,0,k⟩
 complete:∀k x y r,Q k x->g.rules[x.aA]?=some r->x.dot=r.right.length->Q x.gU y->bg g.rules y=some ⟨false,r.left⟩->Q k (cF y)
def uI(g:af)(q:uq)(s:oS):List Value:=[.int .i64 g.ae,.int .i64 g.ak,.int .i64 g.start,.slice q.ra q.rm q.rc,.slice s.sa (s.k+1) s.sc,.slice s.la (s.k+1) s.lc]
noncomputable def cB(g:af)(q:uq)(s:oS):List (Nat×aD):=(q.ic,.cells false (uI g q s))::(s.BS++(s.BL++((s.im,.map (aK Mk s.es))::s.BX)))
structure pE(g:af)(Q:Nat->Item->Prop)(q:uq)(F:ar)(s:oS):Prop where
 rules:bw bK F q.ra q.rm q.rc g.rules
 jo:dy iC F s.sa (s.k+1) s.sc s.BS (s.vs++[.map (some s.im)])
 list:dy iC F s.la (s.k+1) s.lc s.BL (s.us++[.slice s.xa s.xn s.xc])
 Nr:s.us.length=s.k
 CD:s.cw.length=s.k
 xl:∀(j:Nat) (l:List Item),s.cw[j]?=some l->∃a n c,s.us[j]?=some (.slice a n c)/\bw kA F a n c l
 map:∀y,Abs.look s.es y=if y∈s.last then some (.bool true) else none
 last:dy kA F s.xa s.xn s.xc s.BX s.last
 nodup:s.last.Nodup
 K3:∀(j:Nat) (l:List Item),s.cw[j]?=some l->∀x∈l,Q j x
 wL:∀x∈s.last,Q s.k x
 small:s.k<=20
 xh:∀(j:Nat) (l:List Item),s.cw[j]?=some l->l.length<=3360
 H7:∀(j:Nat) (l:List Item),s.cw[j]?=some l->l.Nodup
theorem pE.mono{g:af}{Q:Nat->Item->Prop}{q:uq}{F G:ar}{s:oS}(h:pE g Q q F s)(hF:ar.le F G):pE g Q q G s:=
 ⟨h.rules.mono hF,h.jo.mono hF,h.list.mono hF,h.Nr,h.CD,λj l hj=>by obtain⟨a,n,c,h1,h2⟩:=h.xl j l hj;exact⟨a,n,c,h1,h2.mono hF⟩,h.map,h.last.mono hF,h.nodup,h.K3,h.wL,h.small,h.xh,h.H7⟩
theorem Fb{g:af}(hr:∀r∈g.rules,r.right.length<=4){k:Nat}{x:Item}(h:kR g.rules k x):(x.aA*5+x.dot)*(k+1)+x.gU<g.rules.length*5*(k+1):=by
 obtain⟨r,h1,h2,h3⟩:=h;have hlt:=(gS h1).1;have h4:=hr r (gM h1);have h5:(x.aA*5+x.dot+1)*(k+1)<=g.rules.length*5*(k+1):=Rb _ zo;rw[R3,SW] at h5;omega
theorem Gq{g:af}(hr:∀r∈g.rules,r.right.length<=4){k:Nat}{l:List Item}(hn:l.Nodup)(h:∀x∈l,kR g.rules k x):l.length<=g.rules.length*5*(k+1):=by
 have h1:=uS (g.rules.length*5*(k+1)) (l.map λx=>(x.aA*5+x.dot)*(k+1)+x.gU) (List.Pairwise.map _ (λx y=>?_) (List.Pairwise.and_mem.1 hn)) (λc hc=>?_)
 ·rwa [Rq] at h1
 ·rintro⟨hx,hy,hxy⟩ e;apply hxy;obtain⟨r,a1,a2,a3⟩:=h x hx;obtain⟨r',b1,b2,b3⟩:=h y hy;have c1:=hr r (gM a1);have c2:=hr r' (gM b1);have d1:x.gU=y.gU:=by
   have m1:=congrArg (· % (k+1)) e;simp only[SU _ (k+1),Nat.mul_add_mod] at m1;rw[TF zo,TF zo] at m1;exact m1
  have d2:x.aA*5+x.dot=y.aA*5+y.dot:=by
   rw[d1] at e;exact Nat.eq_of_mul_eq_mul_right (Nat.succ_pos k) (Nat.add_right_cancel e)
  cases x;cases y;simp only at d1 d2 a2 b2 c1 c2;simp only[Item.mk.injEq];omega
 ·obtain⟨x,hx,rfl⟩:=Rg.1 hc;exact Fb hr (h x hx)
theorem pE.m5{g:af}(hg:∀r∈g.rules,r.right.length<=4)(hgl:g.rules.length<=32){Q:Nat->Item->Prop}(hQ:yU g Q){q:uq}{F:ar}{s:oS}(h:pE g Q q F s):s.last.length<=g.rules.length*5*(s.k+1)/\g.rules.length*5*(s.k+1)<=3360:=by
 refine⟨Gq hg h.nodup (λx hx=>hQ.ok _ _ (h.wL x hx)),?_⟩;have h1:g.rules.length*5*(s.k+1)<=160*21:=RN zo (by have:=h.small;omega);omega
theorem mG(G:ar)(g:af)(hg:∀r∈g.rules,r.right.length<=4){q:uq}{s:oS}(hb:G q.ic=some (.cells false (uI g q s)))(hr:bw bK G q.ra q.rm q.rc g.rules){k:Nat}{x:Item}(hx:kR g.rules k x) :
  Abs.Spec CC 114 [.pointer (some ⟨q.ic,0,none⟩),.agg ⟨[.int .i64 x.aA,.int .i64 x.dot,.int .i64 x.gU]⟩] G [] λ_ v o=>o=[]/\
   ((bg g.rules x=none/\(∃r,g.rules[x.aA]?=some r/\x.dot=r.right.length)/\v=.tuple ⟨[.agg ⟨[.bool false,.int .i64 0]⟩,.bool false]⟩)\/∃y,bg g.rules x=some y/\v=.tuple ⟨[.agg ⟨[.bool y.term,.int .i64 y.n]⟩,.bool true]⟩):=by
 obtain⟨r,hrr,hd,hf⟩:=hx;have hlt:=(gS hrr).1;have hrl:=hr.len;have hr4:=hg r (gM hrr);unfold uI at hb;refine Abs.Spec.fn (n:=28) Tryz.func114 rfl rfl λown=>?_;refine AW.seq (AW.du ?_);refine WT.cC Z Z Z Z Z Z (λi3 hi3=>?_);refine WT.aI hT Z Z Z Z Z Z (λi4 hi4=>?_);refine au ?_;refine WT.bG hT hr Z Z Z Z Z Z Z Z Z zo (λr' hr' b off ro cs lx hb1 hp1 hrel=>?_);obtain rfl:r=r':=by rw[hrr] at hr';exact AT hr'
 obtain⟨ra,rn,rc,rfl,hra⟩:=hrel;have hral:=hra.len;refine au ?_;by_cases hdl:x.dot=rn
 ·refine AW.cond Z (λ_=>?_) (λh=>(by simp[hdl] at h));refine au ?_;exact AW.ret ⟨_,[],⟨_,_,⟨_,rfl,λG h0 s0=>bV (s0.has (p:=0) rfl me) (cl hT rfl)⟩,⟨_,_,rfl,rfl,rfl⟩,rfl⟩,bU,rfl,.inl ⟨by unfold bg;rw[hrr];show r.right[x.dot]?=none;rw[S8];omega,⟨r,hrr,by omega⟩,rfl⟩⟩
 ·refine AW.cond Z (λh=>absurd (by simp at h;omega) hdl) (λh=>?_);refine au ?_;refine WT.bG hT hra Z Z Z Z Z Z Z Z Z zo (λy hy b3 off3 ro3 cs3 lx3 hb3 hp3 hrel3=>?_);obtain rfl:lx3=_:=hrel3;refine au ?_;exact AW.ret ⟨_,[],⟨_,_,⟨_,rfl,λG h0 s0=>bV (s0.has (p:=0) rfl me) (cl hT rfl)⟩,⟨_,_,rfl,rfl,rfl⟩,rfl⟩,bU,rfl,.inr ⟨y,by unfold bg;rw[hrr];exact hy,rfl⟩⟩
theorem Ea(x y:Nat×aD)(BS BL:List (Nat×aD))(own:a6):ah ((y::(BS++(BL++[x])))::own) ([x]::[y]::BS::BL::own):=by
 refine ah.flat ?_;have:=S0 (a:=x) (l₁:=y::(BS++BL)) (l₂:=own.flatten);simpa using this.symm
theorem Gt(F:ar){ic n sc lc:Nat}{x0 x1 x2 x3:Value}{sa la:Option Addr}{BS BL:List (Nat×aD)}{vs us:List Value}(hs:dy iC F sa n sc BS vs)(hl:dy iC F la n lc BL us)(hn:n<=1000)
  (ho:Go.Abs.one x0=true/\Go.Abs.one x1=true/\Go.Abs.one x2=true/\Go.Abs.one x3=true) :
  Abs.Spec CC 110 [.pointer (some ⟨ic,0,none⟩)] F [(ic,.cells false [x0,x1,x2,x3,.slice sa n sc,.slice la n lc])::(BS++BL)] λF' v o=>
   ∃B',o=[B']/\∃sa' sc' la' lc' BS' BL' im,dy iC F' sa' (n+1) sc' BS' (vs++[.map (some im)])/\dy iC F' la' (n+1) lc' BL' (us++[.slice none 0 0])/\
    B'=(ic,.cells false [x0,x1,x2,x3,.slice sa' (n+1) sc',.slice la' (n+1) lc'])::(BS'++(BL'++[(im,.map [])])):=by
 have hsl:=hs.len;have hll:=hl.len;refine Abs.Spec.fn (n:=21) Tryz.func110 rfl rfl λown=>?_;refine AW.le (own2:=[(ic,.cells false [x0,x1,x2,x3,.slice sa n sc,.slice la n lc])]::BS::BL::own) (ah.flat (Ss (by simp))) ?_;refine AW.draw (ps:=[(5,6),(5,7),(5,13),(12,6),(12,7),(12,8),(12,13)]) Z Z ?_;refine au ?_;refine WT.makeMap Z Z Z Z (λim him=>?_);refine WT.bd hT Z Z Z Z Z Z Z Z Z Z Z Z Z Z (λi9 hi9=>?_)
 refine WT.bP (ys:=[.map (some im)]) hT 3 hs Z (λ_=>rfl) Z Z Z Z Z Z Z Z Z Z Z (λh0 s0=>bh hT s0 0 Z Z Z Z) (aF.single (R:=iC) (x:=.map (some im)) ⟨rfl,rfl⟩) Z (by decide) kq (λsa' sc' BS' hBS'=>?_);refine dA ?_;refine WT.bd hT Z Z Z Z Z Z Z Z Z Z Z Z Z Z (λi15 hi15=>?_);refine WT.bP (ys:=[.slice none 0 0]) hT 5 hl Z (λ_=>rfl) Z Z Z Z Z Z Z Z Z Z Z (λh0 s0=>bh hT s0 0 Z Z Z Z) (aF.single (R:=iC) (x:=.slice none 0 0) ⟨rfl,rfl⟩) Z (by decide) kq (λla' lc' BL' hBL'=>?_)
 refine WT.le (own2:=((ic,.cells false [x0,x1,x2,x3,.slice sa n sc,.slice la n lc])::(BS'++(BL'++[(im,.map [])])))::own) (ah.skip _ (ah.skip _ (Ea _ _ _ _ _))) ?_;refine dA ?_;refine⟨oF,?_⟩;exact⟨_,[_],rfl,bU,_,rfl,sa',sc',la',lc',BS',BL',im,hBS',hBL',rfl⟩
theorem FR(a:Nat×aD)(b:Nat×aD)(BS BL BX:List (Nat×aD))(own:a6):ah ([a]::BS::BL::[b]::BX::own) ((a::(BS++(BL++(b::BX))))::own):=
 ah.flat (Ss (by simp))
theorem wg(a:Nat×aD)(b:Nat×aD)(BS BL BX:List (Nat×aD))(own:a6):ah ((a::(BS++(BL++(b::BX))))::own) ([a]::BS::BL::[b]::BX::own):=
 ah.flat (Ss (by simp))
structure cT(s s':oS)(P:Item->Prop):Prop where
 k:s'.k=s.k
 cw:s'.cw=s.cw
 last:∃new,s'.last=s.last++new/\∀y∈new,P y
theorem cT.refl(s:oS)(P:Item->Prop):cT s s P:=⟨rfl,rfl,[],by simp,λ_ h=>by cases h⟩
theorem cT.trans{s t u:oS}{P:Item->Prop}(h1:cT s t P)(h2:cT t u P):cT s u P:=by
 obtain⟨n1,e1,p1⟩:=h1.last;obtain⟨n2,e2,p2⟩:=h2.last;refine⟨h2.k.trans h1.k,h2.cw.trans h1.cw,n1++n2,by rw[e2,e1,RY],λy hy=>?_⟩;rcases Rx.1 hy with hy | hy
 ·exact p1 y hy
 ·exact p2 y hy
theorem cT.mono{s t:oS}{P P':Item->Prop}(h:cT s t P)(hp:∀y,P y->P' y):cT s t P':=by
 obtain⟨n,e,p⟩:=h.last;exact⟨h.k,h.cw,n,e,λy hy=>hp y (p y hy)⟩
theorem cT.mem{s t:oS}{P:Item->Prop}(h:cT s t P){x:Item}(hx:x∈s.last):x∈t.last:=by
 obtain⟨n,e,_⟩:=h.last;rw[e];exact R6 _ hx
theorem sE(F:ar)(g:af){Q:Nat->Item->Prop}{q:uq}{s:oS}(h:pE g Q q F s)(hlen:s.last.length<=100000)(x:Item)(hx:Q s.k x) :
  Abs.Spec CC 116 [.pointer (some ⟨q.ic,0,none⟩),.agg ⟨[.int .i64 x.aA,.int .i64 x.dot,.int .i64 x.gU]⟩] F [cB g q s] λF' v o=>
   ∃B',o=[B']/\∃s',B'=cB g q s'/\pE g Q q F' s'/\cT s s' (λy=>y=x)/\x∈s'.last:=by
 have hsmall:=h.small;have hvl:=h.jo.len;have hul:=h.list.len;have hxl:=h.last.len;simp only[Rf,Sx] at hvl hul;have hvk:(s.vs++[.map (some s.im)])[s.k]?=some (.map (some s.im)):=by rw[Rs zo];simp[show s.k-s.vs.length=0 by omega]
 have huk:(s.us++[.slice s.xa s.xn s.xc])[s.k]?=some (.slice s.xa s.xn s.xc):=by rw[Rs zo];simp[show s.k-s.us.length=0 by omega]
 unfold cB uI;refine Abs.Spec.fn (n:=45) Tryz.func116 rfl rfl λown=>?_;refine AW.le (FR _ _ _ _ _ _) ?_;refine AW.seq (AW.du ?_);refine WT.cC Z Z Z Z Z Z (λi3 hi3=>?_);refine au ?_;refine WT.iE (v':=.int .i64 (s.k:Nat)) 15 Z (by congr 1;omega) ?_;refine WT.iE (v':=.int .i64 (s.k:Nat)) 4 Z (by congr 1;omega) ?_;refine WT.be hT h.jo.vec Z Z Z Z Z Z Z Z Z zo (λb5 hb5=>?_);refine WT.C8 (v:=.map (some s.im)) hT 2 h.jo.vec hb5 hvk Z Z Z Z Z Z Z Z Z (λl h=>h.1) ?_;refine au ?_;refine WT.oP Mk (key:=x) hT 4 Z Z Z Z Z Z Z me Z Z Z ?_;rw[h.map x]
 by_cases hin:x∈s.last
 ·rw[If hin];refine au ?_;refine AW.cond Z (λh=>(by cases h)) (λ_=>?_);refine AW.le (ah.skip _ (wg _ _ _ _ _ _)) ?_;refine au ?_;exact⟨_,[_],rfl,bU,_,rfl,s,rfl,h,cT.refl _ _,hin⟩
 ·rw[By hin];refine au ?_;refine AW.cond Z (λ_=>?_) (λh=>(by cases h));refine au ?_;refine WT.be hT h.jo.vec Z Z Z Z Z Z Z Z Z zo (λb6 hb6=>?_);refine WT.C8 (v:=.map (some s.im)) hT 2 h.jo.vec hb6 hvk Z Z Z Z Z Z Z Z Z (λl h=>h.1) ?_;refine au ?_;refine WT.sO Mk (key:=x) hT 4 0 Z Z Z Z Z Z Z Z Z Z Z Z ?_;refine au ?_;refine AW.draw (ps:=[(3,13),(3,14),(8,13),(11,13)]) Z Z ?_;refine au ?_;refine WT.be hT h.list.vec Z Z Z Z Z Z Z Z Z zo (λb7 hb7=>?_);refine WT.C8 (v:=.slice s.xa s.xn s.xc) hT 3 h.list.vec hb7 huk Z Z Z Z Z Z Z Z Z (λl h=>h.1) ?_
  refine au ?_;refine WT.bd hT Z Z Z Z Z Z Z Z Z Z Z Z Z Z (λi42 hi42=>?_);refine WT.bP (ys:=[x]) hT 6 h.last Z (λ_=>rfl) Z Z Z Z Z Z Z Z Z Z Z (λh0 s0=>bh hT s0 0 Z Z Z Z) (aF.single (R:=kA) (x:=x) rfl) Z (by decide) kq (λxa' xc' BX' hBX'=>?_);refine WT.be hT h.list.vec Z Z Z Z Z Z Z Z Z zo (λb8 hb8=>?_);refine WT.oY (y:=.slice xa' (s.xn+1) xc') hT 4 h.list.vec hb8 huk Z Z Z Z Z ⟨rfl,rfl⟩ Z (λ_=>rfl) Z (λBL' hBL'=>?_);have hset:(s.us++[Value.slice s.xa s.xn s.xc]).set s.k (.slice xa' (s.xn+1) xc')=s.us++[.slice xa' (s.xn+1) xc']:=by
   rw[Ur _ _ zo,show s.k-s.us.length=0 by omega];rfl
  rw[hset] at hBL';refine WT.le (ah.skip _ (ah.skip _ (wg _ _ _ _ _ _))) ?_;refine au ?_;obtain⟨il,lcs,hla,hBL,_⟩:=h.list.vec.at_ huk;have hmem:(b7,aD.cells false lcs)∈s.BL:=by
   rw[hla] at hb7;injection hb7 with hb7;injection hb7 with hb7;rw[hBL,hb7];exact Rl ..
  refine⟨PV,?_⟩;refine⟨_,[_],rfl,bU,_,rfl,{ s with last:=s.last++[x],es:=dX s.es x (.bool true),la:=s.la,BL:=BL',xa:=xa',xn:=s.xn+1,xc:=xc',BX:=BX' },rfl,?_,⟨rfl,rfl,[x],rfl,λy hy=>Rh.1 hy⟩,by simp⟩;refine⟨h.rules,h.jo,hBL'.Qa (by simp),h.Nr,h.CD,h.xl,λy=>?_,hBX',?_,h.K3,λy hy=>?_,h.small,h.xh,h.H7⟩
  ·show Abs.look (dX s.es x (.bool true)) y=_;rw[jM,h.map y];by_cases hy:y=x
   ·subst hy;simp
   ·simp[hy]
  ·show (s.last++[x]).Nodup;rw[SD];refine⟨h.nodup,by simp,λa ha b hb=>?_⟩;obtain rfl:=Rh.1 hb;rintro rfl;exact hin ha
  ·rcases Rx.1 hy with hy | hy
   ·exact h.wL y hy
   ·obtain rfl:=Rh.1 hy;exact hx
theorem pE.uk{g:af}{Q:Nat->Item->Prop}{q:uq}{F:ar}{s:oS}(h:pE g Q q F s):(s.us++[.slice s.xa s.xn s.xc])[s.k]?=some (.slice s.xa s.xn s.xc):=by
 have:=h.Nr;rw[Rs zo];simp[show s.k-s.us.length=0 by omega]
theorem Iy{g:af}{q:uq}{s:oS}:∀z,z∈s.BL->z∈cB g q s:=λz hz=>by unfold cB;simp[hz]
theorem OD{g:af}{q:uq}{s:oS}:∀z,z∈s.BX->z∈cB g q s:=λz hz=>by unfold cB;simp[hz]
theorem pA(F:ar)(g:af)(hg:∀r∈g.rules,r.right.length<=4)(hgl:g.rules.length<=32){Q:Nat->Item->Prop}(hQ:yU g Q){q:uq}{s:oS}(h:pE g Q q F s)(y:Sym)
  (hy:y.term=false->∀i r,g.rules[i]?=some r->r.left=y.n->Q s.k ⟨i,0,s.k⟩) :
  Abs.Spec CC 111 [.pointer (some ⟨q.ic,0,none⟩),.agg ⟨[.bool y.term,.int .i64 y.n]⟩] F [cB g q s] λF' v o=>
   ∃B',o=[B']/\∃s',B'=cB g q s'/\pE g Q q F' s'/\cT s s' (λ_=>True)/\∀i r,g.rules[i]?=some r->y.term=false->r.left=y.n->(⟨i,0,s.k⟩:Item)∈s'.last:=by
 have hrl:=h.rules.len;have hsm:=h.small;refine Abs.Spec.fn (n:=38) Tryz.func111 rfl rfl λown=>?_;refine AW.seq (AW.du ?_);refine WT.cC Z Z Z Z Z Z (λi3 hi3=>?_);refine au ?_;refine AW.range (S:=oS) (λ_=>[]) (λt=>[(i3,.cells false [.bool y.term,.int .i64 y.n])]::cB g q t::own)
  (λj t G=>pE g Q q G t/\cT s t (λ_=>True)/\∀i r,i<j->g.rules[i]?=some r->y.term=false->r.left=y.n->(⟨i,0,s.k⟩:Item)∈t.last) q.rm s
  Z Z Z Z Z Z Z Z Z zo rfl rfl (λ_=>rfl) (λ_=>rfl) sM oR ⟨h,cT.refl _ _,λi r hi=>absurd hi (Tr _)⟩ ?_ ?_
 ·intro j t F1 hF1 hj hP;obtain⟨ht,hgr,hin⟩:=hP;have htk:=hgr.k;refine au ?_;refine WT.bG hT ht.rules Z Z Z Z Z Z Z Z Z zo (λr hrj b off ro cs lx hb1 hp1 hrel=>?_);obtain⟨ra,rn,rc,rfl,hra⟩:=hrel;refine au ?_;refine WT.aI hT Z Z Z Z Z Z (λi5 hi5=>?_);refine au ?_;have next:∀u:oS,cT t u (λ_=>True)->(y.term=false->r.left=y.n->(⟨j,0,s.k⟩:Item)∈u.last)->∀i r,i<j+1->g.rules[i]?=some r->y.term=false->r.left=y.n->(⟨i,0,s.k⟩:Item)∈u.last:=by
   intro u hu h1 i r' hi hr' hty hl;rcases Rw i j with h2 | h2
   ·exact hu.mem (hin i r' h2 hr' hty hl)
   ·obtain rfl:i=j:=by omega
    rw[hrj] at hr';obtain rfl:=AT hr';exact h1 hty hl
  refine WT.split 20 Z (λhty=>?_) (λhty=>?_)
  ·have hty:y.term=false:=by simpa using hty
   refine au ?_;refine AW.cond Z (λhc=>?_) (λhc=>?_)
   ·have hc:r.left=y.n:=by simp at hc;omega
    refine au ?_;refine WT.iE (v':=.agg ⟨[.int .i64 (j:Nat),.int .i64 0,.int .i64 (s.k:Nat)]⟩) 35 Z (by rw[show ((t.k+1:Nat):Int)-1=(s.k:Nat) by omega]) ?_;refine WT.bW 2 Tryz.func116 Z Z Z Z Z Z Z (λ_=>rfl) (sE _ g ht (by have:=(ht.m5 hg hgl hQ);omega) ⟨j,0,s.k⟩ (by rw[htk];exact hy hty j r hrj hc)) (λF2 v B2 hF2 hv=>?_);obtain⟨u,rfl,hu,hgu,hmem⟩:=hv;refine au ?_;have hgu':=hgu.mono (P':=λ_=>True) (λ_ _=>trivial);exact⟨u,sM,cy,hu,hgr.trans hgu',next u hgu' (λ_ _=>hmem)⟩
   ·have hc:r.left≠y.n:=by simp at hc;omega
    refine au ?_;exact⟨t,sM,cy,ht,hgr,next t (cT.refl _ _) (λ_ h=>absurd h hc)⟩
  ·have hty:y.term=true:=by simpa using hty
   refine au ?_;refine AW.cond Z (λh=>(by cases h)) (λ_=>?_);refine au ?_;exact⟨t,sM,cy,ht,hgr,next t (cT.refl _ _) (λh=>by rw[hty] at h;cases h)⟩
 ·intro t F1 hF1 hP;obtain⟨ht,hgr,hin⟩:=hP;exact⟨_,[_],rfl,bU,_,rfl,t,rfl,ht,hgr,λi r hr=>hin i r (by have:=(gS hr).1;omega) hr⟩
def LS(s:oS):Nat->List Item:=λj=>if j=s.k then s.last else s.cw.getD j []
theorem dC.Le{F G:ar}{a:Option Addr}{n c:Nat}{B:List (Nat×aD)}{xs:List Item}(h:dC kA F a n c B xs):dC kA G a n c B xs:=by
 have cells:∀{cs:List Value} {xs:List Item},aF kA F cs xs->aF kA G cs xs:=by
  intro cs xs h
  induction h with
  | nil=>exact .nil
  | cons h1 _ ih=>exact .cons h1 ih
 exact⟨h.len,h.cap,h.zero,h.nil,h.spot,h.el.imp id λ⟨i,cs,h1,h2,h3,h4⟩=>⟨i,cs,h1,h2,cells h3,h4⟩⟩
theorem pE.at_{g:af}{Q:Nat->Item->Prop}{q:uq}{F:ar}{s:oS}(h:pE g Q q F s){j:Nat}(hj:j<=s.k):∃a n c,(s.us++[.slice s.xa s.xn s.xc])[j]?=some (.slice a n c)/\
  (∀G,ar.le F G->(∀i b,(i,b)∈cB g q s->G i=some b)->bw kA G a n c (LS s j))/\∀x∈LS s j,Q j x:=by
 by_cases hk:j=s.k
 ·subst hk;refine⟨_,_,_,h.uk,λG hG hB=>?_,λx hx=>?_⟩
  ·unfold LS;rw[If rfl];exact h.last.frozen hG (λi b hb=>hB i b (OD _ hb))
  ·unfold LS at hx;rw[If rfl] at hx;exact h.wL x hx
 ·have hl:j<s.cw.length:=by have:=h.CD;omega
  obtain⟨a,n,c,h1,h2⟩:=h.xl j _ (gE hl);have e:LS s j=s.cw[j]:=by unfold LS;rw[By hk,BY,gE hl];rfl
  refine⟨a,n,c,by rw[Rj (by have:=h.Nr;omega)];exact h1,λG hG _=>by rw[e];exact h2.mono hG,λx hx=>?_⟩;rw[e] at hx;exact h.K3 j _ (gE hl) x hx
theorem pE.Pv{g:af}(hg:∀r∈g.rules,r.right.length<=4)(hgl:g.rules.length<=32){Q:Nat->Item->Prop}(hQ:yU g Q){q:uq}{F:ar}{s:oS}(h:pE g Q q F s)(j:Nat):(LS s j).length<=3360:=by
 unfold LS;split
 ·have:=h.m5 hg hgl hQ;omega
 ·rw[BY];cases e:s.cw[j]? with
  | none=>simp
  | some l=>simpa using h.xh j l e
structure CI where
 s:oS
 n:Int
structure CJ where
 s:oS
 i:Nat
theorem nZ(F:ar)(g:af)(hg:∀r∈g.rules,r.right.length<=4)(hgl:g.rules.length<=32){Q:Nat->Item->Prop}(hQ:yU g Q){q:uq}{s0:oS}(h:pE g Q q F s0) :
  Abs.Spec CC 112 [.pointer (some ⟨q.ic,0,none⟩)] F [cB g q s0] λF' v o=>
   ∃B',o=[B']/\∃s',B'=cB g q s'/\pE g Q q F' s'/\cT s0 s' (λ_=>True)/\∀x∈s'.last,dU g.rules (LS s') s'.k x:=by
 have hsm:=h.small;refine Abs.Spec.fn (n:=115) Tryz.func112 rfl rfl λown=>?_;refine au ?_;refine AW.iE (v':=.int .i64 (s0.k:Nat)) 2 Z (by congr 1;omega) ?_;refine AW.block ?_;refine AW.cK (S:=CI) (λw=>[(3,.int .i64 w.n)]) (λw=>cB g q w.s::own) (λw G=>pE g Q q G w.s/\cT s0 w.s (λ_=>True)/\w.n<=w.s.last.length/\(w.n=w.s.last.length->∀x∈w.s.last,dU g.rules (LS w.s) s0.k x))
  (λw=>2*(g.rules.length*5*(s0.k+1)-w.s.last.length)+(if w.n=w.s.last.length then 0 else 1)) ⟨s0,-1⟩ sM oR ⟨h,cT.refl _ _,by dsimp only;omega,λe=>by dsimp only at e;omega⟩ ?_
 intro p F1 hF1 hP;obtain⟨hs,hgr,hnl,hcl⟩:=hP;have hk:=hgr.k;have hfew:=hs.m5 hg hgl hQ;have hxl:=hs.last.len;have huk:=hs.uk;rw[hk] at huk;refine au ?_;refine WT.be hT hs.list.vec Z Z Z Z Z Z Z Z Z zo (λb1 hb1=>?_);refine WT.IU (v:=.slice p.s.xa p.s.xn p.s.xc) hT 0 hs.list.vec hb1 huk Z Z Z Z Z Z Iy Z Z Z (λl h=>h.1) ?_;refine au ?_;refine AW.cond Z (λhne=>?_) (λheq=>?_)
 ·have hne:p.n≠p.s.last.length:=by simp at hne;omega
  refine au ?_;refine AW.block ?_;refine au ?_;refine WT.be hT hs.list.vec Z Z Z Z Z Z Z Z Z zo (λb2 hb2=>?_);refine WT.IU (v:=.slice p.s.xa p.s.xn p.s.xc) hT 0 hs.list.vec hb2 huk Z Z Z Z Z Z Iy Z Z Z (λl h=>h.1) ?_;refine au ?_;refine AW.block ?_;refine AW.cK (S:=CJ) (λw=>[(4,.int .i64 (w.i:Nat))]) (λw=>cB g q w.s::own) (λw G=>pE g Q q G w.s/\cT p.s w.s (λ_=>True)/\w.i<=w.s.last.length/\(w.s.last=p.s.last->∀x∈p.s.last.take w.i,dU g.rules (LS w.s) s0.k x))
   (λw=>g.rules.length*5*(s0.k+1)-w.i) ⟨p.s,0⟩ sM oR ⟨hs,cT.refl _ _,RC _,λ_ x hx=>by simp at hx⟩ ?_
  intro c F2 hF2 hP2;obtain⟨ht,hgt,hil,hcl2⟩:=hP2;have hk2:c.s.k=s0.k:=hgt.k.trans hk;have hfew2:=ht.m5 hg hgl hQ;rw[hk2] at hfew2;have hxl2:=ht.last.len;have huk2:=ht.uk;rw[hk2] at huk2;refine au ?_;refine WT.be hT ht.list.vec Z Z Z Z Z Z Z Z Z zo (λb3 hb3=>?_);refine WT.IU (v:=.slice c.s.xa c.s.xn c.s.xc) hT 0 ht.list.vec hb3 huk2 Z Z Z Z Z Z Iy Z Z Z (λl h=>h.1) ?_;refine au ?_;refine AW.cond Z (λhlt=>?_) (λhge=>?_)
  ·have hlt:c.i<c.s.last.length:=by simp at hlt;omega
   obtain⟨x,hx⟩:∃x,c.s.last[c.i]?=some x:=⟨_,gE hlt⟩;have hQx:=ht.wL x (gM hx);rw[hk2] at hQx;have hxok:=hQ.ok _ _ hQx;have fin:∀(u:oS) (G:ar),pE g Q q G u->cT c.s u (λ_=>True)->(u.last=c.s.last->dU g.rules (LS u) s0.k x)->
     pE g Q q G u/\cT p.s u (λ_=>True)/\c.i+1<=u.last.length/\(u.last=p.s.last->∀z∈p.s.last.take (c.i+1),dU g.rules (LS u) s0.k z):=by
    intro u G hu hgu hx2;refine⟨hu,hgt.trans hgu,?_,λe z hz=>?_⟩
    ·obtain⟨new,e,_⟩:=hgu.last;rw[e,Rf];omega
    ·have e1:c.s.last=p.s.last:=by
      obtain⟨n1,e1,_⟩:=hgt.last;obtain⟨n2,e2,_⟩:=hgu.last;rw[e2,e1] at e;have:=congrArg List.length e;simp only[Rf] at this;have:n1=[]:=R8 zo;rw[e1,this,R0]
     have eL:LS u=LS c.s:=by
      funext j;unfold LS;rw[hgu.k,hgu.cw,e,e1]
     rw[Rk,<-e1,hx] at hz;rcases Rx.1 hz with hz | hz
     ·rw[eL];rw[e1] at hz;exact hcl2 e1 z hz
     ·simp at hz;subst hz;exact hx2 (e.trans e1.symm)
   refine au ?_;refine AW.block ?_;refine au ?_;refine WT.be hT ht.list.vec Z Z Z Z Z Z Z Z Z zo (λb4 hb4=>?_);refine WT.IU (v:=.slice c.s.xa c.s.xn c.s.xc) hT 0 ht.list.vec hb4 huk2 Z Z Z Z Z Z Iy Z Z Z (λl h=>h.1) ?_;refine au ?_;refine WT.be hT ht.last.vec Z Z Z Z Z Z Z Z Z zo (λb5 hb5=>?_);refine WT.Pe hT 0 ht.last.vec hb5 hx Z Z Z Z Z Z OD Z Z Z (λl hl=>?_);obtain rfl:l=_:=hl;refine WT.aI hT Z Z Z Z Z Z (λi5 hi5=>?_);refine au ?_
   refine WT.eK 1 Tryz.func114 Z Z Z Z Z Z Z (λG hG hBG=>mG G g hg (hBG _ _ me) (ht.rules.mono hG) hxok) (λv hv=>?_);rcases hv with ⟨hno,⟨r,hr,hd⟩,rfl⟩ | ⟨y,hyn,rfl⟩
   ·refine au ?_;refine WT.aI hT Z Z Z Z Z Z (λi6 hi6=>?_);refine au ?_;refine AW.cond Z (λh=>(by cases h)) (λ_=>?_);have hfk:x.gU<=c.s.k:=by obtain⟨_,_,_,h3⟩:=hxok;omega
    obtain⟨a',n',c',hat,harr,hqs⟩:=ht.at_ hfk;have hfl:=ht.Pv hg hgl hQ x.gU;refine au ?_;refine WT.be hT ht.list.vec Z Z Z Z Z Z Z Z Z zo (λb6 hb6=>?_);refine WT.IU (v:=.slice a' n' c') hT 2 ht.list.vec hb6 hat Z Z Z Z Z Z Iy Z Z Z (λl h=>h.1) ?_
    refine WT.sN (P:=λv B'=>∃a2 c2,v=.slice a2 n' c2/\dC kA F2 a2 n' c2 B' (LS c.s x.gU)) 2 Tryz.func120 Z Z Z Z Z Z Z (λG hG hBG=>Spec.mono (uO G (harr G hG hBG) (by have:=(harr G hG hBG).len;omega)) (λF' v o _ hv=>by
     obtain⟨B',e,a2,c2,e2,hv⟩:=hv;exact⟨B',e,a2,c2,e2,dC.Le hv⟩)) (λv BC hv=>?_)
    obtain⟨a2,c2,rfl,hcv⟩:=hv;refine WT.aw 0 Z Z (λF3 hF3 hB3=>?_);have hya:=hcv.arr hF3 hB3;have hyl:=hya.len;have ht3:=ht.mono hF3;refine au ?_;refine AW.range (S:=oS) (λ_=>[]) (λu=>[]::[(i6,.cells false [.bool false,.int .i64 0])]::[(i5,.cells false [.int .i64 x.aA,.int .i64 x.dot,.int .i64 x.gU])]::cB g q u::own)
     (λj u G=>pE g Q q G u/\cT c.s u (λ_=>True)/\∀y∈(LS c.s x.gU).take j,bg g.rules y=some ⟨false,r.left⟩->cF y∈u.last) n' c.s
     Z Z Z Z Z Z Z Z Z zo rfl rfl (λ_=>rfl) (λ_=>rfl) sM oR ⟨ht3,cT.refl _ _,λy hy=>by simp at hy⟩ ?_ ?_
    ·intro j u F4 hF4 hj hP4;obtain⟨hu,hgu,hin⟩:=hP4;have hku:u.k=s0.k:=hgu.k.trans hk2;have hya4:=hya.mono hF4;have hfew4:=hu.m5 hg hgl hQ;refine dA ?_;refine WT.bG hT hya4 Z Z Z Z Z Z Z Z Z zo (λy hyj b7 off7 ro7 cs7 lx7 hb7 hp7 hrel7=>?_);obtain rfl:lx7=_:=hrel7;have hQy:=hqs y (gM hyj);have hyok:=hQ.ok _ _ hQy;have next:∀w:oS,cT u w (λ_=>True)->(bg g.rules y=some ⟨false,r.left⟩->cF y∈w.last)->∀z∈(LS c.s x.gU).take (j+1),bg g.rules z=some ⟨false,r.left⟩->cF z∈w.last:=by
      intro w hw h1 z hz hn;rw[Rk,hyj] at hz;rcases Rx.1 hz with hz | hz
      ·exact hw.mem (hin z hz hn)
      ·simp at hz;subst hz;exact h1 hn
     refine dA ?_;refine WT.aI hT Z Z Z Z Z Z (λi9 hi9=>?_);refine dA ?_;refine WT.eK 4 Tryz.func114 Z Z Z Z Z Z Z (λG hG hBG=>mG G g hg (hBG _ _ me) (hu.rules.mono hG) hyok) (λv hv=>?_);rcases hv with ⟨hno2,_,rfl⟩ | ⟨z,hzn,rfl⟩
     ·refine dA ?_;refine WT.aI hT Z Z Z Z Z Z (λi10 hi10=>?_);refine dA ?_;refine AW.draw (ps:=[(2,13)]) Z Z ?_;refine dA ?_;refine⟨oF,?_⟩;refine AW.cond Z (λh=>(by cases h)) (λ_=>?_);refine dA ?_;exact⟨u,sM,cy,hu,hgu,next u (cT.refl _ _) (λh=>by rw[hno2] at h;cases h)⟩
     ·refine dA ?_;refine WT.aI hT Z Z Z Z Z Z (λi10 hi10=>?_);refine dA ?_;refine AW.draw (ps:=[(2,13)]) Z Z ?_;refine dA ?_;refine WT.bG hT hu.rules Z Z Z Z Z Z Z Z Z (by have:=(gS hr).1;have:=hu.rules.len;omega) (λr2 hr2 b8 off8 ro8 cs8 lx8 hb8 hp8 hrel8=>?_);obtain rfl:r=r2:=by rw[hr] at hr2;exact AT hr2
      obtain⟨ra,rn,rc,rfl,hra⟩:=hrel8;refine dA ?_;refine WT.bN Tryz.func84 Z Z Z Z Z Z (qJ _ _) (λv hv=>?_);subst hv;refine dA ?_;refine⟨oF,?_⟩;refine AW.cond Z (λhc=>?_) (λhc=>?_)
      ·have hz:z=(⟨false,r.left⟩:Sym):=by
        have h1:=vM z ⟨false,r.left⟩;rw[show ((z.term==false)&&(((z.n:Int)==(r.left:Int))&&true))=true from hc] at h1;exact Sm h1.symm
       have hyd:y.dot<=4:=by
        obtain⟨ry,hy1,hy2,_⟩:=hyok;have:=hg ry (gM hy1);omega
       refine dA ?_;refine WT.iE (v':=.agg ⟨[.int .i64 (y.aA:Nat),.int .i64 ((y.dot+1:Nat):Int),.int .i64 (y.gU:Nat)]⟩) 112 Z (by simp) ?_;refine WT.bW 5 Tryz.func116 Z Z Z Z Z Z Z (λ_=>rfl) (sE _ g hu zo (cF y) (by rw[hku];exact hQ.complete s0.k x y r hQx hr hd hQy (by rw[hzn,hz]))) (λF5 v B5 hF5 hv=>?_);obtain⟨w,rfl,hw,hgw,hmem⟩:=hv;refine dA ?_;have hgw':=hgw.mono (P':=λ_=>True) (λ_ _=>trivial);exact⟨w,sM,cy,hw,hgu.trans hgw',next w hgw' (λ_=>hmem)⟩
      ·have hz:z≠(⟨false,r.left⟩:Sym):=by
        have h1:=vM z ⟨false,r.left⟩;rw[show ((z.term==false)&&(((z.n:Int)==(r.left:Int))&&true))=false from hc] at h1;exact TL h1.symm
       refine dA ?_;exact⟨u,sM,cy,hu,hgu,next u (cT.refl _ _) (λh=>by rw[hzn] at h;exact absurd (AT h) hz)⟩
    ·intro u F4 hF4 hP4;obtain⟨hu,hgu,hin⟩:=hP4;rw[No zo] at hin;refine dA ?_;refine⟨⟨u,c.i+1⟩,by dsimp only;omega,sM,cy,?_⟩;refine fin u _ hu hgu (λe=>⟨λn2 i2 r2 hn2 _ _=>(by rw[hno] at hn2;cases hn2),λr2 hr2 hd2 y hy hn2=>?_⟩);rw[hr] at hr2;obtain rfl:=AT hr2;have eL:LS u=LS c.s:=by
      funext j;unfold LS;rw[hgu.k,hgu.cw,e]
     rw[eL] at hy;have:=hin y hy hn2;unfold LS;rw[hgu.k,hk2,If rfl];exact this
   ·refine au ?_;refine WT.aI hT Z Z Z Z Z Z (λi6 hi6=>?_);refine au ?_;refine AW.cond Z (λ_=>?_) (λh=>(by cases h));refine au ?_
    refine WT.bW 2 Tryz.func111 Z Z Z Z Z Z Z (λ_=>rfl) (pA _ g hg hgl hQ ht y (λhyt i' r' hr' hl'=>by
     rw[hk2];exact hQ.yP s0.k x y.n i' r' hQx (by rw[hyn];cases y;simp only at hyt;rw[hyt]) hr' hl')) (λF3 v B3 hF3 hv=>?_)
    obtain⟨u,rfl,hu,hgu,hin⟩:=hv;refine au ?_;refine AW.exit ?_;refine au ?_;refine⟨⟨u,c.i+1⟩,by dsimp only;omega,sM,cy,?_⟩;refine fin u _ hu hgu (λ_=>⟨λn' i' r' hn' hr' hl'=>?_,λr' hr' hd'=>?_⟩)
    ·rw[hyn] at hn';obtain rfl:=AT hn';have:=hin i' r' hr' rfl hl';unfold LS;rw[hgu.k,hk2,If rfl];rw[hk2] at this;exact this
    ·exfalso;unfold bg at hyn;rw[hr'] at hyn;have:r'.right[x.dot]?=some y:=hyn;have:=(gS this).1;omega
  ·have hge:c.i=c.s.last.length:=by simp at hge;omega
   refine AW.exit ?_;have hpl:p.s.last.length<=c.s.last.length:=by
    obtain⟨n1,e1,_⟩:=hgt.last;rw[e1,Rf];omega
   refine⟨⟨c.s,(p.s.xn:Nat)⟩,?_,sM,ah.refl _,ht,hgr.trans hgt,by dsimp only;omega,λe=>?_⟩
   ·dsimp only;rw[By hne];split<;>omega
   ·dsimp only at e;have e1:c.s.last=p.s.last:=by
     obtain⟨n1,e1,_⟩:=hgt.last;have:=congrArg List.length e1;simp only[Rf] at this;have:n1=[]:=R8 zo;rw[e1,this,R0]
    intro z hz;refine hcl2 e1 z ?_;rw[No zo,<-e1];exact hz
 ·have heq:p.n=p.s.last.length:=by simp at heq;omega
  refine AW.exit ?_;exact⟨_,[_],rfl,bU,_,rfl,p.s,rfl,hs,hgr,λx hx=>by rw[hk];exact hcl heq x hx⟩
end Go.Proofs.D