/-
  Walks: what functions of the program do, over the abstract machine.
-/
import Derived.Test.YtmbdmfjijofmmaaGreatDoorPWk3
set_option linter.unusedVariables false
set_option maxRecDepth 20000
set_option maxHeartbeats 0
open Go Go.Abs Go.Proofs Go.Proofs.D
set_option linter.unusedVariables false
set_option maxRecDepth 20000
set_option maxHeartbeats 0
open Go Go.Abs Go.Proofs Go.Proofs.D
namespace Go.Proofs.D
structure QR where
 vs:List Value
 bs:List (Nat×aE)
structure Rz where
 vs:List Value
 a:Option Addr
 m:Nat
 c:Nat
 B:List (Nat×aE)
structure RD where
 L:List (List bQ)
 bs:List (Nat×aE)
 W:List Nat
 a:Option Addr
 m:Nat
 c:Nat
 B:List (Nat×aE)
def qw:Ty (Nat×Nat) where
 size:=2
 rel:=λ_ l x=>l=[.int .i64 x.1,.int .i64 x.2]
 len:=λ_ _ _ h=>by rw[h];rfl
 one:=λ_ _ _ h=>by rw[h];rfl
 mono:=λ_ _ _ _ _ h=>h
def iT(g:ai)(t:Nat)(lk:bQ):Option (Nat×Nat):=if aQ g lk.item=none/\lk.set.testBit t=true then some (if lk.item.az<g.rules.length then (2,lk.item.az) else (3,0)) else none
def iP(g:ai)(row:List Int)(t:Nat):List (Nat×Nat):=if t<g.ae then (match row[t]? with | some j=>if 0<=j then [(1,j.toNat)] else [] | none=>[]) else []
theorem HR(g:ai)(st:List bQ)(row:List Int)(t:Nat):fI g st row t=iP g row t++st.filterMap (iT g t):=rfl
theorem Dt{g:ai}{row:List Int}{t:Nat}:(iP g row t).length<=1:=by
 unfold iP;by_cases h:t<g.ae
 ·rw[By h];cases row[t]? with
  | none=>exact R6 _
  | some j=>
   dsimp only;by_cases h2:0<=j
   ·rw[By h2];exact AS _
   ·rw[AT h2];exact R6 _
 ·rw[AT h];exact R6 _
structure Qt where
 vs:List Value
 a:Option Addr
 m:Nat
 c:Nat
 B:List (Nat×aE)
 l:List (Nat×Nat)
theorem KD{α β:Type}{f:α->Option β}{l:List α}{k:Nat}{x:α}(h:l[k]?=some x):(l.take (k+1)).filterMap f=(l.take k).filterMap f++(f x).toList:=by
 rw[RZ,h,List.filterMap_append];cases hf:f x<;>simp[hf]
theorem Nf{α β:Type}(f:α->Option β)(l:List α)(k:Nat):((l.take k).filterMap f).length<=k:=AI (List.length_filterMap_le _ _) (by simp;omega)
theorem DZ{α:Type}(B:List α)(x:α)(bs:List α)(own:List (List α)):(B::[x]::bs::own).flatten.Perm ([x]::(bs++B)::own).flatten:=by
 classical
 rw[List.perm_iff_count];intro y;simp only[S8,List.count_append];omega
theorem Ol{p:Prop} (h:p:=by
 intro k u F2 hF2 hk hP;obtain⟨hub,huv,hul⟩:=hP;have hst2:=hst1.mono hF2;have hr2:=(hr.mono hF1).mono hF2;have hubl:=hub.len;have hf1:=Nf (iT g t) st k;have hpre:(iP g row t).length<=1:=by
  exact Dt
 have hull:u.l.length<=1+k:=by rw[hul,RP];omega
 have hvs1:u.vs[0+t*1]?=some (.slice u.a u.m u.c):=by rw[huv,Sc zo]
 have huvl:u.vs.length=g.ae+1:=by rw[huv,U6];exact hvl
 refine sO ?_;refine WT.bG hT hst2 Z Z Z Z Z Z Z Z Z zo (λx hxk b5 off5 ro5 cs5 lx5 hb5 hp5 hrel5=>?_);obtain rfl:lx5=_:=hrel5;obtain⟨hxo,hxs⟩:=hok x (gM hxk);have hfm:=KD (f:=iT g t) hxk;have hxr:=hxo.1;refine sO ?_;refine WT.aK hT Z Z Z Z Z Z (λi10 hi10=>?_);refine sO ?_;have haf:=lZ F2 g hg4 hr2 zo x.item zo;unfold ak at haf;refine WT.a6 Tryz.func150 Z Z Z Z Z Z haf (λv hv=>?_);obtain⟨z,bo,rfl,hay,han⟩:=hv;obtain⟨zt,zn⟩:=z;refine sO ?_;refine WT.aK hT Z Z Z Z Z Z (λi11 hi11=>?_);refine sO ?_
 have skip:iT g t x=none->u.l=iP g row t++(st.take (k+1)).filterMap (iT g t):=λe=>by rw[hfm,e,hul];simp
 refine WT.split 61 Z (λhbo=>?_) (λhbo=>?_)
 ·refine sO ?_;refine AW.cond Z (λ_=>?_) (λh=>(by cases h));refine AW.exit ?_;refine⟨u,sM,dH,hub,huv,skip ?_⟩;unfold iT;rw[AT (by rw[hay hbo];simp)]
 ·have han:=han hbo;refine sO ?_;refine WT.Ch (x:=x.set) (y:=t) Z Z Z Z Z Z zo ?_;refine WT.lF (x:=x.set / 2 ^ t) (y:=1) Z Z Z Z Z Z (T8 (Un _ _) zo) (by decide) ?_;rw[oL];refine sO ?_;refine AW.cond Z (λh=>?_) (λh=>?_)
  ·have h:x.set.testBit t=false:=by
    cases hb:x.set.testBit t with
    | false=>rfl
    | true=>rw[hb] at h;simp at h
   refine AW.exit ?_;refine⟨u,sM,dH,hub,huv,skip ?_⟩;unfold iT;rw[AT (by rw[h];simp)]
  ·have h:x.set.testBit t=true:=by
    cases hb:x.set.testBit t with
    | true=>rfl
    | false=>rw[hb] at h;simp at h
   refine sO ?_;refine AW.cond Z (λh2=>?_) (λh2=>?_)
   ·have h2:x.item.az<g.rules.length:=by simp at h2;omega
    have hone:iT g t x=some (2,x.item.az):=by unfold iT;rw[By ⟨han,h⟩,By h2]
    refine AW.draw (ps:=[(5,10)]) Z Z ?_;refine sO ?_;refine WT.eA (j:=t) (s:=1) hT Z Z Z Z Z Z Z Z Z ht ?_;refine WT.loadAt hT 3 Z Z Z Z Z Z me Z Z hvs1 ?_;refine sO ?_;refine WT.be hT Z Z Z Z Z Z Z Z Z Z Z Z Z Z (λi33 hi33=>?_);refine WT.bX (R:=qw) (ys:=[(2,x.item.az)]) hT 3 hub Z (λ_=>rfl) Z Z Z Z Z Z Z Z Z Z Z (λh0 s0=>bw hT s0 0 Z Z Z Z) (aH.single (R:=qw) (x:=(2,x.item.az)) rfl) Z (by decide) kF (λa3 c3 B3 hB3=>?_);refine WT.eA (j:=t) (s:=1) hT Z Z Z Z Z Z Z Z Z ht ?_;refine WT.storeAt hT 4 0 Z Z Z Z Z Z Z Z Z Z zo Z Z ?_;refine sO ?_
    refine⟨oY,?_⟩;refine⟨⟨u.vs.set (0+t*1) (.slice a3 (u.m+1) c3),a3,u.m+1,c3,B3,u.l++[(2,x.item.az)]⟩,sM,dH,hB3,?_,?_⟩
    ·dsimp only;rw[huv,List.set_set]
    ·dsimp only;rw[hul,hfm,SL,hone];rfl
   ·have h2:x.item.az=g.rules.length:=by simp at h2;omega
    have hone:iT g t x=some (3,0):=by unfold iT;rw[By ⟨han,h⟩,AT zo]
    refine sO ?_;refine WT.eA (j:=t) (s:=1) hT Z Z Z Z Z Z Z Z Z ht ?_;refine WT.loadAt hT 3 Z Z Z Z Z Z me Z Z hvs1 ?_;refine sO ?_;refine WT.be hT Z Z Z Z Z Z Z Z Z Z Z Z Z Z (λi33 hi33=>?_);refine WT.bX (R:=qw) (ys:=[((3,0):Nat×Nat)]) hT 3 hub Z (λ_=>rfl) Z Z Z Z Z Z Z Z Z Z Z (λh0 s0=>bw hT s0 0 Z Z Z Z) (aH.single (R:=qw) (x:=((3,0):Nat×Nat)) rfl) Z (by decide) kF (λa3 c3 B3 hB3=>?_);refine WT.eA (j:=t) (s:=1) hT Z Z Z Z Z Z Z Z Z ht ?_;refine WT.storeAt hT 4 0 Z Z Z Z Z Z Z Z Z Z zo Z Z ?_;refine sO ?_
    refine⟨⟨u.vs.set (0+t*1) (.slice a3 (u.m+1) c3),a3,u.m+1,c3,B3,u.l++[((3,0):Nat×Nat)]⟩,sM,dH,hB3,?_,?_⟩
    ·dsimp only;rw[huv,List.set_set]
    ·dsimp only;rw[hul,hfm,SL,hone];rfl):p:=h
theorem N7{p:Prop} (h:p:=by
 intro u F2 hF2 hP;obtain⟨hub,huv,hul⟩:=hP;rw[RN zo] at hul;have huvl:u.vs.length=g.ae+1:=by rw[huv,U6];exact hvl
 rw[<-HR] at hul;rw[hul] at hub;refine⟨⟨u.vs,bs++u.B⟩,sM,ah.flat (DZ _ _ _ _),huvl,λk hk=>?_,λk h1 h2=>?_⟩
 ·rcases R2 k t with h6 | h6
  ·obtain⟨xa,xn,xc,e1,e2⟩:=hold k h6;exact⟨xa,xn,xc,by dsimp only;rw[huv,SD zo];exact e1,λH h1 h2=>e2 H (hF2.trans h1) λi b hm=>h2 i b (Sw _ hm)⟩
  ·obtain rfl:k=t:=by omega
   exact⟨_,_,_,by dsimp only;rw[huv,RY,Sy,Sc zo],λH h1 h2=>hub.frozen h1 λi b hm=>h2 i b (SC _ hm)⟩
 ·dsimp only;rw[huv,SD zo];exact hrest k zo h2):p:=h
theorem Oz{p:Prop} (h:p:=by
 refine sO ?_;refine AW.range (S:=Qt) (λ_=>[]) (λu=>u.B::[(io,.cells false u.vs)]::bs::[(i3,.cells false [.int .i64 g.ae,.int .i64 g.au,.int .i64 g.start,.slice a m c])]::own)
  (λk u G=>dR qw G u.a u.m u.c u.B u.l/\u.vs=vs.set (0+t*1) (.slice u.a u.m u.c)/\u.l=iP g row t++(st.take k).filterMap (iT g t)) n ⟨vs,none,0,0,[],[]⟩
  Z Z Z Z Z Z Z Z Z zo rfl rfl (λ_=>rfl) (λ_=>rfl) sM (ah.flat (NO _)) ⟨dR.gz _ _,hset0.symm,by rw[hpre0];rfl⟩ ?_ ?_
 ·exact Ol
 ·exact N7):p:=h
theorem zP(F:ar)(g:ai)(hg:Valid g){a:Option Addr}{m c:Nat}(hr:bj cC F a m c g.rules){b:Option Addr}{n d:Nat}{st:List bQ}(hst:bj pE F b n d st)(hn:n<=1000)(hok:∀x∈st,jR g x.item/\x.set<2 ^ (g.ae+1))
  {rb:Option Addr} {rn rd:Nat} {row:List Int} (hrow:bj iF F rb rn rd row) (hrn:g.ae<=rn) :
  Abs.Spec CC 103 [.agg ⟨ak g a m c⟩,.slice b n d,.slice rb rn rd] F [] λF' v o=>o=[]/\∃a' n' c',v=.slice a' n' c'/\bj (cg qw) F' a' n' c' ((List.range (g.ae+1)).map λt=>fI g st row t):=by
 have hgr:=hg.range.rules;have hgt:=hg.range.ae;have hrl:=hr.len;have hsl:=hst.len;have hrwl:=hrow.len;have hp:=tM hg.range.ae.2;have hg4:∀r∈g.rules,r.right.length<=100:=λr h=>by have:=(hg.right r h).2.1;omega
 unfold ak;refine Abs.Spec.fn (n:=102) Tryz.func103 rfl rfl λown=>?_;refine AW.seq (AW.dp ?_);refine WT.cy Z Z Z Z Z Z (λi3 hi3=>?_);refine sO ?_;refine WT.uw (l:=g.ae+1) hT Z Z Z Z Z Z Z Z Z Z Z Z kF (λio hio=>?_);rw[nG,AT (show ¬g.ae+1=0 by omega)];refine sO ?_;refine AW.range (S:=QR) (λ_=>[]) (λs=>[(io,.cells false s.vs)]::s.bs::[(i3,.cells false [.int .i64 g.ae,.int .i64 g.au,.int .i64 g.start,.slice a m c])]::own)
  (λt s G=>s.vs.length=g.ae+1/\(∀k,k<t->∃xa xn xc,s.vs[k]?=some (.slice xa xn xc)/\∀H,ar.le G H->(∀i b,(i,b)∈s.bs->H i=some b)->bj qw H xa xn xc (fI g st row k))/\∀k,t<=k->k<g.ae+1->s.vs[k]?=some (.slice none 0 0)) (g.ae+1) ⟨List.replicate (g.ae+1) (.slice none 0 0),[]⟩
  Z Z Z Z Z Z Z Z Z zo rfl rfl (λ_=>rfl) (λ_=>rfl) sM (ah.flat (NO _)) ⟨by simp,λk hk=>absurd hk (Tl _),λk _ hk=>by rw[S9,By hk]⟩ ?_ ?_
 ·intro t s F1 hF1 ht hP;obtain⟨hvl,hold,hrest⟩:=hP;obtain⟨vs,bs⟩:=s;dsimp only at hvl hold hrest;have hst1:=hst.mono hF1;have hrow1:=hrow.mono hF1;have htn:=hrest t (AS _) ht;have hset0:vs.set (0+t*1) (.slice none 0 0)=vs:=by
   apply SA;intro i;by_cases e:i=t
   ·subst e;rw[RY,Sy,Sc zo,htn]
   ·rw[RY,Sy,SD (λe2=>e e2.symm)]
  refine sO ?_;refine WT.split 26 Z (λhtt=>?_) (λhtt=>?_)
  ·have htt:t<g.ae:=by simpa using htt
   obtain⟨j,hj⟩:∃j,row[t]?=some j:=⟨_,gE zo⟩;refine sO ?_;refine WT.bG hT hrow1 Z Z Z Z Z Z Z Z Z zo (λj2 hj2 b7 off7 ro7 cs7 lx7 hb7 hp7 hrel7=>?_);obtain rfl:lx7=_:=hrel7;rw[hj] at hj2;obtain rfl:=BY hj2;refine sO ?_;refine AW.cond Z (λh6=>?_) (λh6=>?_)
   ·have h6:0<=j:=by simpa using h6
    have hpre0:iP g row t=[(1,j.toNat)]:=by unfold iP;rw[By htt,hj];dsimp only;rw[By h6]
    obtain⟨jn,rfl⟩:=Int.eq_ofNat_of_zero_le h6;refine AW.le (own2:=[]::[(io,.cells false vs)]::bs::[(i3,.cells false [.int .i64 g.ae,.int .i64 g.au,.int .i64 g.start,.slice a m c])]::own) (ah.flat (NO _)) ?_;refine AW.draw (ps:=[(5,11)]) Z Z ?_;refine sO ?_;refine WT.eA (j:=t) (s:=1) hT Z Z Z Z Z Z Z Z Z ht ?_;refine WT.loadAt hT 1 Z Z Z Z Z Z me Z Z (v:=.slice none 0 0) (by rw[RY,Sy];exact htn) ?_;refine sO ?_;refine WT.bG hT hrow1 Z Z Z Z Z Z Z Z Z zo (λj3 hj3 b8 off8 ro8 cs8 lx8 hb8 hp8 hrel8=>?_);obtain rfl:lx8=_:=hrel8;rw[hj] at hj3
    obtain rfl:=BY hj3;refine sO ?_;refine WT.be hT Z Z Z Z Z Z Z Z Z Z Z Z Z Z (λi33 hi33=>?_);refine WT.bX (R:=qw) (ys:=[(1,jn)]) hT 1 (dR.gz qw F1) Z (λ_=>rfl) Z Z Z Z Z Z Z Z Z Z Z (λh0 s0=>bw hT s0 0 Z Z Z Z) (aH.single (R:=qw) (x:=(1,jn)) rfl) Z (by decide) kF (λa3 c3 B3 hB3=>?_);refine WT.eA (j:=t) (s:=1) hT Z Z Z Z Z Z Z Z Z ht ?_;refine WT.storeAt hT 2 0 Z Z Z Z Z Z Z Z Z Z zo Z Z ?_;refine sO ?_;refine⟨oY,?_⟩;refine sO ?_
    refine AW.range (S:=Qt) (λ_=>[]) (λu=>u.B::[(io,.cells false u.vs)]::bs::[(i3,.cells false [.int .i64 g.ae,.int .i64 g.au,.int .i64 g.start,.slice a m c])]::own)
     (λk u G=>dR qw G u.a u.m u.c u.B u.l/\u.vs=vs.set (0+t*1) (.slice u.a u.m u.c)/\u.l=iP g row t++(st.take k).filterMap (iT g t)) n ⟨vs.set (0+t*1) (.slice a3 (0+1) c3),a3,0+1,c3,B3,[]++[(1,jn)]⟩
     Z Z Z Z Z Z Z Z Z zo rfl rfl (λ_=>rfl) (λ_=>rfl) sM (dH) ⟨hB3,rfl,by rw[hpre0];rfl⟩ ?_ ?_
    ·exact Ol
    ·exact N7
   ·have h6:¬0<=j:=by simpa using h6
    have hpre0:iP g row t=[]:=by unfold iP;rw[By htt,hj];dsimp only;rw[AT h6]
    exact Oz
  ·have htt:¬t<g.ae:=by simpa using htt
   have hpre0:iP g row t=[]:=by unfold iP;rw[AT htt]
   refine sO ?_;refine AW.cond Z (λh=>(by cases h)) (λ_=>?_);exact Oz
 ·intro s F1 hF1 hP;obtain⟨hvl,hold,_⟩:=hP;obtain⟨vs,bs⟩:=s;dsimp only at hvl hold;refine AW.le (own2:=((io,.cells false vs)::bs)::[(i3,.cells false [.int .i64 g.ae,.int .i64 g.au,.int .i64 g.start,.slice a m c])]::own) (ah.flat (NO _)) ?_;refine AW.ay 0 Z Z (λF2 hF2 hB2=>?_);refine sO ?_;refine AW.ret ⟨_,[],⟨_,_,rfl,rfl,rfl⟩,bY,rfl,_,_,_,rfl,?_⟩;refine⟨by simp,.inr rfl,λh=>zo,λh=>(by cases h),λp hp=>(by cases hp;rfl),λk x hk=>?_⟩;have hk1:k<g.ae+1:=by have:=(gS hk).1;simpa using this
  rw[RM,Tg hk1] at hk;obtain rfl:=BY hk;obtain⟨xa,xn,xc,e1,e2⟩:=hold k hk1;have hv:=gS e1;refine⟨io,0,false,vs,[.slice xa xn xc],rfl,hB2 io _ me,?_,_,_,_,rfl,e2 F2 hF2 λi b hm=>hB2 i b (If _ hm)⟩;refine H7 ?_ rfl;show _=(vs.drop (0+k*1)).take 1;rw[RY,Sy,Sa hv.1,List.take_succ_cons,List.take_zero,hv.2]
end Go.Proofs.D
set_option linter.unusedVariables false
set_option maxRecDepth 20000
set_option maxHeartbeats 0
open Go Go.Abs Go.Proofs Go.Proofs.D
namespace Go.Abs
end Go.Abs
namespace Go.Proofs.D
structure Ri where
 i:Nat
 bz:List (List bQ)
 rows:List (List Int)
 sa:Option Addr
 sn:Nat
 sc:Nat
 SB:List (Nat×aE)
 ta:Option Addr
 tn:Nat
 tc:Nat
 TB:List (Nat×aE)
 es:cQ (List UInt8)
structure QW where
 bz:List (List bQ)
 row:List Int
 sa:Option Addr
 sn:Nat
 sc:Nat
 SB:List (Nat×aE)
 ra:Option Addr
 rn:Nat
 rc:Nat
 RB:List (Nat×aE)
 es:cQ (List UInt8)
theorem yi(F:ar){a:Option Addr}{m c:Nat}{xs:List Int}(hx:bj iF F a m c xs)(hm:m<=1000000) :
  Abs.Spec CC 87 [.slice a m c] F [] λF' v o=>∃B',o=[B']/\∃a' c',v=.slice a' m c'/\dM iF F' a' m c' B' xs:=by
 refine Abs.Spec.fn (n:=8) Tryz.func87 rfl rfl λown=>?_;refine aw ?_;refine WT.rZ hT Z Z Z Z Z Z Z Z ?_;refine aw ?_;refine AW.cond Z (λh=>?_) (λh=>?_)
 ·exact M9
 ·refine aw ?_;refine WT.be hT Z Z Z Z Z Z Z Z Z Z Z Z Z Z (λi5 hi5=>?_);refine aw ?_;obtain⟨ds,hds,hcs⟩:=sL hT hx (t:=22) rfl rfl 3;refine WT.Af hT Z Z Z Z Z Z Z Z Z Z Z Z (λh0 s0=>hds _ h0 s0) hcs hx.len (by decide) kF (λa' c' B' hB' _=>?_);refine aw ?_;refine AW.le (ah.cons _ (ah.skip _ oR)) ?_;exact AW.ret ⟨_,[_],⟨_,_,rfl,rfl,rfl⟩,bY,_,rfl,_,_,rfl,hB'⟩
def PK(g:ai)(st:List bQ):Prop:=st.length<=1000/\∀x∈st,jR g x.item/\x.set<2 ^ (g.ae+1)
theorem zw{g:ai}(hg:Valid g)(l:List bQ):PK g (dx g l):=by
 refine⟨?_,λx hx=>⟨?_,z8 x hx⟩⟩
 ·have:=(np hg (aP l)).1;rw[<-eS] at this;unfold aP at this
  rwa [RL] at this
 ·have:x.item∈aP (dx g l):=RI.2 ⟨x,hx,rfl⟩;rw[eS] at this;exact ld _ this
theorem Kg{g:ai}(hg:Valid g){s:List bQ}{y:Sym}{s':List bQ}(h:Ml g s y=some s'):PK g s':=by
 unfold Ml at h;split at h
 ·cases h
 ·obtain rfl:=BY h;exact zw hg _
theorem BE{g:ai}(hg:Valid g){I:List (List Lr)}{rows:List (List Int)}(h:kI g=some (I,rows)):∀st∈I,PI g st:=λst hst=>by
 obtain⟨k,hk⟩:=UD hst
 exact(kz h).2.all (P:=PI g) (np hg _) (λst s _ hs=>by
  obtain⟨y,_,hy⟩:=RI.1 hs;split at hy
  ·cases hy
  ·obtain rfl:=BY hy;exact np hg _) k st hk
theorem vN{g:ai}(hg:Valid g){method:Nat}{S:List (List bQ)}{rows:List (List Int)}(h:cZ g method=some (S,rows)):∀st∈S,PK g st:=by
 intro st hst;obtain⟨k,hk⟩:=UD hst;unfold cZ at h;split at h
 ·exact(rF h).2.all (P:=PK g) (zw hg _) (λst s _ hs=>by
   obtain⟨y,_,hy⟩:=RI.1 hs;exact Kg hg (s:=st) (y:=y) hy) k st hk
 ·cases hA:kI g with
  | none=>rw[hA] at h;cases h
  | some a=>
   obtain⟨I,rows0⟩:=a;rw[hA] at h;have e:=BY h;simp only[Sb] at e;obtain⟨rfl,rfl⟩:=e;rw[nr] at hk;cases hI:I[k]? with
   | none=>rw[hI] at hk;cases hk
   | some st0=>
    rw[hI] at hk;obtain rfl:=BY hk;obtain⟨h1,h2⟩:=BE hg hA st0 (gM hI);refine⟨by simpa using h1,λx hx=>?_⟩;obtain⟨z,hz,rfl⟩:=RI.1 hx;exact⟨h2 z hz,jX _ _⟩
structure QN where
 a:Option Addr
 m:Nat
 c:Nat
 B:List (Nat×aE)
 a2:Option Addr
 m2:Nat
 c2:Nat
 B2:List (Nat×aE)
theorem yB{g:ai}{method:Nat}{S:List (List bQ)}{rows:List (List Int)}(h:cZ g method=some (S,rows)):S.length<=400:=by
 unfold cZ at h;split at h
 ·exact(rF h).2.qL
 ·cases hA:kI g with
  | none=>rw[hA] at h;cases h
  | some a=>
   obtain⟨I,rows0⟩:=a;rw[hA] at h;have e:=BY h;simp only[Sb] at e;obtain⟨rfl,rfl⟩:=e;have:=(kz hA).2.qL;have e2:=congrArg List.length (nE (g:=g) (I:=I) (la:=if method=1 then λ_=>nP g else sI g I rows0));rw[RL] at e2;rw[e2];exact this
theorem GZ(F:ar)(g:ai)(hg:Valid g)(ht5:g.ae<=5){a:Option Addr}{m c:Nat}(hr:bj cC F a m c g.rules) :
  Abs.Spec CC 45 [.agg ⟨ak g a m c⟩,.int .i64 1] F [] λF' v o=>o=[]/\((cZ g 1=none/\v=.tuple ⟨[.slice none 0 0,.slice none 0 0,.int .i64 2]⟩)\/
   ∃S rows a1 n1 c1 a2 n2 c2,cZ g 1=some (S,rows)/\v=.tuple ⟨[.slice a1 n1 c1,.slice a2 n2 c2,.int .i64 0]⟩/\bj (cg (cg qw)) F' a1 n1 c1 (pz g S rows)/\bj (cg iF) F' a2 n2 c2 (rows.map (·.drop g.ae))):=by
 have hgr:=hg.range.rules;have hgt:=hg.range.ae;have hgn:=hg.range.au;have hrl:=hr.len;have hp:=tM hg.range.ae.2;have hp6:2 ^ (g.ae+1)<=64:=AI (RS (by decide) (show g.ae+1<=6 by omega)) (by decide);have okK:∀{x:bQ},(jR g x.item/\x.set<2 ^ (g.ae+1))->(x.item.az<100/\x.item.dot<100)/\x.set<100:=λh=>⟨Pa hg h.1,by omega⟩;refine Abs.Spec.fn (n:=98) Tryz.func45 rfl rfl λown=>?_;refine AW.seq (AW.dp ?_);refine WT.cy Z Z Z Z Z Z (λi2 hi2=>?_);refine WT.ay 0 Z Z (λF0 hF0 hB0=>?_);have hi2:=hB0 i2 _ me;have hr:=hr.mono hF0
 unfold ak at hi2 ⊢;refine aj ?_;have hck:=ml F0 g hg.range hr;unfold ak at hck;refine WT.a6 Tryz.func85 Z Z Z Z Z Z hck (λv hv=>?_);rw[hg.zU] at hv;subst hv;refine aj ?_;refine AW.cond Z (λh=>(by cases h)) (λ_=>?_);refine aj ?_;refine AW.cond Z (λh=>(by cases h)) (λ_=>?_);refine aj ?_;have hmk:=yp F0 g hg hr;unfold ak at hmk;refine WT.cO Tryz.func95 Z Z Z Z Z Z hmk (λF1 v hF1 hv=>?_);obtain⟨im,E,Fi,is,eb,ee,rfl,hM⟩:=hv;have hr1:=hr.mono hF1;have hi21:=hF1 _ _ hi2;refine aj ?_
 refine AW.cond Z (λh=>(by cases h)) (λ_=>?_);refine aj ?_;have hof:=yg F1 g hg hr1;unfold ak at hof;refine WT.cO Tryz.func100 Z Z Z Z Z Z hof (λF2 v hF2 hv=>?_);have hM2:=hM.mono hF2;rcases hv with ⟨hA,rfl⟩ | ⟨I,rows,b1,m1,d1,b2,m2,d2,hA,rfl,hI,hRw⟩
 ·have hst:cZ g 1=none:=by unfold cZ;rw[AT (by decide),hA];rfl
  refine aj ?_;refine WT.aK hT Z Z Z Z Z Z (λi12 hi12=>?_);refine aj ?_;refine AW.cond Z (λ_=>?_) (λh=>(by cases h));refine aj ?_;exact AW.ret ⟨_,[],⟨_,_,rfl,⟨_,_,rfl,⟨_,_,rfl,rfl,rfl⟩,rfl⟩,rfl⟩,bY,rfl,.inl ⟨hst,rfl⟩⟩
 ·refine aj ?_;refine WT.aK hT Z Z Z Z Z Z (λi12 hi12=>?_);refine aj ?_;refine AW.cond Z (λh=>(by cases h)) (λ_=>?_);refine aj ?_;have hIf:=(kz hA).2.qL;have hIl:=hI.len;refine WT.cO Tryz.func101 Z Z Z Z Z Z (ID F2 g hg hM2 (a2:=b2) (n2:=m2) (c2:=d2) hI zo (BE hg hA)) (λF3 v hF3 hv=>?_);obtain⟨a1,n1,c1,rfl,hS⟩:=hv;refine aj ?_;refine AW.cond Z (λh=>(by cases h)) (λ_=>?_);have hst:cZ g 1=some (kP g I (λ_=>nP g),rows):=by unfold cZ;rw[AT (by decide),hA];rfl
  generalize kP g I (λ_=>nP g)=S at hS hst;have hRw:=hRw.mono hF3;have hrG:=(hr1.mono hF2).mono hF3;have hiG:=hF3 _ _ (hF2 _ _ hi21);have hSR:=pY hg hst;have hSP:=vN hg hst;have hSf:=yB hst;have hAC:=hSR.1;have hRl:=hRw.len;have hSl:=hS.len;have hrs:rows.length=S.length:=by have:=hAC.len;rwa [RL] at this
  refine aj ?_;refine AW.range (S:=QN) (λs=>[(14,.slice s.a s.m s.c),(15,.slice s.a2 s.m2 s.c2)]) (λs=>s.B::s.B2::[(i12,.cells false [.slice b1 m1 d1,.slice b2 m2 d2])]::[]::own) (λj s G=>dR (cg (cg qw)) G s.a s.m s.c s.B ((pz g S rows).take j)/\dR (cg iF) G s.a2 s.m2 s.c2 s.B2 ((rows.map (·.drop g.ae)).take j)) n1 ⟨none,0,0,[],none,0,0,[]⟩
   Z Z Z Z Z Z Z Z Z zo rfl rfl (λ_=>rfl) (λ_=>rfl) sM (ah.flat (NO _)) ⟨dR.gz _ _,dR.gz _ _⟩ ?_ ?_
  ·intro j s F8 hF8 hj hP;obtain⟨hb,hb2⟩:=hP;have hS8:=hS.mono hF8;have hRw8:=hRw.mono hF8;have hr8:=hrG.mono hF8;have hi8:=hF8 _ _ hiG;have hal:(pz g S rows).length=S.length:=by unfold pz;simp
   have hbl:=hb.len;have hbl2:=hb2.len;rw[Sm] at hbl;rw[Sm,RL] at hbl2;refine aj ?_;refine WT.bG hT hS8 Z Z Z Z Z Z Z Z Z zo (λst hsj b1 off1 ro1 cs1 lx1 hb1 hp1 hrel1=>?_);obtain⟨sa,sn,sc,rfl,hsta⟩:=hrel1;have hsl:=hsta.len;obtain⟨hP1,hP2⟩:=hSP st (gM hsj);refine aj ?_;refine AW.draw (ps:=[(14,7),(14,8),(14,9),(16,7),(16,8),(16,9),(17,7),(17,8),(17,9)]) Z Z ?_;refine aj ?_;refine WT.bG hT hRw8 Z Z Z Z Z Z Z Z Z zo (λrow hrj b3 off3 ro3 cs3 lx3 hb3 hp3 hrel3=>?_);obtain⟨ra,rn,rc,rfl,hrow⟩:=hrel3;have hrowl:=hrow.len
   have hrow2:row.length=g.ae+g.au:=hAC.row j (aP st) row (by rw[RM,hsj];rfl) hrj;refine aj ?_;have hac:=zP F8 g hg hr8 hsta zo hP2 hrow zo;unfold ak at hac;refine WT.cO Tryz.func103 Z Z Z Z Z Z hac (λF9 v hF9 hv=>?_);obtain⟨xa,xn,xc,rfl,hx⟩:=hv;have hall:(pz g S rows).take (j+1)=(pz g S rows).take j++[(List.range (g.ae+1)).map λt=>fI g st row t]:=by
    have e:(pz g S rows)[j]?=some ((List.range (g.ae+1)).map λt=>fI g st row t):=by
     unfold pz;rw[ox (Tg (show j<S.length by omega)),getD_some hsj,getD_some hrj]
    rw[RZ,e];rfl
   have hrw:(rows.map (·.drop g.ae)).take (j+1)=(rows.map (·.drop g.ae)).take j++[row.drop g.ae]:=by
    rw[RZ,ox hrj];rfl
   refine WT.be hT Z Z Z Z Z Z Z Z Z Z Z Z Z Z (λi33 hi33=>?_);refine WT.bX (R:=cg (cg qw)) (ys:=[(List.range (g.ae+1)).map λt=>fI g st row t]) hT 1 (hb.mono hF9) Z (λ_=>rfl) Z Z Z Z Z Z Z Z Z Z Z (λh0 s0=>bw hT s0 0 Z Z Z Z) (aH.single (R:=cg (cg qw)) (x:=(List.range (g.ae+1)).map λt=>fI g st row t) ⟨_,_,_,rfl,hx⟩) Z (by decide) kF (λa3 c3 B3 hB3=>?_);refine aj ?_;obtain⟨b4,off4,ro4,cs4,lx4,hba,hb4,hp4,hrel4⟩:=hRw8.el j row hrj;obtain⟨ra',rn',rc',rfl,hrow'⟩:=hrel4;have hrow':=hrow'.mono hF9;have hb49:=hF9 _ _ hb4;subst hba
   refine WT.eA (j:=j) (s:=1) hT Z Z Z Z Z Z Z Z Z zo ?_;have hrowl':=hrow'.len;have hi9:=hF9 _ _ hi8;refine aj ?_;obtain⟨qa,qc,hrs2,hqa⟩:=hrow'.slice (C:=CC) (lo:=g.ae) (hi:=rn') zo (AS _) hT (t:=22) Z Z Z (some (.int .i64 ((g.ae:Nat):Int))) none (by simp[db]) rfl;refine WT.slice Z Z Z Z Z Z Z Z hrs2 ?_;rw[RN zo] at hqa;refine WT.wQ Tryz.func87 Z Z Z Z Z Z (yi F9 hqa zo) (λF10 v B10 hF10 hv=>?_);obtain⟨ca,cc,rfl,hv⟩:=hv;refine WT.ay 0 Z Z (λF11 hF11 hB11=>?_);have hcl:=hv.arr hF11 hB11;have hrl2:rows.length<=400:=by omega
   refine WT.be hT Z Z Z Z Z Z Z Z Z Z Z Z Z Z (λi34 hi34=>?_);refine WT.bX (R:=cg iF) (ys:=[row.drop g.ae]) hT 4 (((hb2.mono hF9).mono hF10).mono hF11) Z (λ_=>rfl) Z Z Z Z Z Z Z Z Z Z Z (λh0 s0=>bw hT s0 0 Z Z Z Z) (aH.single (R:=cg iF) (x:=row.drop g.ae) ⟨_,_,_,rfl,hcl⟩) Z (by decide) kF (λa5 c5 B5 hB5=>?_);refine aj ?_;refine⟨oY,?_⟩;refine⟨⟨a3,s.m+1,c3,B3,a5,s.m2+1,c5,B5⟩,sM,dH,?_,?_⟩
   ·dsimp only;rw[hall];exact(hB3.mono hF10).mono hF11
   ·dsimp only;rw[hrw];exact hB5
  ·intro s F8 hF8 hP;obtain⟨hb,hb2⟩:=hP;have hal:(pz g S rows).length=S.length:=by unfold pz;simp
   rw[RN zo] at hb;rw[RN (by rw[RL];omega)] at hb2;refine AW.ay 0 Z Z (λF9 hF9 hB9=>?_);have h1:=hb.frozen hF9 hB9;refine AW.ay 1 Z Z (λF10 hF10 hB10=>?_);have h2:=(hb2.mono hF9).frozen hF10 hB10;refine aj ?_;exact AW.ret ⟨_,[],⟨_,_,rfl,⟨_,_,rfl,⟨_,_,rfl,rfl,rfl⟩,rfl⟩,rfl⟩,bY,rfl,.inr ⟨S,rows,_,_,_,_,_,_,hst,rfl,h1.mono hF10,h2⟩⟩
def kx:oF CC 271 (Nat×Nat) where
 key:=λp=>.agg ⟨[.int .i64 p.1,.int .i64 p.2]⟩
 ok:=λp=>vg hT 8 _ _ rfl
 eq:=λp q=>by
  have h:uA CC 8 271 (.agg ⟨[.int .i64 p.1,.int .i64 p.2]⟩) (.agg ⟨[.int .i64 q.1,.int .i64 q.2]⟩)=some (decide (p=q)):=by
   rw[<-ND];exact wC hT 8 _ _ _ _ rfl
  by_cases e:p=q
  ·exact .inl ⟨e,by rw[h];simp[e]⟩
  ·exact .inr ⟨e,by rw[h];simp[e]⟩
def mw(l:List (Nat×Nat)):cQ (Nat×Nat):=l.map λx=>(x,.bool true)
noncomputable def nm(l:List (Nat×Nat)):aE:=.map (aG kx (mw l))
theorem ud(x:Nat×Nat):∀l:List (Nat×Nat),dC (mw l) x (.bool true)=mw (if x∈l then l else l++[x])
 | []=>rfl
 | y::l=>by
  show dC ((y,.bool true)::mw l) x (.bool true)=_;unfold dC;by_cases h:x=y
  ·rw[By h,By (by rw[h];exact RR ..)];rfl
  ·rw[AT h,ud x l];by_cases h2:x∈l
   ·rw[By h2,By (If _ h2)];rfl
   ·rw[AT h2,AT (by simp[h,h2])];rfl
theorem DN(ok:CC.Ok Tryz.prog)(fok:bS CC Tryz.prog)(F:ar){d s q:Nat}{l m:List (Nat×Nat)}{B:List (Nat×aE)}(hq:B[q]?=some (s,nm m))(hl:l.Nodup) :
  cJ CC Tryz.prog 199 [.map (some d),.map (some s)] F [[(d,nm l)],B] λF' v o=>∃l',o=[[(d,nm l')],B]/\l'.Nodup/\∀x,x∈l'↔x∈l\/x∈m:=by
 refine cJ.fn (n:=16) ok Tryz.func199 rfl rfl λown=>?_;refine bl.rangeMap ok fok [_] Z Z Z Z Z Z Z Z Z Z Z Z Z Z Z ?_;refine er.rV ok fok ?_;refine aj ?_;refine⟨s,aG kx (mw m),λii seen k' F' aB=>∃l',bI [(7,.pointer (some ⟨ii,0,none⟩)),(0,.map (some d))] k'/\ah ([(d,nm l')]::B::own) aB/\l'.Nodup/\∀x,x∈l'↔x∈l\/∃i∈seen,m[i]?=some x,?_⟩
 refine⟨rfl,⟨_,_,dZ hT rfl rfl⟩,λp hp=>?_,λii=>⟨l,sM,ah.refl _,hl,λx=>by simp⟩,λii seen k' F' aB ⟨l',h1,_⟩=>h1 7 _ rfl,λii seen k' F' aB ⟨l',_,h2,_⟩ h hs=>?_,λii seen k' F' aB hF ⟨l',h1,h2,h3,h4⟩ i p hp hns=>?_,λii seen k' F' aB hF ⟨l',h1,h2,h3,h4⟩ hall=>?_⟩
 ·obtain⟨y,hy,rfl⟩:=RI.1 hp;rfl
 ·exact St.has (p:=1) (hs.le h2) rfl (gM hq)
 ·obtain⟨x,hx,rfl⟩:∃x,m[i]?=some x/\p=(kx.key x,.bool true):=by
   unfold aG mw at hp;rw[RM,RM] at hp;cases hm:m[i]? with
   | none=>rw[hm] at hp;cases hp
   | some x=>rw[hm] at hp;cases hp;exact⟨x,rfl,rfl⟩
  refine er.weaken (k2:=[(10,.tuple ⟨[.agg ⟨[.int .i64 x.1,.int .i64 x.2]⟩,.bool true]⟩),(0,.map (some d)),(7,.pointer (some ⟨ii,0,none⟩))]) (bI.cons rfl (bI.cons (h1 0 _ rfl) (bI.cons (h1 7 _ rfl) (bI.nil _)))) ?_;refine er.le h2 (er.rV ok fok ?_);refine aj ?_;refine WT.aK hT Z Z Z Z Z Z (λi4 hi4=>?_);refine aj ?_;refine bl.gC ok fok (AW.dp ?_);refine aj ?_;refine WT.oh kx (key:=x) (m:=mw l') hT 1 0 Z Z Z Z Z Z Z Z Z Z Z Z ?_;rw[ud];refine WT.nil ?_;refine⟨rfl,_,sM,⟨_,Tf _ _,NO _⟩,?_,λy=>?_⟩
  ·split
   ·exact h3
   ·rename_i h;rw[S5];exact⟨h3,by simp,λa ha b hb e=>h (by rw[RK] at hb;rw[<-hb,<-e];exact ha)⟩
  ·have key:y∈(if x∈l' then l' else l'++[x])↔y∈l'\/y=x:=by
    split
    ·rename_i h;exact⟨.inl,λh2=>h2.elim id λe=>e▸h⟩
    ·simp
   rw[key,h4];constructor
   ·rintro((h | ⟨j,h,h'⟩) | rfl)
    ·exact .inl h
    ·exact .inr ⟨j,If _ h,h'⟩
    ·exact .inr ⟨i,RR ..,hx⟩
   ·rintro(h | ⟨j,h,h'⟩)
    ·exact .inl (.inl h)
    ·rcases R0.1 h with rfl | h
     ·rw[hx] at h';exact .inr (BY h').symm
     ·exact .inl (.inr ⟨j,h,h'⟩)
 ·refine⟨[],[(d,nm l')]::B::own,bI.nil _,h2,[],[[(d,nm l')],B],rfl,Sk _,l',rfl,h3,λx=>?_⟩;rw[h4];constructor
  ·rintro(h | ⟨i,_,h⟩)
   ·exact .inl h
   ·exact .inr (gM h)
  ·rintro(h | h)
   ·exact .inl h
   ·obtain⟨i,hi,rfl⟩:=SJ h;exact .inr ⟨i,hall i (by unfold aG mw;simpa using hi),gE hi⟩
abbrev Nd:=Nat×Nat
abbrev Gr:=List (Nd×List Nd)
def bq:Gr->Nd->List Nd
 | [],_=>[]
 | (k,l)::g,n=>if n=k then l else bq g n
def eY:Gr->Nd->Nd->Gr
 | [],t,b=>[(t,[b])]
 | (k,l)::g,t,b=>if t=k then (k,if b∈l then l else l++[b])::g else (k,l)::eY g t b
def aU(G:Gr):List Nd:=G.map (·.1)
theorem fq{t b x:Nd}:∀{G:Gr},x∈aU (eY G t b)↔x∈aU G\/x=t
 | []=>by simp[aU,eY]
 | (k,l)::G=>by
  unfold eY;split
  ·rename_i h;subst h;show x∈t::aU G↔x∈t::aU G\/x=t;exact⟨.inl,λh=>h.elim id λe=>e▸RR ..⟩
  ·show x∈k::aU (eY G t b)↔x∈k::aU G\/x=t;rw[R0,R0,fq,or_assoc]
theorem yT{t b x:Nd}:∀{G:Gr},bq (eY G t b) x=if x=t then (if b∈bq G t then bq G t else bq G t++[b]) else bq G x
 | []=>by
  show (if x=t then [b] else [])=_;by_cases h:x=t
  ·rw[By h,By h];rfl
  ·rw[AT h,AT h];rfl
 | (k,l)::G=>by
  by_cases h:t=k
  ·subst h;rw[eY,By rfl];show (if x=t then (if b∈l then l else l++[b]) else bq G x)=_;rw[bq,By rfl];by_cases hx:x=t
   ·rw[By hx,By hx]
   ·rw[AT hx,AT hx,bq,AT hx]
  ·rw[eY,AT h];show (if x=k then l else bq (eY G t b) x)=_;rw[yT,bq,bq,AT h];by_cases hx:x=t
   ·subst hx;rw[AT h,By rfl,By rfl]
   ·rw[AT hx,AT hx]
theorem dz{t b x y:Nd}{G:Gr}:y∈bq (eY G t b) x↔y∈bq G x\/(x=t/\y=b):=by
 rw[yT];by_cases h:x=t
 ·subst h;rw[By rfl];split
  ·rename_i hb;exact⟨.inl,λh=>h.elim id λe=>e.2▸hb⟩
  ·simp
 ·rw[AT h];simp[h]
theorem zR{t b:Nd}:∀{G:Gr},b∈bq G t->eY G t b=G
 | [],h=>by cases h
 | (k,l)::G,h=>by
  unfold eY;unfold bq at h;split
  ·rename_i e;rw[By e] at h;rw[By h]
  ·rename_i e;rw[AT e] at h;rw[zR h]
theorem jO{x y:Nd}:∀{G:Gr},y∈bq G x->x∈aU G
 | [],h=>by cases h
 | (k,l)::G,h=>by
  unfold bq at h;split at h
  ·rename_i e;rw[e];exact RR ..
  ·exact If _ (jO h)
def qZ(G:Gr):Nat:=(G.map λe=>e.2.length).sum
theorem E7{t b:Nd}:∀{G:Gr},b∉bq G t->qZ (eY G t b)=qZ G+1
 | [],_=>rfl
 | (k,l)::G,h=>by
  unfold eY;unfold bq at h;split
  ·rename_i e;rw[By e] at h;rw[AT h];show (l++[b]).length+qZ G=l.length+qZ G+1;rw[RP,Tw];omega
  ·rename_i e;rw[AT e] at h;show l.length+qZ (eY G t b)=l.length+qZ G+1;rw[E7 h];omega
structure N1(G:Gr):Prop where
 nd:(aU G).Nodup
 sD:∀e∈G,e.2.Nodup
theorem H0{t b:Nd}:∀{G:Gr},(aU G).Nodup->(aU (eY G t b)).Nodup
 | [],_=>by simp[aU,eY]
 | (k,l)::G,h=>by
  have h:k∉aU G/\(aU G).Nodup:=SM.1 h;unfold eY;split
  ·exact SM.2 h
  ·rename_i e;refine SM.2 ⟨λhk=>?_,H0 h.2⟩;rcases fq.1 hk with hk | hk
   ·exact h.1 hk
   ·exact e hk.symm
theorem CY{t b:Nd}:∀{G:Gr},(∀e∈G,e.2.Nodup)->∀e∈eY G t b,e.2.Nodup
 | [],_,e,he=>by
  obtain rfl:=RK.1 he;simp
 | (k,l)::G,h,e,he=>by
  unfold eY at he;split at he
  ·rcases R0.1 he with rfl | he
   ·have hl:=h _ me;dsimp only at hl ⊢;split
    ·exact hl
    ·rename_i hb;rw[S5];exact⟨hl,by simp,λa ha c hc e=>hb (by rw[RK] at hc;rw[<-hc,<-e];exact ha)⟩
   ·exact h e (If _ he)
  ·rcases R0.1 he with rfl | he
   ·exact h _ me
   ·exact CY (λe he=>h e (If _ he)) e he
theorem N1.add{G:Gr}(h:N1 G)(t b:Nd):N1 (eY G t b):=⟨H0 h.nd,CY h.sD⟩
theorem uI:∀{G:Gr},(aU G).Nodup->∀e∈G,bq G e.1=e.2
 | [],_,e,he=>by cases he
 | (k,l)::G,h,e,he=>by
  have h:k∉aU G/\(aU G).Nodup:=SM.1 h;unfold bq;rcases R0.1 he with rfl | he
  ·rw[By rfl]
  ·have hk:e.1∈aU G:=RI.2 ⟨e,he,rfl⟩;rw[AT (λh2:e.1=k=>h.1 (by rw[<-h2];exact hk))];exact uI h.2 e he
theorem iN{α:Type}[DecidableEq α]:∀{l m:List α},l.Nodup->(∀x∈l,x∈m)->l.length<=m.length
 | [],_,_,_=>R6 _
 | x::l,m,h,hs=>by
  have h:=SM.1 h;have:=iN (m:=m.erase x) h.2 λy hy=>(List.mem_erase_of_ne (λe:y=x=>h.1 (by rw[<-e];exact hy))).2 (hs y (If _ hy));have hm:=List.length_erase_of_mem (hs x me);have hp:0<m.length:=Ur (hs x me);rw[R4];omega
theorem Fc{α:Type}(f:α->Nat)(c:Nat):∀{l:List α},(∀e∈l,f e<=c)->(l.map f).sum<=l.length*c
 | [],_=>R6 _
 | e::l,h=>by
  rw[JN,SG,R4,Nat.succ_mul];have:=Fc f c λx hx=>h x (If _ hx);have:=h e me;omega
def Gp(p n:Nat):List Nd:=(List.range (p+1)).flatMap λi=>(List.range n).map λs=>(i,s)
theorem vP{p n:Nat}{x:Nd}:x∈Gp p n↔x.1<=p/\x.2<n:=by
 unfold Gp;obtain⟨a,b⟩:=x;simp;omega
theorem vW(p n:Nat):(Gp p n).length=(p+1)*n:=by
 unfold Gp;rw[List.length_flatMap];simp only[RL,S0];rw[List.map_const',List.sum_replicate_nat,S0]
theorem Nt{G:Gr}{p n:Nat}(h:N1 G)(hk:∀x∈aU G,x.1<=p/\x.2<n)(he:∀x y,y∈bq G x->y∈aU G):qZ G<=((p+1)*n)*((p+1)*n):=by
 unfold qZ;refine AI (Fc _ ((p+1)*n) λe hm=>?_) (OF _ ?_)
 ·rw[<-vW];refine iN (h.sD e hm) λy hy=>?_;rw[<-uI h.nd e hm] at hy;exact vP.2 (hk _ (he _ _ hy))
 ·rw[<-vW];have:=iN (m:=Gp p n) h.nd λx hx=>vP.2 (hk x hx);rw[aU,RL] at this;exact this
def Dl(G:Gr):Nat->Nd->Nd->Prop
 | 0,x,y=>y=x
 | d+1,x,y=>∃z,Dl G d x z/\y∈bq G z
theorem Dl.mono{G G':Gr}(h:∀x y,y∈bq G x->y∈bq G' x):∀{d:Nat} {x y:Nd},Dl G d x y->Dl G' d x y
 | 0,_,_,e=>e
 | _+1,_,_,⟨z,h1,h2⟩=>⟨z,h1.mono h,h _ _ h2⟩
structure nR(G:Gr)(p:Nat)(L:List Nat):Prop where
 sorted:L.Pairwise (·<·)
 mem:∀s,s∈L↔(p,s)∈aU G
theorem nR.qL{G:Gr}{p:Nat}{L:List Nat}(h:nR G p L)(hG:(aU G).Nodup):L.length<=(aU G).length:=by
 have h2:(L.map λs=>((p,s):Nd)).Nodup:=List.Pairwise.map _ (λa b hab e=>by have:=congrArg Prod.snd e;dsimp only at this;omega) h.sorted;have:=iN (m:=aU G) h2 λx hx=>by
  obtain⟨s,hs,rfl⟩:=RI.1 hx;exact(h.mem s).1 hs
 rwa [RL] at this
structure iG where
 oi:Nat
 es:List (Nd×Nat×List Nd)
def iG.outer(s:iG):cQ Nd:=s.es.map λe=>(e.1,.map (some e.2.1))
noncomputable def iG.B(s:iG):List (Nat×aE):=(s.oi,.map (aG kx s.outer))::s.es.map λe=>(e.2.1,nm e.2.2)
def iG.abs(s:iG):Gr:=s.es.map λe=>(e.1,e.2.2)
abbrev nd(x:Nd):Value:=.agg ⟨[.int .i64 x.1,.int .i64 x.2]⟩
theorem qj(n:Nd):∀es:List (Nd×Nat×List Nd),(Abs.look (es.map λe=>(e.1,Value.map (some e.2.1))) n=none/\n∉es.map (·.1))\/
  ∃(a b:List (Nd×Nat×List Nd)) (id:Nat) (l:List Nd),es=a++(n,id,l)::b/\n∉a.map (·.1)/\Abs.look (es.map λe=>(e.1,Value.map (some e.2.1))) n=some (.map (some id))
 | []=>.inl ⟨rfl,by simp⟩
 | (k,id,l)::es=>by
  by_cases h:n=k
  ·exact .inr ⟨[],es,id,l,by rw[h];rfl,by simp,by simp[Abs.look,h]⟩
  ·rcases qj n es with ⟨h2,h4⟩ | ⟨a,b,id2,l2,h2,h4,h3⟩
   ·exact .inl ⟨by simp only[JN,Abs.look,h,Te];exact h2,by simp[h];simpa using h4⟩
   ·exact .inr ⟨(k,id,l)::a,b,id2,l2,by rw[h2];rfl,by simp[h];simpa using h4,by simp only[JN,Abs.look,h,Te];exact h3⟩
theorem Dh{n:Nd}{l:List Nd}{b:Gr}:∀{a:Gr},n∉a.map (·.1)->bq (a++(n,l)::b) n=l
 | [],_=>by simp[bq]
 | (k,m)::a,h=>by
  have h:n≠k/\n∉a.map (·.1):=⟨λe=>h (by rw[e];exact RR ..),λe=>h (If _ e)⟩;show (if n=k then m else bq (a++(n,l)::b) n)=l;rw[AT h.1,Dh h.2]
theorem Ef{n y:Nd}{l:List Nd}{b:Gr}:∀{a:Gr},n∉a.map (·.1)->eY (a++(n,l)::b) n y=a++(n,if y∈l then l else l++[y])::b
 | [],_=>by simp[eY]
 | (k,m)::a,h=>by
  have h:n≠k/\n∉a.map (·.1):=⟨λe=>h (by rw[e];exact RR ..),λe=>h (If _ e)⟩;show eY ((k,m)::(a++(n,l)::b)) n y=_;rw[eY,AT h.1,Ef h.2];rfl
theorem Cs{n:Nd}:∀{a:Gr},n∉a.map (·.1)->bq a n=[]
 | [],_=>rfl
 | (k,m)::a,h=>by
  have h:n≠k/\n∉a.map (·.1):=⟨λe=>h (by rw[e];exact RR ..),λe=>h (If _ e)⟩;show (if n=k then m else _)=_;rw[AT h.1,Cs h.2]
theorem JY{n y:Nd}:∀{a:Gr},n∉a.map (·.1)->eY a n y=a++[(n,[y])]
 | [],_=>rfl
 | (k,m)::a,h=>by
  have h:n≠k/\n∉a.map (·.1):=⟨λe=>h (by rw[e];exact RR ..),λe=>h (If _ e)⟩;show (if n=k then _ else _)=_;rw[AT h.1,JY h.2];rfl
structure iG.At(s:iG)(n:Nd)(j id:Nat)(l:List Nd):Prop where
 at_:s.es[j]?=some (n,id,l)
 look:Abs.look s.outer n=some (.map (some id))
 below:bq s.abs n=l
 add:∀y,(s.es.set j (n,id,if y∈l then l else l++[y])).map (λe=>(e.1,e.2.2))=eY s.abs n y
theorem iG.JF{s:iG}{n:Nd}{a b:List (Nd×Nat×List Nd)}{id:Nat}{l:List Nd}(he:s.es=a++(n,id,l)::b)(hn:n∉a.map (·.1))(hl:Abs.look s.outer n=some (.map (some id))):s.At n a.length id l where
 at_:=by rw[he];simp
 look:=hl
 below:=by
  unfold iG.abs;rw[he,Si,JN];exact Dh (by simpa using hn)
 add:=λy=>by
  unfold iG.abs;rw[he,Si,JN,Ef (by simpa using hn)];simp
theorem iG.At.mem{s:iG}{n:Nd}{j id:Nat}{l:List Nd}(h:s.At n j id l):s.B[j+1]?=some (id,nm l):=by
 show (s.es.map λe=>(e.2.1,nm e.2.2))[j]?=_;rw[RM,h.at_];rfl
theorem C4{κ:Type}[DecidableEq κ]{k:κ}{v:Value}:∀{m:cQ κ},Abs.look m k=none->Abs.look (m++[(k,v)]) k=some v
 | [],_=>by simp[Abs.look]
 | (k',v')::m,h=>by
  show Abs.look ((k',v')::(m++[(k,v)])) k=_;unfold Abs.look at h ⊢;split at h
  ·cases h
  ·rename_i h2;rw[AT h2];exact C4 h
theorem yZ(x:Nd):∀l:List Nd,(Abs.look (mw l) x).getD (.bool false)=.bool (decide (x∈l))
 | []=>rfl
 | y::l=>by
  show (if x=y then some (Value.bool true) else Abs.look (mw l) x).getD _=_;by_cases h:x=y
  ·rw[By h,h];simp
  ·rw[AT h,yZ x l];simp[h]
theorem Ff:∀{B:List (Nat×aE)} {q:Nat} {b:Nat×aE} (x:Nat×aE),B[q]?=some b->uV B q x=some (B.set q x)
 | [],_,_,_,h=>by cases h
 | _::B,0,_,x,_=>rfl
 | b::B,q+1,_,x,h=>by
  unfold uV;rw[Ff (B:=B) x h];rfl
theorem iG.uV(s:iG){n:Nd}{j id:Nat}{l:List Nd}(h:s.At n j id l)(l':List Nd):s.B.set (j+1) (id,nm l')=iG.B ⟨s.oi,s.es.set j (n,id,l')⟩:=by
 have hj:=(gS h.at_).1;have e1:(s.es.set j (n,id,l')).map (λe=>(e.1,Value.map (some e.2.1)))=s.outer:=by
  rw[Tb];show s.outer.set j _=_;refine SA λi=>?_;rw[Ua];split
  ·rename_i e;subst e;unfold iG.outer;rw[RM,h.at_];simp[hj]
  ·rfl
 unfold iG.B;rw[show iG.outer ⟨s.oi,s.es.set j (n,id,l')⟩=s.outer from e1];show (_::(s.es.map _).set j _)=_;rw[Tb]
theorem Hw{κ:Type}[DecidableEq κ]{C:Ctx}{t:TypeId}(K:oF C t κ)(a b:cQ κ):aG K (a++b)=aG K a++aG K b:=Si ..
theorem HN{s:iG}{n:Nd}{id:Nat}(h:Abs.look s.outer n=none):Abs.look (iG.outer ⟨s.oi,s.es++[(n,id,[])]⟩) n=some (.map (some id)):=by
 unfold iG.outer;rw[Si];exact C4 h
theorem iG.grow(s:iG)(n:Nd)(id:Nat)(h:Abs.look s.outer n=none):iG.B ⟨s.oi,s.es++[(n,id,[])]⟩=s.B.set 0 (s.oi,.map (aG kx (dC s.outer n (.map (some id)))))++[(id,.map [])]:=by
 unfold iG.B;rw[lE kx n _ _ h];show (_,aE.map (aG kx (List.map _ (s.es++[(n,id,[])]))))::List.map _ (s.es++[(n,id,[])])=_;rw[Si,Si,Hw];rfl
theorem CF(F:ar){is:Nat}{ro:Bool}{x0 x1 x2 x3:Value}(s:iG)(hi:F is=some (.cells ro [x0,x1,x2,x3,.map (some s.oi)]))(top below:Nd) :
  Abs.Spec CC 164 [.pointer (some ⟨is,0,none⟩),nd top,nd below] F [s.B] λF' v o=>∃B',o=[B']/\∃s':iG,B'=s'.B/\s'.oi=s.oi/\s'.abs=eY s.abs top below/\v=.bool (!decide (below∈bq s.abs top)):=by
 obtain⟨m,hm,hm0,hm1⟩:∃m:Option Nat,(Abs.look s.outer top).getD (.map none)=.map m/\(m=none->Abs.look s.outer top=none/\top∉s.es.map (·.1))/\∀id,m=some id->∃j l,s.At top j id l:=by
  rcases qj top s.es with ⟨h1,h2⟩ | ⟨a,b,id,l,h1,h2,h3⟩
  ·exact⟨none,by rw[show Abs.look s.outer top=none from h1];rfl,λ_=>⟨h1,h2⟩,λid h=>(by cases h)⟩
  ·exact⟨some id,by rw[show Abs.look s.outer top=some (.map (some id)) from h3];rfl,λh=>(by cases h),λid' h=>(by cases h;exact⟨_,_,iG.JF h1 h2 h3⟩)⟩
 refine Abs.Spec.fn (n:=38) Tryz.func164 rfl rfl λown=>?_;refine AW.seq (AW.dp ?_);refine WT.cy Z Z Z Z Z Z (λi4 hi4=>?_);refine WT.cy Z Z Z Z Z Z (λi5 hi5=>?_);refine aj ?_;refine WT.jQ kx (key:=top) (m:=s.outer) hT 2 Z Z Z Z Z Z Z me Z Z Z ?_;rw[hm];refine WT.Nr hT Z Z Z Z Z Z Z Z ?_;refine aj ?_
 refine AW.Fs (S:=iG) (λ_=>[]) (λt=>[(i5,.cells false [.int .i64 below.1,.int .i64 below.2])]::[(i4,.cells false [.int .i64 top.1,.int .i64 top.2])]::t.B::own) (λt G=>t.oi=s.oi/\∃j id l,t.At top j id l/\eY t.abs top below=eY s.abs top below/\l=bq s.abs top) ?_ (λt F1 hF1 ht=>?_)
 ·refine AW.cond Z (λh=>?_) (λh=>?_)
  ·obtain⟨hl,hk⟩:=hm0 (by simpa using h);refine AW.draw (ps:=[(3,5),(4,5)]) Z Z ?_;refine aj ?_;refine WT.makeMap Z Z Z Z (λi20 hi20=>?_);refine WT.oh kx (key:=top) (m:=s.outer) hT 3 0 Z Z Z Z Z Z Z Z Z Z Z Z ?_;refine aj ?_;refine⟨oY,?_⟩;refine⟨⟨s.oi,s.es++[(top,i20,[])]⟩,sM,?_,rfl,s.es.length,i20,[],iG.JF rfl hk (HN hl),?_,(Cs (a:=s.abs) (by unfold iG.abs;simpa using hk)).symm⟩
   ·show ah (_::_::iG.B ⟨s.oi,s.es++[(top,i20,[])]⟩::own) _;rw[iG.grow s top i20 hl];refine ah.flat ?_;simp only[S8,SL,T3,UL];exact(T5 (l₁:=_::_::s.B.set 0 _) (l₂:=own.flatten)).symm
   ·unfold iG.abs;rw[Si];show eY (_++(top,[])::[]) top below=_;rw[Ef (by simpa using hk),JY (by simpa using hk),AT (by simp)];rfl
  ·obtain⟨id,rfl⟩:∃id,m=some id:=by
    cases m with
    | none=>simp at h
    | some id=>exact⟨id,rfl⟩
   obtain⟨j,l,hA⟩:=hm1 id rfl;refine aj ?_;exact⟨s,sM,ah.refl _,rfl,j,id,l,hA,rfl,hA.below.symm⟩
 ·obtain⟨hoi,j,id,l,hA,hadd,hbel⟩:=ht;have hi1:=hF1 _ _ hi;rw[<-hoi] at hi1;have hlk:(Abs.look t.outer top).getD (.map none)=.map (some id):=by rw[hA.look];rfl
  refine aj ?_;refine WT.jQ kx (key:=top) (m:=t.outer) hT 2 Z Z Z Z Z Z Z me Z Z Z ?_;rw[hlk];refine aj ?_;refine WT.jQ kx (key:=below) (m:=mw l) hT 2 Z Z Z Z Z Z Z (gM hA.mem) Z Z Z ?_;rw[yZ];refine aj ?_;refine WT.jQ kx (key:=top) (m:=t.outer) hT 2 Z Z Z Z Z Z Z me Z Z Z ?_;rw[hlk];refine aj ?_;refine WT.oh kx (key:=below) (m:=mw l) hT 2 (j+1) Z Z Z Z Z Z Z hA.mem Z Z (Ff _ hA.mem) Z ?_;rw[ud];refine aj ?_
  refine AW.ret ⟨_,[iG.B ⟨t.oi,t.es.set j (top,id,if below∈l then l else l++[below])⟩],⟨_,_,rfl,rfl,rfl⟩,?_,_,rfl,⟨t.oi,t.es.set j (top,id,if below∈l then l else l++[below])⟩,rfl,hoi,?_,?_⟩
  ·rw[<-t.uV hA];exact bY
  ·rw[<-hadd];exact hA.add below
  ·rw[hbel];rfl
structure HU(g:ai)(w:List Nat)(n i j:Nat)(row:List Nat):Prop where
 len:row.length=w.length+1
 bit:∀p x,row[p]?=some x->∀q,x.testBit q=true↔((p<i\/(p=i/\q<j))/\qF g w ⟨false,n⟩ p q)
theorem HU.skip{g:ai}{w:List Nat}{n i j:Nat}{row:List Nat}(h:HU g w n i j row)(hd:¬qF g w ⟨false,n⟩ i j):HU g w n i (j+1) row where
 len:=h.len
 bit:=λp x hx q=>by
  rw[h.bit p x hx q];constructor
  ·rintro⟨h1,h2⟩;exact⟨by omega,h2⟩
  ·rintro⟨h1 | ⟨rfl,h1⟩,h2⟩
   ·exact⟨.inl h1,h2⟩
   ·rcases R2 q j with h3 | h3
    ·exact⟨.inr ⟨rfl,h3⟩,h2⟩
    ·obtain rfl:q=j:=by omega
     exact absurd h2 hd
structure RF where
 a:Option Addr
 m:Nat
 c:Nat
 B:List (Nat×aE)
 vs:List Value
 bs:List (Nat×aE)
 E:List (List Nat)
theorem AP(F:ar){a b:Option Addr}{m c d:Nat}{xs:List iK}(hx:bj gQ F a m c xs)(hy:bj gQ F b m d xs)(hm:m<=1000000)
  (hcmp:∀G lx ly (x:iK),x∈xs->gQ.rel G lx x->gQ.rel G ly x->Abs.Spec CC 72 [.agg ⟨lx⟩,.agg ⟨ly⟩] G [] λ_ v o=>o=[]/\v=.bool true) :
  Abs.Spec CC 71 [.slice a m c,.slice b m d,.func (.func 72) ⟨[]⟩ ⟨[]⟩] F [] λ_ v o=>o=[]/\v=.bool true:=by
 refine Abs.Spec.fn (n:=32) Tryz.func71 rfl rfl λown=>?_;have hxlen:=hx.len;refine aw ?_;refine AW.cond Z (λh=>(by exfalso;simp at h)) (λ_=>?_);refine aw ?_;refine AW.range (S:=Unit) (λ_=>[]) (λ_=>own) (λj _ G=>True) m () Z Z Z Z Z Z Z Z Z zo Z Z (λ_=>rfl) (λ_=>rfl) sM oR trivial ?_ ?_
 ·intro j _ F1 hF1 hj hP;have hx1:=hx.mono hF1;have hy1:=hy.mono hF1;refine aw ?_;refine WT.bG hT hx1 Z Z Z Z Z Z Z Z Z zo (λx hxj b1 off ro cs lx hb hp1 hrel=>?_);have hrelx:=hrel;obtain⟨xa,xn,xc,rfl,_⟩:=hrel;refine aw ?_;refine WT.aK hT Z Z Z Z Z Z (λi8 hi8=>?_);refine aw ?_;refine WT.bG hT hy1 Z Z Z Z Z Z Z Z Z zo (λy hyj b2 off2 ro2 cs2 ly hb2 hp2 hrel=>?_);obtain rfl:y=x:=by rw[hxj] at hyj;exact(BY hyj).symm
  have hrely:=hrel;obtain⟨ya,yn,yc,rfl,_⟩:=hrel;refine aw ?_;refine WT.aK hT Z Z Z Z Z Z (λi9 hi9=>?_);refine aw ?_;refine WT.eB Tryz.func72 Z Z Z Z Z Z Z Z (hcmp _ _ _ y (gM hxj) hrelx hrely) (λv hv=>?_);subst hv;refine aw ?_;refine AW.cond Z (λh=>(by cases h)) (λ_=>?_);refine aw ?_;exact⟨(),sM,ah.skip _ (ah.skip _ oR),trivial⟩
 ·intro _ F1 hF1 hP;refine aw ?_;exact AW.ret ⟨_,[],⟨_,_,rfl,rfl,rfl⟩,bY,rfl,rfl⟩
theorem Au(F:ar){a b:Option Addr}{m c d:Nat}{xs:List Node}(hx:bj ke F a m c xs)(hy:bj ke F b m d xs)(hm:m<=1000000)
  (hcmp:∀G lx ly (x:Node),x∈xs->ke.rel G lx x->ke.rel G ly x->Abs.Spec CC 70 [.agg ⟨lx⟩,.agg ⟨ly⟩] G [] λ_ v o=>o=[]/\v=.bool true) :
  Abs.Spec CC 69 [.slice a m c,.slice b m d,.func (.func 70) ⟨[]⟩ ⟨[]⟩] F [] λ_ v o=>o=[]/\v=.bool true:=by
 refine Abs.Spec.fn (n:=32) Tryz.func69 rfl rfl λown=>?_;have hxlen:=hx.len;refine aw ?_;refine AW.cond Z (λh=>(by exfalso;simp at h)) (λ_=>?_);refine aw ?_;refine AW.range (S:=Unit) (λ_=>[]) (λ_=>own) (λj _ G=>True) m () Z Z Z Z Z Z Z Z Z zo Z Z (λ_=>rfl) (λ_=>rfl) sM oR trivial ?_ ?_
 ·intro j _ F1 hF1 hj hP;have hx1:=hx.mono hF1;have hy1:=hy.mono hF1;refine aw ?_;refine WT.bG hT hx1 Z Z Z Z Z Z Z Z Z zo (λx hxj b1 off ro cs lx hb hp1 hrel=>?_);have hrelx:=hrel;obtain⟨xa,xn,xc,rfl,_⟩:=hrel;refine aw ?_;refine WT.aK hT Z Z Z Z Z Z (λi8 hi8=>?_);refine aw ?_;refine WT.bG hT hy1 Z Z Z Z Z Z Z Z Z zo (λy hyj b2 off2 ro2 cs2 ly hb2 hp2 hrel=>?_);obtain rfl:y=x:=by rw[hxj] at hyj;exact(BY hyj).symm
  have hrely:=hrel;obtain⟨ya,yn,yc,rfl,_⟩:=hrel;refine aw ?_;refine WT.aK hT Z Z Z Z Z Z (λi9 hi9=>?_);refine aw ?_;refine WT.eB Tryz.func70 Z Z Z Z Z Z Z Z (hcmp _ _ _ y (gM hxj) hrelx hrely) (λv hv=>?_);subst hv;refine aw ?_;refine AW.cond Z (λh=>(by cases h)) (λ_=>?_);refine aw ?_;exact⟨(),sM,ah.skip _ (ah.skip _ oR),trivial⟩
 ·intro _ F1 hF1 hP;refine aw ?_;exact AW.ret ⟨_,[],⟨_,_,rfl,rfl,rfl⟩,bY,rfl,rfl⟩
theorem yk(F:ar){lx ly:List Value}(x:iK)(hx:gQ.rel F lx x)(hy:gQ.rel F ly x):Abs.Spec CC 72 [.agg ⟨lx⟩,.agg ⟨ly⟩] F [] λ_ v o=>o=[]/\v=.bool true:=by
 obtain⟨xa,xn,xc,rfl,hxa,hxb⟩:=hx;obtain⟨ya,yn,yc,rfl,hya,hyb⟩:=hy;have hxl:=hxa.len;have hyl:=hya.len;refine Abs.Spec.fn (n:=17) Tryz.func72 rfl rfl λown=>?_;refine AW.seq (AW.dp ?_);refine WT.cy Z Z Z Z Z Z (λi2 hi2=>?_);refine WT.cy Z Z Z Z Z Z (λi3 hi3=>?_);refine aw ?_;refine WT.jB (v':=.bool true) 10 Z (by congr 1;simp) ?_;refine aw ?_;refine WT.a6 Tryz.func12 Z Z Z Z Z Z (wg _ hxa hya zo) (λv hv=>?_);subst hv;rw[decide_eq_true rfl];refine aw ?_;exact AW.ret ⟨_,[],⟨_,_,rfl,rfl,rfl⟩,bY,rfl,rfl⟩
theorem x9(F:ar){lx ly:List Value}(x:Node)(hf:x.fX.length<=1000000)(hx:ke.rel F lx x)(hy:ke.rel F ly x):Abs.Spec CC 70 [.agg ⟨lx⟩,.agg ⟨ly⟩] F [] λ_ v o=>o=[]/\v=.bool true:=by
 obtain⟨xa,xn,xc,rfl,hxa⟩:=hx;obtain⟨ya,yn,yc,rfl,hya⟩:=hy;obtain rfl:yn=xn:=by rw[hxa.len,hya.len]
 have hxl:=hxa.len;refine Abs.Spec.fn (n:=31) Tryz.func70 rfl rfl λown=>?_;refine AW.seq (AW.dp ?_);refine WT.cy Z Z Z Z Z Z (λi2 hi2=>?_);refine WT.cy Z Z Z Z Z Z (λi3 hi3=>?_);refine aw ?_;refine WT.jB (v':=.bool true) 10 Z (by congr 1;simp) ?_;refine aw ?_;refine WT.jB (v':=.bool true) 17 Z (by congr 1;simp) ?_;refine aw ?_;refine WT.jB (v':=.bool true) 24 Z (by congr 1;simp) ?_;refine aw ?_;refine WT.a6 Tryz.func71 Z Z Z Z Z Z (AP _ hxa hya zo (λG lx ly x _ h1 h2=>yk G x h1 h2)) (λv hv=>?_);subst hv;refine aw ?_
 exact AW.ret ⟨_,[],⟨_,_,rfl,rfl,rfl⟩,bY,rfl,rfl⟩
theorem tT(F:ar){a b:Option Addr}{m c d:Nat}{r:Int}{Ns:List Node}(hf:∀x∈Ns,x.fX.length<=1000000)(hm:m<=1000000)(hx:bj ke F a m c Ns)(hy:bj ke F b m d Ns) :
  Abs.Spec CC 27 [.agg ⟨[.slice a m c,.int .i64 r]⟩,.agg ⟨[.slice b m d,.int .i64 r]⟩] F [] λ_ v o=>o=[]/\v=.bool true:=by
 refine Abs.Spec.fn (n:=17) Tryz.func27 rfl rfl λown=>?_;refine AW.seq (AW.dp ?_);refine WT.cy Z Z Z Z Z Z (λi2 hi2=>?_);refine WT.cy Z Z Z Z Z Z (λi3 hi3=>?_);refine aw ?_;refine WT.jB (v':=.bool true) 10 Z (by congr 1;simp) ?_;refine aw ?_;refine WT.a6 Tryz.func69 Z Z Z Z Z Z (Au _ hx hy hm (λG lx ly x hx2 h1 h2=>x9 G x (hf x hx2) h1 h2)) (λv hv=>?_);subst hv;refine aw ?_;exact AW.ret ⟨_,[],⟨_,_,rfl,rfl,rfl⟩,bY,rfl,rfl⟩
theorem O1{p:Prop} (h:p:=by
 refine List.ext_getElem (by rw[h.ok.size,h'.ok.size]) λn h1 h2=>?_;have l1:=h.ok.row _ (TK h1);have l2:=h'.ok.row _ (TK h2);refine List.ext_getElem (by rw[l1,l2]) λi h3 h4=>?_;refine Nat.eq_of_testBit_eq λq=>?_;rw[Ta];have e1:(E[n][i]).testBit q=true↔qF g w ⟨false,n⟩ i q:=by
  rw[<-h.iff n i q zo];constructor
  ·intro hb;exact⟨_,_,gE h1,gE h3,hb⟩
  ·rintro⟨row,x,r1,r2,r3⟩;rw[gE h1] at r1;cases r1;rw[gE h3] at r2;cases r2;exact r3
 have e2:(E'[n][i]).testBit q=true↔qF g w ⟨false,n⟩ i q:=by
  rw[<-h'.iff n i q zo];constructor
  ·intro hb;exact⟨_,_,gE h2,gE h4,hb⟩
  ·rintro⟨row,x,r1,r2,r3⟩;rw[gE h2] at r1;cases r1;rw[gE h4] at r2;cases r2;exact r3
 rw[e1,e2]):p:=h
theorem n6{g:ai}{w:List Nat}{E E':List (List Nat)}(h:eK g w E)(h':eK g w E'):E=E':=by
 exact O1
theorem FJ{α:Type}[DecidableEq α](f:α->Nat):∀(L S:List α),L.Nodup->(∀x∈L,x∈S)->(L.map f).sum<=(S.map f).sum
 | [],S,_,_=>R6 _
 | x::L,S,hn,hs=>by
  obtain⟨h1,h2⟩:=SM.1 hn;have hp:=List.perm_cons_erase (hs x me);have:=(hp.map f).sum_nat;rw[this,JN,JN,SG,SG];refine SO (FJ f L (S.erase x) h2 λy hy=>?_) _;rw[List.mem_erase_of_ne (by rintro rfl;exact h1 hy)];exact hs y (If _ hy)
theorem eQ{g:ai}{w:List Nat}{E:List (List Nat)}{F:ar}{v:Value}(h:fw g w E F v):∃a n c r e,v=.tuple ⟨[.agg ⟨[.slice a n c,.int .i64 r]⟩,.int .i64 e]⟩:=by
 rcases h with ⟨s,a,n,c,r,rfl,rfl,_⟩ | ⟨rfl,_⟩
 ·exact⟨_,_,_,_,_,rfl⟩
 ·exact⟨_,_,_,_,_,rfl⟩
theorem jg{g:ai}{w:List Nat}{E:List (List Nat)}{F:ar}{a:Option Addr}{n c:Nat}{r e:Int}(h:fw g w E F (.tuple ⟨[.agg ⟨[.slice a n c,.int .i64 r]⟩,.int .i64 e]⟩)) :
  (e=0/\((dX w E ⟨false,g.start⟩ 0 w.length=false/\a=none/\n=0/\c=0/\r=-1)\/
   (dX w E ⟨false,g.start⟩ 0 w.length=true/\∃S,r=(place S (rootKey g w):Nat)/\mO g w E (rootKey g w) S/\bj ke F a n c (S.map (mkNode g w E S))/\cF g w E S<=20000)))\/
  (e=2/\a=none/\n=0/\c=0/\r=0/\dX w E ⟨false,g.start⟩ 0 w.length=true/\∃L:List Key,L.Nodup/\(∀k∈L,cT g w E (rootKey g w) k)/\20000<cF g w E L):=by
 rcases h with ⟨s,a',n',c',r',hs,he,hx,hx2⟩ | ⟨he,hx,hx2⟩
 ·subst hs;cases he;refine .inl ⟨rfl,?_⟩;rcases hx with ⟨h1,h2⟩ | ⟨h1,S,a2,n2,c2,h2,hK,hA⟩
  ·cases h2;exact .inl ⟨h1,rfl,rfl,rfl,rfl⟩
  ·cases h2;exact .inr ⟨h1,S,rfl,hK,hA,hx2 S hK h1⟩
 ·cases he;exact .inr ⟨rfl,rfl,rfl,rfl,rfl,hx,hx2⟩
theorem mN{g:ai}(hg:Valid g){w:List Nat}(hw12:w.length<=12){E:List (List Nat)}{F F':ar}{a a':Option Addr}{n n' c c':Nat}{r r' e e':Int}(h:fw g w E F (.tuple ⟨[.agg ⟨[.slice a n c,.int .i64 r]⟩,.int .i64 e]⟩))(h':fw g w E F' (.tuple ⟨[.agg ⟨[.slice a' n' c',.int .i64 r']⟩,.int .i64 e']⟩)) :
  n'=n/\r'=r/\e'=e/\n<=1000000/\∃Ns,(∀x∈Ns,x.fX.length<=1000000)/\bj ke F a n c Ns/\bj ke F' a' n c' Ns:=by
 have big:∀{S L:List Key},mO g w E (rootKey g w) S->cF g w E S<=20000->L.Nodup->(∀k∈L,cT g w E (rootKey g w) k)->20000<cF g w E L->False:=λ{S L} hK h1 h2 h3 h4=>by
  have:cF g w E L<=cF g w E S:=FJ _ L S h2 λx hx=>hK.all (h3 x hx);omega
 rcases jg h with ⟨he,h1⟩ | ⟨he,ha,hn,hc,hr,hst,L,hL1,hL2,hL3⟩
 ·rcases jg h' with ⟨he',h1'⟩ | ⟨he',ha',hn',hc',hr',hst',L,hL1,hL2,hL3⟩
  ·rcases h1 with ⟨h2,ha,hn,hc,hr⟩ | ⟨h2,S,hr,hK,hA,hS⟩
   ·rcases h1' with ⟨h2',ha',hn',hc',hr'⟩ | ⟨h2',_⟩
    ·subst ha hn hc hr ha' hn' hc' hr';exact⟨rfl,rfl,by rw[he,he'],by omega,[],λx hx=>(by cases hx),bj.gz _ _,bj.gz _ _⟩
    ·rw[h2] at h2';cases h2'
   ·rcases h1' with ⟨h2',_⟩ | ⟨h2',S',hr',hK',hA',hS'⟩
    ·rw[h2] at h2';cases h2'
    ·obtain rfl:=tF hK hK';have hnn:n'=n:=by rw[hA.len,hA'.len]
     subst hnn;have hok:=Io hg hw12 hK (yv hg w);exact⟨rfl,by rw[hr,hr'],by rw[he,he'],by have:=hok.qL;rw[<-hA.len] at this;exact this,_,hok.fX,hA,hA'⟩
  ·exfalso;rcases h1 with ⟨h2,_⟩ | ⟨h2,S,hr,hK,hA,hS⟩
   ·rw[hst'] at h2;cases h2
   ·exact big hK hS hL1 hL2 hL3
 ·rcases jg h' with ⟨he',h1'⟩ | ⟨he',ha',hn',hc',hr',_⟩
  ·exfalso;rcases h1' with ⟨h2,_⟩ | ⟨h2,S,hr,hK,hA,hS⟩
   ·rw[hst] at h2;cases h2
   ·exact big hK hS hL1 hL2 hL3
  ·subst ha hn hc hr ha' hn' hc' hr';exact⟨rfl,rfl,by rw[he,he'],by omega,[],λx hx=>(by cases hx),bj.gz _ _,bj.gz _ _⟩
theorem vv{w:List Nat}{E:List (List Nat)}{to:Nat}:∀{l:List Sym} {i:Nat},(splits w E to l i).length<=(to+1) ^ (l.length-1)
 | [],i=>by
  unfold splits;split<;>simp
 | [s],i=>by
  unfold splits;have:∀n,((List.range n).flatMap λm=>if dX w E s i m=true then (splits w E to [] m).map (⟨s,i,m⟩::·) else []).length<=if to<n then 1 else 0:=by
   intro n
   induction n with
   | zero=>simp
   | succ n ih=>
    rw[TX,TD,RP];have h1:([n].flatMap λm=>if dX w E s i m=true then (splits w E to [] m).map (⟨s,i,m⟩::·) else []).length<=if n=to then 1 else 0:=by
     rw[Uv,UC,Sq];split
     ·rw[RL];unfold splits;split<;>simp
     ·simp
    split at ih<;>split at h1<;>split<;>omega
  refine AI (this (to+1)) ?_;simp
 | s::t::l,i=>by
  unfold splits;have:∀n,((List.range n).flatMap λm=>if dX w E s i m=true then (splits w E to (t::l) m).map (⟨s,i,m⟩::·) else []).length<=n*(to+1) ^ l.length:=by
   intro n
   induction n with
   | zero=>simp
   | succ n ih=>
    rw[TX,TD,RP,Ss,S7];refine RU ih ?_;rw[Uv,UC,Sq];split
    ·rw[RL];exact vv (l:=t::l)
    ·simp
  refine AI (this (to+1)) ?_;show _<=(to+1) ^ (l.length+1);rw[TG,Tj];exact AS _
theorem sum_add{α:Type}(f h:α->Nat):∀l:List α,(l.map λx=>f x+h x).sum=(l.map f).sum+(l.map h).sum
 | []=>rfl
 | x::l=>by
  rw[JN,JN,JN,SG,SG,SG,sum_add f h l];omega
theorem Cw{α:Type}(p:α->Bool)(f:α->Nat)(M:Nat):∀l:List α,(∀x∈l,f x<=M)->(∀x∈l,p x=false->f x=0)->(l.map f).sum<=(l.filter p).length*M
 | [],_,_=>by simp
 | x::l,h,h2=>by
  have ih:=Cw p f M l (λy hy=>h y (If _ hy)) (λy hy=>h2 y (If _ hy));have h3:=h x me;rw[JN,SG];cases hp:p x with
  | true=>
   rw[List.filter_cons_of_pos hp,R4,Ss,S7];omega
  | false=>
   rw[List.filter_cons_of_neg (by simp[hp]),h2 x me hp];omega
theorem wE{α:Type}{f:α->Nat}:∀{l:List α},(∀x∈l,f x=0)->(l.map f).sum=0
 | [],_=>rfl
 | x::l,h=>by
  rw[JN,SG,h x me,wE λy hy=>h y (If _ hy)]
theorem Co{g:ai}(hs:Small g){w:List Nat}(hw:w.length<=6){E:List (List Nat)}{L:List Key}(hn:L.Nodup)(hL:∀k∈L,iw g w k):cF g w E L<=20000:=by
 have key:∀i,(L.map λk=>(bJ g w E k i).length).sum<=2401:=by
  intro i;cases hr:g.rules[i]? with
  | none=>
   have:(L.map λk=>(bJ g w E k i).length).sum=0:=by
    refine wE λk _=>?_;unfold bJ;rw[hr];rfl
   omega
  | some r=>
   have hok:=hs.ok r (gM hr);refine AI (Cw (λk=>decide (k.sym=⟨false,r.left⟩)) _ 49 L (λk hk=>?_) (λk hk hp=>?_)) ?_
   ·unfold bJ;rw[hr];show (if r.left=k.sym.n/\k.sym.term=false then (splits w E k.to r.right k.gW).map (eI.mk i) else []).length<=49;split
    ·rw[RL];refine AI vv ?_;have h1:=(hL k hk).2.2;refine AI (Nat.pow_le_pow_left (show k.to+1<=7 by omega) _) ?_;exact RS (n:=7) (by decide) (show r.right.length-1<=2 by have:=hok.2.1;omega)
    ·simp
   ·unfold bJ;rw[hr];show (if r.left=k.sym.n/\k.sym.term=false then (splits w E k.to r.right k.gW).map (eI.mk i) else []).length=0;rw[AT ?_]
    ·rfl
    ·rintro⟨h1,h2⟩;have:k.sym≠⟨false,r.left⟩:=by simpa using hp
     apply this;obtain⟨⟨b,n⟩,_,_⟩:=k;simp only at h1 h2;rw[h1,h2]
   ·have hc:(L.filter λk=>decide (k.sym=⟨false,r.left⟩)).length<=49:=by
     have h:=qM 49 ((L.filter λk=>decide (k.sym=⟨false,r.left⟩)).map λk=>k.gW*7+k.to) ?_ ?_
     ·rwa [RL] at h
     ·rw[SW,TC];refine(SW.1 (hn.filter _)).imp_of_mem ?_;intro a b ha hb hne he;apply hne;obtain⟨a1,a2⟩:=RJ.1 ha;obtain⟨b1,b2⟩:=RJ.1 hb;have a3:=(hL a a1).2;have b3:=(hL b b1).2;obtain⟨sa,af,ao⟩:=a;obtain⟨sb,bf,bo⟩:=b;have a2:sa=⟨false,r.left⟩:=by simpa using a2
      have b2:sb=⟨false,r.left⟩:=by simpa using b2
      simp only at he a3 b3;simp only[Key.mk.injEq];exact⟨by rw[a2,b2],by omega,by omega⟩
     ·intro x hx;obtain⟨k,hk,rfl⟩:=RI.1 hx;have h1:=(hL k (RJ.1 hk).1).2;omega
    omega
 have all:∀n,(L.map λk=>((List.range n).flatMap (bJ g w E k)).length).sum<=n*2401:=by
  intro n
  induction n with
  | zero=>
   have:(L.map λk=>((List.range 0).flatMap (bJ g w E k)).length).sum=0:=by
    exact wE λk _=>rfl
   omega
  | succ n ih=>
   have e:(λk=>((List.range (n+1)).flatMap (bJ g w E k)).length)=λk=>((List.range n).flatMap (bJ g w E k)).length+(bJ g w E k n).length:=by
    funext k;rw[TX,TD,RP,Uv,UC,Sq]
   rw[e,sum_add,Ss,S7];exact RU ih (key n)
 have:=all g.rules.length;unfold cF bU;have:=hs.rules.2;have:g.rules.length*2401<=8*2401:=OF _ this;omega
section
variable {g:ai}{w:List Nat}{E:List (List Nat)}{root:Key}{S:List Key}
mutual
theorem H4(hE:eK g w E)(hK:mO g w E root S):∀{s:Sym} {i j:Nat},qF g w s i j->j<=w.length->⟨s,i,j⟩∈S->∀p,i<=p->p<j->∃t,w[p]?=some t/\(⟨⟨true,t⟩,p,p+1⟩:Key)∈S
 | _,i,_,.term h,hj,hS,p,h1,h2=>by
  obtain rfl:p=i:=by omega
  exact⟨_,h,hS⟩
 | _,i,j,.JD (r:=r) hr hd,hj,hS,p,h1,h2=>by
  obtain⟨ks,hks,hall⟩:=yq hE hK hd hj;obtain⟨q,hq⟩:=UD hr;have hp:(⟨q,ks⟩:eI)∈bU g w E ⟨⟨false,r.left⟩,i,j⟩:=kR.2 ⟨r,hq,rfl,rfl,hks⟩;exact hall (λx hx=>hK.closed _ hS _ hp x hx) p h1 h2
theorem yq(hE:eK g w E)(hK:mO g w E root S):∀{l:List Sym} {i j:Nat},ni g w l i j->j<=w.length->∃ks∈splits w E j l i,((∀x∈ks,x∈S)->∀p,i<=p->p<j->∃t,w[p]?=some t/\(⟨⟨true,t⟩,p,p+1⟩:Key)∈S)
 | _,i,_,.nil,hj=>⟨[],by unfold splits;simp,λ_ p h1 h2=>by omega⟩
 | _,i,j,.cons (s:=s) (l:=l) (m:=m) h1 h2,hj=>by
  obtain⟨ks,hks,hall⟩:=yq hE hK h2 hj;have him:=HT h1;have hmj:m<=j:=Fv h2;refine⟨⟨s,i,m⟩::ks,?_,λhS p hp1 hp2=>?_⟩
  ·unfold splits;refine S3.2 ⟨m,RQ.2 zo,?_⟩;rw[By ((Jv hE zo).2 h1)];exact RI.2 ⟨ks,hks,rfl⟩
  ·rcases R2 p m with h | h
   ·exact H4 hE hK h1 zo (hS _ me) p hp1 h
   ·exact hall (λx hx=>hS x (If _ hx)) p h hp2
end
end
structure vt(w:List Nat)(N:List Key)(j:Nat)(xs:List Int):Prop where
 len:xs.length=w.length
 seen:∀q k,q<j->N[q]?=some k->k.sym.term=true->xs[k.gW]?=some (k.sym.n:Int)
theorem vt.mono{w:List Nat}{N:List Key}{j:Nat}{xs:List Int}(h:vt w N j xs)(h2:∀k,N[j]?=some k->k.sym.term=false):vt w N (j+1) xs:=
 ⟨h.len,λq k hq hk ht=>by
  rcases R2 q j with h3 | h3
  ·exact h.seen q k h3 hk ht
  ·obtain rfl:q=j:=by omega
   rw[h2 k hk] at ht;cases ht⟩
theorem DQ{g:ai}{w:List Nat}{E E':List (List Nat)}(h:eK g w E)(h':eK g w E'):E=E':=by
 exact O1
structure RA where
 O:List Int
 B:List (Nat×aE)
 again:Bool
structure FV(g:ai)(w:List Nat)(F:ar)(a:Option Addr)(n c:Nat)(r:Int):Prop where
 res:∃E,eK g w E/\fw g w E F (.tuple ⟨[.agg ⟨[.slice a n c,.int .i64 r]⟩,.int .i64 0]⟩)
theorem FV.mono{g:ai}{w:List Nat}{F G:ar}{a:Option Addr}{n c:Nat}{r:Int}(h:FV g w F a n c r)(hF:ar.le F G):FV g w G a n c r:=by
 obtain⟨E,hE,h⟩:=h.res;refine⟨E,hE,?_⟩;rcases h with ⟨s,xa,xn,xc,xr,h1,h2,h3,h4⟩ | ⟨h1,_⟩
 ·exact .inl ⟨s,xa,xn,xc,xr,h1,h2,h3.mono hF,h4⟩
 ·cases h1
theorem FV.cases{g:ai}{w:List Nat}{F:ar}{a:Option Addr}{n c:Nat}{r:Int}(h:FV g w F a n c r):∃E,eK g w E/\pk g w E F (.agg ⟨[.slice a n c,.int .i64 r]⟩):=by
 obtain⟨E,hE,h⟩:=h.res;rcases h with ⟨s,xa,xn,xc,xr,h1,h2,h3,h4⟩ | ⟨h1,_⟩
 ·cases h2;exact⟨E,hE,h3⟩
 ·cases h1
structure Rt where
 k:Nat
 x:Nat
 y:Nat
theorem Ht(F:ar):Abs.Spec CC 254 [.slice none 0 0,.int .i64 0,.int .i64 0] F [[]] λ_ v o=>∃B',o=[B']/\B'=[]:=by
 refine Abs.Spec.fn (n:=49) Tryz.func254 rfl rfl λown=>?_;refine aw ?_;refine AW.block ?_;refine AW.cm (S:=Unit) (λ_=>[]) (λ_=>_) (λ_ _=>True) (λ_=>0) () sM oR trivial ?_;intro _ F1 hF1 _;refine aw ?_;refine AW.cond Z (λh=>(by cases h)) (λ_=>?_);refine AW.exit ?_;exact⟨_,[_],rfl,bY,_,rfl,rfl⟩
abbrev yD(g:Nat)(args:List Value)(F:ar)(B B':List (Nat×aE)):Prop:=Abs.Spec CC g args F [B] λ_ v o=>∃B1,o=[B1]/\B1=B'
theorem yl(F:ar){a:Option Addr}{n c:Nat}(hn:n<=12){B B':List (Nat×aE)}(h:yD 254 [.slice a n c,.int .i64 0,.int .i64 (n:Nat)] F B B')(lim:Value) :
  yD 223 [.slice a n c,.int .i64 0,.int .i64 (n:Nat),lim] F B B':=by
 unfold yD;refine Abs.Spec.fn (n:=134) Tryz.func223 rfl rfl λown=>?_;refine aw ?_;refine AW.block ?_;refine AW.cm (S:=Unit) (λ_=>[]) (λ_=>_) (λ_ G=>G=F) (λ_=>0) () sM oR Z ?_;intro _ F1 hF1 hG;subst hG;refine AW.block ?_;refine aw ?_;refine AW.cond Z (λ_=>?_) (λhd=>(by simp at hd;omega));refine aw ?_;refine WT.cW 0 Tryz.func254 Z Z Z Z Z Z Z (λ_=>rfl) h (λF2 v B2 hF2 hv=>?_);subst hv;refine aw ?_;exact AW.ret ⟨_,[_],rfl,bY,_,rfl,rfl⟩
theorem w6(F:ar){a:Option Addr}{n c:Nat}(hn:n<=12){B B':List (Nat×aE)}(h:yD 254 [.slice a n c,.int .i64 0,.int .i64 (n:Nat)] F B B') :
  yD 198 [.slice a n c] F B B':=by
 unfold yD;refine Abs.Spec.fn (n:=11) Tryz.func198 rfl rfl λown=>?_;refine aw ?_;refine WT.conv hT (k2:=.u64) Z Z Z Z Z Z Z Z (iq zo) ?_
 refine WT.a6 Tryz.func174 Z Z Z Z Z Z (sT _ n zo) (λv hv=>?_);subst hv;refine WT.cW 0 Tryz.func223 Z Z Z Z Z Z Z (λ_=>rfl) (yl F hn h _) (λF2 v B2 hF2 hv=>?_);subst hv;refine aw ?_;exact⟨_,[_],rfl,bY,_,rfl,rfl⟩
def Q5:Go.Shelf.Ren:=⟨λ| 189=>198 | 125=>174 | 257=>223 | 128=>213 | 129=>214 | 294=>254 | 295=>255 | 296=>256 | 297=>257 | 298=>258 | 299=>259 | 216=>260 | 300=>261 | 301=>262 | 328=>276 | 329=>237 | 330=>238 | 331=>277 | 332=>278 | 215=>175 | 343=>283 | n=>n,λ| 28=>22 | 3=>3 | 46=>298 | 0=>0 | 51=>182 | 53=>354 | 4=>4 | 183=>348 | 182=>347 | 131=>253 | 5=>5 | 9=>9 | 218=>378 | 222=>382 | 228=>403 | 229=>404 | n=>n,λn=>n⟩
theorem N8:Lays.n189 Tryz.prog Q5 where
 mixed:=by kernel_rfl
 f125:=Tryz.func174.trans (congrArg some (by kernel_rfl))
 f128:=Tryz.func213.trans (congrArg some (by kernel_rfl))
 f129:=Tryz.func214.trans (congrArg some (by kernel_rfl))
 f189:=Tryz.func198.trans (congrArg some (by kernel_rfl))
 f215:=Tryz.func175.trans (congrArg some (by kernel_rfl))
 f216:=Tryz.func260.trans (congrArg some (by kernel_rfl))
 f257:=Tryz.func223.trans (congrArg some (by kernel_rfl))
 f294:=Tryz.func254.trans (congrArg some (by kernel_rfl))
 f295:=Tryz.func255.trans (congrArg some (by kernel_rfl))
 f296:=Tryz.func256.trans (congrArg some (by kernel_rfl))
 f297:=Tryz.func257.trans (congrArg some (by kernel_rfl))
 f298:=Tryz.func258.trans (congrArg some (by kernel_rfl))
 f299:=Tryz.func259.trans (congrArg some (by kernel_rfl))
 f300:=Tryz.func261.trans (congrArg some (by kernel_rfl))
 f301:=Tryz.func262.trans (congrArg some (by kernel_rfl))
 f328:=Tryz.func276.trans (congrArg some (by kernel_rfl))
 f329:=Tryz.func237.trans (congrArg some (by kernel_rfl))
 f330:=Tryz.func238.trans (congrArg some (by kernel_rfl))
 f331:=Tryz.func277.trans (congrArg some (by kernel_rfl))
 f332:=Tryz.func278.trans (congrArg some (by kernel_rfl))
 f343:=Tryz.func283.trans (congrArg some (by kernel_rfl))
 t0:=Tryz.underlying0
 a0:=Tryz.isAgg0
 z0:=Tryz.sizeOf0
 v0:=Tryz.zeroValue0
 t3:=Tryz.underlying3
 a3:=Tryz.isAgg3
 z3:=Tryz.sizeOf3
 v3:=Tryz.zeroValue3
 t4:=Tryz.underlying4
 a4:=Tryz.isAgg4
 z4:=Tryz.sizeOf4
 v4:=Tryz.zeroValue4
 t5:=Tryz.underlying5
 a5:=Tryz.isAgg5
 z5:=Tryz.sizeOf5
 v5:=Tryz.zeroValue5
 t9:=Tryz.underlying9
 a9:=Tryz.isAgg9
 z9:=Tryz.sizeOf9
 v9:=Tryz.zeroValue9
 t28:=Tryz.underlying22
 a28:=Tryz.isAgg22
 z28:=Tryz.sizeOf22
 v28:=Tryz.zeroValue22
 t46:=Tryz.underlying298
 a46:=Tryz.isAgg298
 z46:=Tryz.sizeOf298
 v46:=Tryz.zeroValue298
 t51:=Tryz.underlying182
 a51:=Tryz.isAgg182
 z51:=Tryz.sizeOf182
 v51:=Tryz.zeroValue182
 t53:=Tryz.underlying354
 a53:=Tryz.isAgg354
 z53:=Tryz.sizeOf354
 v53:=Tryz.zeroValue354
 t131:=Tryz.underlying253
 a131:=Tryz.isAgg253
 z131:=Tryz.sizeOf253
 v131:=Tryz.zeroValue253
 t182:=Tryz.underlying347
 a182:=Tryz.isAgg347
 z182:=Tryz.sizeOf347
 v182:=Tryz.zeroValue347
 t183:=Tryz.underlying348
 a183:=Tryz.isAgg348
 z183:=Tryz.sizeOf348
 v183:=Tryz.zeroValue348
 t218:=Tryz.underlying378
 a218:=Tryz.isAgg378
 z218:=Tryz.sizeOf378
 v218:=Tryz.zeroValue378
 t222:=Tryz.underlying382
 a222:=Tryz.isAgg382
 z222:=Tryz.sizeOf382
 v222:=Tryz.zeroValue382
 t228:=Tryz.underlying403
 a228:=Tryz.isAgg403
 z228:=Tryz.sizeOf403
 v228:=Tryz.zeroValue403
 t229:=Tryz.underlying404
 a229:=Tryz.isAgg404
 z229:=Tryz.sizeOf404
 v229:=Tryz.zeroValue404
def ry(xs:List Nat):List Nat:=xs.mergeSort λx y=>decide (x<=y)
theorem ME(xs:List Nat):cA (xs.map λx:Nat=>(x:Int))=(ry xs).map λx:Nat=>(x:Int):=by
 unfold cA ry;exact(List.map_mergeSort λa _ b _=>by simp).symm
theorem Nn{F:ar}{xs:List Nat}{cs:List Value}(h:aH dD F cs xs):cs=xs.map ci:=by
 induction h with
 | nil=>rfl
 | cons h _ ih=>obtain rfl:_=_:=h;rw[ih];rfl
theorem ov{F:ar}:∀xs:List Nat,aH dD F (xs.map ci) xs
 | []=>.nil
 | x::xs=>.cons (l:=[ci x]) rfl (ov xs)
theorem IY(ok:CC.Ok Tryz.prog)(fok:bS CC Tryz.prog)(F:ar){a:Option Addr}{m c:Nat}{B:List (Nat×aE)}{xs:List Nat}(hb:dR dD F a m c B xs)(h0:xs=[]->a=none)(hm:xs.length<=1000000) :
  cJ CC Tryz.prog 198 [.slice a m c] F [B] λF' v o=>∃B',o=[B']/\dR dD F' a m c B' (ry xs):=by
 have hl:=hb.len;rcases hb.at_ with ⟨rfl,rfl,rfl,rfl⟩ | ⟨i,cs,rfl,rfl,rfl,h1,h2⟩
 ·obtain rfl:m=0:=hl;refine cJ.mono (cJ.Kx ok fok (w6 F (n:=0) (by decide) (Ht F))) λF' v o _ h=>?_;obtain⟨B1,rfl,rfl⟩:=h;exact⟨[],rfl,by unfold ry;rw[List.mergeSort_nil];exact dR.gz _ _⟩
 ·have hne:xs≠[]:=λe=>by cases h0 e
  obtain rfl:=Nn h1;have hx:(xs.map ci:List Value)=((xs.map λx:Nat=>(x:Int)).map (Value.int .i64))++[]:=by simp
  have hlen:(xs.map λx:Nat=>(x:Int)).length=m:=by rw[RL,hl]
  have hp:0<xs.length:=List.length_pos_iff.2 hne;have:=cJ.IA (C:=CC) N8 (f:=198) rfl F i (xs.map λx:Nat=>(x:Int)) [] zo zo;rw[hlen,<-hx] at this;refine cJ.mono this λF' v o _ h=>?_;obtain⟨rfl,rfl⟩:=h;refine⟨_,rfl,?_,.inr ⟨i,_,rfl,rfl,rfl,?_,h2⟩⟩
  ·unfold ry;rw[List.length_mergeSort];exact hl
  ·rw[ME,Sq,Ti];exact ov _
structure H6(s:iG)(pos:Nat)(seen:List Nat)(a:Option Addr)(xs:List Nat):Prop where
 nd:xs.Nodup
 mem:∀z,z∈xs↔∃i∈seen,∃e,s.es[i]?=some e/\e.1=(pos,z)
 qL:xs.length<=seen.length
 sn:seen.Nodup
 sl:∀i∈seen,i<s.es.length
 no:xs=[]->a=none
theorem H6.le{s:iG}{pos:Nat}{seen:List Nat}{a:Option Addr}{xs:List Nat}(h:H6 s pos seen a xs):xs.length<=s.es.length:=by
 have:=iN (m:=List.range s.es.length) h.sn λi hi=>RQ.2 (h.sl i hi);rw[S0] at this;exact AI h.qL this
theorem H6.skip{s:iG}{pos:Nat}{seen:List Nat}{a:Option Addr}{xs:List Nat}(h:H6 s pos seen a xs){i:Nat}{e:Nd×Nat×List Nd}(he:s.es[i]?=some e)(hi:i∉seen)(hne:e.1.1≠pos):H6 s pos (i::seen) a xs where
 nd:=h.nd
 mem:=λz=>by
  rw[h.mem];constructor
  ·rintro⟨j,h1,h2⟩;exact⟨j,If _ h1,h2⟩
  ·rintro⟨j,h1,e',h2,h3⟩;rcases R0.1 h1 with rfl | h1
   ·rw[he] at h2;cases h2;exact absurd (congrArg Prod.fst h3) hne
   ·exact⟨j,h1,e',h2,h3⟩
 qL:=Nat.le_succ_of_le h.qL
 sn:=SM.2 ⟨hi,h.sn⟩
 sl:=λj hj=>by
  rcases R0.1 hj with rfl | hj
  ·exact(gS he).1
  ·exact h.sl j hj
 no:=h.no
theorem H6.take{s:iG}{pos:Nat}{seen:List Nat}{a a':Option Addr}{xs:List Nat}(h:H6 s pos seen a xs)(hnd:(aU s.abs).Nodup){i:Nat}{e:Nd×Nat×List Nd}(he:s.es[i]?=some e)(hi:i∉seen)(heq:e.1.1=pos):H6 s pos (i::seen) a' (xs++[e.1.2]) where
 nd:=by
  rw[S5];refine⟨h.nd,by simp,λx hx y hy hxy=>?_⟩;obtain rfl:=RK.1 hy;subst hxy;obtain⟨j,h1,e',h2,h3⟩:=(h.mem _).1 hx;have hk:(aU s.abs)[i]?=(aU s.abs)[j]?:=by
   unfold aU iG.abs;simp only[RM,he,h2,Sp];congr 1;rw[h3];exact Prod.ext heq rfl
  have hlt:i<(aU s.abs).length:=by
   unfold aU iG.abs;simpa using (gS he).1
  exact hi (by rw[(List.getElem?_inj hlt hnd).1 hk];exact h1)
 mem:=λz=>by
  rw[R5,RK,h.mem];constructor
  ·rintro(⟨j,h1,h2⟩ | rfl)
   ·exact⟨j,If _ h1,h2⟩
   ·exact⟨i,RR ..,e,he,Prod.ext heq rfl⟩
  ·rintro⟨j,h1,e',h2,h3⟩;rcases R0.1 h1 with rfl | h1
   ·rw[he] at h2;cases h2;exact .inr (congrArg Prod.snd h3).symm
   ·exact .inl ⟨j,h1,e',h2,h3⟩
 qL:=by rw[RP,R4];exact Nat.succ_le_succ h.qL
 sn:=SM.2 ⟨hi,h.sn⟩
 sl:=λj hj=>by
  rcases R0.1 hj with rfl | hj
  ·exact(gS he).1
  ·exact h.sl j hj
 no:=λe=>by simp at e
theorem H6.Qf{s:iG}{pos:Nat}{seen:List Nat}{a:Option Addr}{xs:List Nat}(h:H6 s pos seen a xs)(hall:∀i,i<s.es.length->i∈seen):nR s.abs pos (ry xs) where
 sorted:=by
  have h1:(ry xs).Pairwise (·<=·):=(List.pairwise_mergeSort (le:=λx y=>decide (x<=y)) (λa b c h1 h2=>by simp at h1 h2 ⊢;omega) (λa b=>by simp;omega) xs).imp λh=>by simpa using h
  have h2:(ry xs).Nodup:=(List.mergeSort_perm xs _).nodup_iff.2 h.nd;exact(h1.and h2).imp λh=>by omega
 mem:=λz=>by
  unfold ry;rw[(List.mergeSort_perm xs _).mem_iff,h.mem];unfold aU iG.abs;rw[Ti];constructor
  ·rintro⟨i,_,e,h1,h2⟩;exact RI.2 ⟨e,gM h1,h2⟩
  ·intro hz;obtain⟨e,h1,h2⟩:=RI.1 hz;obtain⟨i,hi,rfl⟩:=SJ h1;exact⟨i,hall i hi,_,gE hi,h2⟩
theorem tW(ok:CC.Ok Tryz.prog)(fok:bS CC Tryz.prog)(F:ar){is:Nat}{ro:Bool}{x0 x1 x2 x3:Value}(s:iG)(hi:F is=some (.cells ro [x0,x1,x2,x3,.map (some s.oi)]))(hnd:(aU s.abs).Nodup)(hfew:s.es.length<=1000000)(pos:Nat) :
  cJ CC Tryz.prog 162 [.pointer (some ⟨is,0,none⟩),.int .i64 pos] F [s.B] λF' v o=>∃L a n c,o=[s.B]/\nR s.abs pos L/\v=.slice a n c/\bj dD F' a n c L:=by
 refine cJ.fn (n:=28) ok Tryz.func162 rfl rfl λown=>?_;refine bl.dp ok fok ?_;refine aj ?_;refine bl.dp ok fok ?_;refine aj ?_;refine bl.seq (bl.rangeMap ok fok [_,_,_,_] Z Z Z Z Z Z Z Z Z Z Z Z Z Z Z ?_);refine er.rV ok fok ?_;refine aj ?_;refine⟨s.oi,aG kx s.outer,λii seen k' F' aB=>∃xs a m c B,bI [(11,.pointer (some ⟨ii,0,none⟩)),(0,.pointer (some ⟨is,0,none⟩)),(1,.int .i64 pos),(5,.slice a m c)] k'/\ah (B::s.B::own) aB/\dR dD F' a m c B xs/\H6 s pos seen a xs,?_⟩
 refine⟨rfl,⟨_,_,dZ hT rfl rfl⟩,λp hp=>?_,λii=>⟨[],none,0,0,[],sM,ah.flat (NO _),dR.gz _ _,⟨T7,λz=>by simp,AS _,T7,λi hi=>(by cases hi),λ_=>rfl⟩⟩,λii seen k' F' aB ⟨xs,a,m,c,B,h1,_⟩=>h1 11 _ rfl,λii seen k' F' aB ⟨xs,a,m,c,B,_,h2,_⟩ h hs=>?_,λii seen k' F' aB hF ⟨xs,a,m,c,B,h1,h2,h3,h4⟩ i p hp hns=>?_,λii seen k' F' aB hF ⟨xs,a,m,c,B,h1,h2,h3,h4⟩ hall=>?_⟩
 ·obtain⟨y,hy,rfl⟩:=RI.1 hp;rfl
 ·exact St.has (p:=1) (hs.le h2) rfl me
 ·obtain⟨e,he,rfl⟩:∃e,s.es[i]?=some e/\p=(kx.key e.1,.map (some e.2.1)):=by
   unfold aG iG.outer at hp;rw[RM,RM] at hp;cases hm:s.es[i]? with
   | none=>rw[hm] at hp;cases hp
   | some x=>rw[hm] at hp;cases hp;exact⟨x,rfl,rfl⟩
  have hlen:=h3.len;have hle:=h4.le;refine er.weaken (k2:=[(14,.tuple ⟨[.agg ⟨[.int .i64 e.1.1,.int .i64 e.1.2]⟩,.map (some e.2.1)]⟩),(0,.pointer (some ⟨is,0,none⟩)),(1,.int .i64 pos),(5,.slice a m c),(11,.pointer (some ⟨ii,0,none⟩))]) (bI.cons rfl (bI.cons (h1 0 _ rfl) (bI.cons (h1 1 _ rfl) (bI.cons (h1 5 _ rfl) (bI.cons (h1 11 _ rfl) (bI.nil _)))))) ?_;refine er.le h2 (er.rV ok fok ?_);refine aj ?_;refine WT.aK hT Z Z Z Z Z Z (λi6 hi6=>?_);refine aj ?_;refine bl.gC ok fok (AW.seq (AW.dp ?_));refine aj ?_;refine AW.cond Z (λhc=>?_) (λhc=>?_)
  ·have hc:e.1.1=pos:=by simp at hc;omega
   refine aj ?_;refine WT.be hT Z Z Z Z Z Z Z Z Z Z Z Z Z Z (λi23 hi23=>?_);refine WT.bX (R:=dD) (ys:=[e.1.2]) hT 2 h3 Z (λ_=>rfl) Z Z Z Z Z Z Z Z Z Z Z (λh0 s0=>bw hT s0 0 Z Z Z Z) (aH.single (R:=dD) (x:=e.1.2) rfl) Z (by decide) kF (λa3 c3 B3 hB3=>?_);refine aj ?_;exact⟨rfl,_,a3,m+1,c3,B3,sM,dH,hB3,h4.take hnd he hns hc⟩
  ·have hc:e.1.1≠pos:=by simp at hc;omega
   refine aj ?_;exact⟨rfl,xs,a,m,c,B,sM,dH,h3,h4.skip he hns hc⟩
 ·refine⟨[(0,.pointer (some ⟨is,0,none⟩)),(1,.int .i64 pos),(5,.slice a m c)],B::s.B::own,bI.cons (h1 0 _ rfl) (bI.cons (h1 1 _ rfl) (bI.cons (h1 5 _ rfl) (bI.nil _))),h2,?_⟩;have hlen:=h3.len;show bl CC Tryz.prog 28 _ _ F' _ _;refine bl.seq (bl.region (er.take ok fok 1 ?_));refine aj ?_;refine er.call ok rfl (λ_=>rfl) (IY ok fok F' h3 h4.no (by have:=h4.le;omega)) (NO _) (λF2 v o hF2 hv=>?_);obtain⟨B2,rfl,hb2⟩:=hv;refine er.nil ?_;refine bl.gC ok fok ?_;refine aj ?_;refine AW.ay 0 Z Z (λF3 hF3 hB3=>?_);have hfz:=hb2.frozen hF3 hB3
  exact AW.ret ⟨_,[s.B],⟨_,_,rfl,rfl,rfl⟩,bY,_,_,_,_,rfl,h4.Qf (λi hi=>hall i (by unfold aG iG.outer;simpa using hi)),rfl,hfz⟩
structure Rk where
 id:Nat
 l:List Nd
theorem Hd(ok:CC.Ok Tryz.prog)(fok:bS CC Tryz.prog)(F:ar){is:Nat}{ro:Bool}{x0 x1 x2 x3:Value}(s:iG)(hi:F is=some (.cells ro [x0,x1,x2,x3,.map (some s.oi)]))(hcl:∀x y,y∈bq s.abs x->y∈aU s.abs)(n:Nd)(hn:n∈aU s.abs)(deep:Nat)(hd:deep<=1000) :
  cJ CC Tryz.prog 163 [.pointer (some ⟨is,0,none⟩),nd n,.int .i64 deep] F [s.B] λF' v o=>∃id l,o=[[(id,nm l)],s.B]/\v=.map (some id)/\l.Nodup/\∀x,x∈l↔Dl s.abs deep n x:=by
 have hkey:∀d x,Dl s.abs d n x->x∈aU s.abs:=λd=>by
  induction d with
  | zero=>intro x h;obtain rfl:x=n:=h;exact hn
  | succ d ih=>rintro x ⟨z,h1,h2⟩;exact hcl _ _ h2
 have hat:∀x∈aU s.abs,∃j id l,s.At x j id l:=λx hx=>by
  rcases qj x s.es with ⟨h1,h2⟩ | ⟨a,b,id,l,h1,h2,h3⟩
  ·exfalso;refine h2 ?_;unfold aU iG.abs at hx;simpa using hx
  ·exact⟨_,_,_,iG.JF h1 h2 h3⟩
 refine cJ.fn (n:=34) ok Tryz.func163 rfl rfl λown=>?_;refine bl.dp ok fok ?_;refine WT.cy Z Z Z Z Z Z (λi4 hi4=>?_);refine aj ?_;refine bl.dp ok fok ?_;refine WT.makeMap Z Z Z Z (λi10 hi10=>?_);refine aj ?_;refine WT.Ad kx (key:=n) (m:=[]) hT 0 0 Z Z Z Z Z Z Z Z Z Z Z Z ?_;rw[show dC ([]:cQ Nd) n (.bool true)=mw [n] from rfl];refine aj ?_;refine bl.seq (bl.dp ok fok ?_);refine aj ?_
 refine bl.range ok fok (S:=Rk) (λu=>[(7,.map (some u.id))]) (λu=>[(u.id,nm u.l)]::[(i4,.cells false [.int .i64 n.1,.int .i64 n.2])]::s.B::own) (λj u G=>u.l.Nodup/\∀x,x∈u.l↔Dl s.abs j n x) deep ⟨i10,[n]⟩
  Z Z Z Z Z Z Z Z Z zo rfl rfl (λ_=>rfl) (λ_=>rfl) sM (ah.flat (NO _)) ⟨by simp,λx=>RK⟩ ?_ ?_
 ·intro j u F1 hF1 hj hI;obtain⟨hnd,hmem⟩:=hI;have hi1:=hF1 _ _ hi;refine bl.dp ok fok ?_;refine WT.makeMap Z Z Z Z (λi16 hi16=>?_);refine aj ?_;refine bl.seq (bl.rangeMap ok fok [_] Z Z Z Z Z Z Z Z Z Z Z Z Z Z Z ?_);refine er.rV ok fok ?_;refine aj ?_
  refine⟨u.id,aG kx (mw u.l),_,CM.of (S:=List Nd) (λ_=>[]) (λl=>[(i16,nm l)]::s.B::[(u.id,nm u.l)]::[(i4,.cells false [.int .i64 n.1,.int .i64 n.2])]::own) (λseen l F=>l.Nodup/\∀x,x∈l↔∃i∈seen,∃z,u.l[i]?=some z/\x∈bq s.abs z) [] rfl ⟨_,_,dZ hT rfl rfl⟩ (λp hp=>?_) rfl rfl (λ_=>⟨rfl,rfl,rfl,rfl⟩) sM (ah.flat (Ub (List.Perm.cons _ (cd (p:=2) rfl)))) ⟨T7,λx=>by simp⟩ (λseen l F hI h hs=>St.has (p:=2) hs rfl me) (λii seen l F2 hF2 hI i p hp hns=>?_) (λseen l F2 hF2 hI hall=>?_)⟩
  ·obtain⟨y,hy,rfl⟩:=RI.1 hp;rfl
  ·obtain⟨hln,hlm⟩:=hI;obtain⟨z,hz,rfl⟩:∃z,u.l[i]?=some z/\p=(kx.key z,.bool true):=by
    unfold aG mw at hp;rw[RM,RM] at hp;cases hm:u.l[i]? with
    | none=>rw[hm] at hp;cases hp
    | some x=>rw[hm] at hp;cases hp;exact⟨x,rfl,rfl⟩
   obtain⟨jz,idz,lz,hA⟩:=hat z (hkey j z ((hmem z).1 (gM hz)));have hi2:=hF2 _ _ hi1;have hlk:(Abs.look s.outer z).getD (.map none)=.map (some idz):=by rw[hA.look];rfl
   refine er.weaken (k2:=(21,.tuple ⟨[.agg ⟨[.int .i64 z.1,.int .i64 z.2]⟩,.bool true]⟩)::_) (λ_ _ h=>h) (er.rV ok fok ?_);refine aj ?_;refine WT.aK hT Z Z Z Z Z Z (λi9 hi9=>?_);refine aj ?_;refine bl.JH ok fok [_,_,_,_,_,_,_] Z Z Z ?_;refine aj ?_;refine WT.jQ kx (key:=z) (m:=s.outer) hT 2 Z Z Z Z Z Z Z me Z Z Z ?_;rw[hlk];refine aj ?_;refine er.call ok rfl (λ_=>rfl) (DN ok fok F2 hA.mem hln) ((cd (p:=1) rfl).trans ((cd (p:=1) rfl).cons _)) (λF3 v o hF3 hv=>?_);obtain⟨l2,rfl,hl2,hm2⟩:=hv;refine er.nil ?_
   refine⟨rfl,l2,sM,ah.cons _ (ah.cons _ (ah.skip [(i9,_)] oR)),hl2,λx=>?_⟩;rw[hm2,hlm,<-hA.below];constructor
   ·rintro(⟨i',h1,h2⟩ | h1)
    ·exact⟨i',If _ h1,h2⟩
    ·exact⟨i,RR ..,z,hz,h1⟩
   ·rintro⟨i',h1,z',h2,h3⟩;rcases R0.1 h1 with rfl | h1
    ·rw[hz] at h2;cases h2;exact .inr h3
    ·exact .inl ⟨i',h1,z',h2,h3⟩
  ·obtain⟨hln,hlm⟩:=hI;refine bl.gC ok fok (AW.dp ?_);refine aj ?_;refine⟨⟨i16,l⟩,sM,ah.cons _ ((ah.skip [(u.id,nm u.l)] oR).trans (ah.perm (T5 (l₁:=[_,_])).symm)),hln,λx=>?_⟩;rw[hlm];constructor
   ·rintro⟨i,_,z,h1,h2⟩;exact⟨z,(hmem z).1 (gM h1),h2⟩
   ·rintro⟨z,h1,h2⟩;obtain⟨i,hi,rfl⟩:=SJ ((hmem z).2 h1);exact⟨i,hall i (by unfold aG mw;simpa using hi),_,gE hi,h2⟩
 ·intro u F1 hF1 hI;obtain⟨hnd,hmem⟩:=hI;refine bl.gC ok fok ?_;refine aj ?_;refine AW.le (ah.cons _ (ah.skip _ oR)) ?_;exact AW.ret ⟨_,[[(u.id,nm u.l)],s.B],⟨_,_,rfl,rfl,rfl⟩,Sk _,u.id,u.l,rfl,rfl,hnd,hmem⟩
def Min(g:ai)(w:List Nat)(s:Sym)(T:Tree)(i j:Nat):Prop:=bD g w s T i j/\∀T',bD g w s T' i j->T.pre.length<=T'.pre.length
inductive NF(g:ai)(w:List Nat):List Sym->List Tree->Nat->Nat->Prop
 | nil {i:Nat}:NF g w [] [] i i
 | cons {s:Sym} {l:List Sym} {t:Tree} {ts:List Tree} {i m j:Nat}:Min g w s t i m->NF g w l ts m j->NF g w (s::l) (t::ts) i j
section
variable {g:ai}{w:List Nat}
theorem NF.of:∀{ts:List Tree} {l:List Sym} {i j:Nat},NF g w l ts i j->aI g w l ts i j
 | _,_,_,_,.nil=>.nil
 | _,_,_,_,.cons h1 h2=>.cons h1.1 (NF.of h2)
end
mutual
theorem bD.ends{g:ai}{w:List Nat}:∀{t:Tree} {s s':Sym} {i j j':Nat},bD g w s t i j->bD g w s' t i j'->j=j'
 | .mk _ _ _,_,_,_,_,_,.leaf _,h=>by
  generalize hr:(-1:Int)=r at h;cases h with
  | leaf _=>rfl
  | node _ _=>omega
 | .mk _ _ ks,_,_,_,_,_,.node (k:=k) h h2,h'=>by
  generalize hr:(k:Int)=r at h';cases h' with
  | leaf _=>omega
  | node _ h3=>exact aI.ends h2 h3
theorem aI.ends{g:ai}{w:List Nat}:∀{ts:List Tree} {l l':List Sym} {i j j':Nat},aI g w l ts i j->aI g w l' ts i j'->j=j'
 | [],_,_,_,_,_,.nil,h=>by cases h;rfl
 | t::ts,_,_,_,_,_,.cons h1 h2,h=>by
  cases h with
  | cons h3 h4=>
   obtain rfl:=bD.ends h1 h3;exact aI.ends h2 h4
end
mutual
theorem bD.EY{g:ai}{w:List Nat}:∀{t:Tree} {s:Sym} {i j:Nat},bD g w s t i j->qF g w s i j
 | .mk _ _ _,_,_,_,.leaf h=>.term h
 | .mk _ _ ks,_,_,_,.node h h2=>.JD (gM h) (aI.EY h2)
theorem aI.EY{g:ai}{w:List Nat}:∀{ts:List Tree} {l:List Sym} {i j:Nat},aI g w l ts i j->ni g w l i j
 | [],_,_,_,.nil=>.nil
 | t::ts,_,_,_,.cons h1 h2=>.cons (bD.EY h1) (aI.EY h2)
end
section
variable {g:ai}{w:List Nat}
end
structure Rr where
 xs:List Bool
 a:Option Addr
 m:Nat
 c:Nat
 B:List (Nat×aE)
structure DS where
 i:Nat
 j:Nat
 ys:List bW
 B:List (Nat×aE)
structure NI where
 ic:Nat
 ra:Option Addr
 rm:Nat
 rc:Nat
structure Kp where
 k:Nat
 c6:List (List Item)
 last:List Item
 sa:Option Addr
 sc:Nat
 BS:List (Nat×aE)
 vs:List Value
 la:Option Addr
 lc:Nat
 BL:List (Nat×aE)
 us:List Value
 im:Nat
 es:cQ Item
 xa:Option Addr
 xn:Nat
 xc:Nat
 BX:List (Nat×aE)
structure QH(g:ai)(Q:Nat->Item->Prop):Prop where
 ok:∀k x,Q k x->AE g.rules k x
 Pb:∀k x n i r,Q k x->qm g.rules x=some ⟨false,n⟩->g.rules[i]?=some r->r.left=n->Q k ⟨i,0,k⟩
 complete:∀k x y r,Q k x->g.rules[x.az]?=some r->x.dot=r.right.length->Q x.gW y->qm g.rules y=some ⟨false,r.left⟩->Q k (vK y)
structure O9(g:ai)(Q:Nat->Item->Prop)(q:NI)(F:ar)(s:Kp):Prop where
 rules:bj cC F q.ra q.rm q.rc g.rules
 sD:dR xC F s.sa (s.k+1) s.sc s.BS (s.vs++[.map (some s.im)])
 list:dR xC F s.la (s.k+1) s.lc s.BL (s.us++[.slice s.xa s.xn s.xc])
 QJ:s.us.length=s.k
 Px:s.c6.length=s.k
 M6:∀(j:Nat) (l:List Item),s.c6[j]?=some l->∃a n c,s.us[j]?=some (.slice a n c)/\bj HM F a n c l
 map:∀y,Abs.look s.es y=if y∈s.last then some (.bool true) else none
 last:dR HM F s.xa s.xn s.xc s.BX s.last
 nodup:s.last.Nodup
 P9:∀(j:Nat) (l:List Item),s.c6[j]?=some l->∀x∈l,Q j x
 O8:∀x∈s.last,Q s.k x
 small:s.k<=20
 MY:∀(j:Nat) (l:List Item),s.c6[j]?=some l->l.length<=3360
 Om:∀(j:Nat) (l:List Item),s.c6[j]?=some l->l.Nodup
theorem O9.mono{g:ai}{Q:Nat->Item->Prop}{q:NI}{F G:ar}{s:Kp}(h:O9 g Q q F s)(hF:ar.le F G):O9 g Q q G s:=
 ⟨h.rules.mono hF,h.sD.mono hF,h.list.mono hF,h.QJ,h.Px,λj l hj=>by obtain⟨a,n,c,h1,h2⟩:=h.M6 j l hj;exact⟨a,n,c,h1,h2.mono hF⟩,h.map,h.last.mono hF,h.nodup,h.P9,h.O8,h.small,h.MY,h.Om⟩
structure rW(s s':Kp)(P:Item->Prop):Prop where
 k:s'.k=s.k
 c6:s'.c6=s.c6
 last:∃new,s'.last=s.last++new/\∀y∈new,P y
theorem rW.refl(s:Kp)(P:Item->Prop):rW s s P:=⟨rfl,rfl,[],by simp,λ_ h=>by cases h⟩
theorem rW.trans{s t u:Kp}{P:Item->Prop}(h1:rW s t P)(h2:rW t u P):rW s u P:=by
 obtain⟨n1,e1,p1⟩:=h1.last;obtain⟨n2,e2,p2⟩:=h2.last;refine⟨h2.k.trans h1.k,h2.c6.trans h1.c6,n1++n2,by rw[e2,e1,SL],λy hy=>?_⟩;rcases R5.1 hy with hy | hy
 ·exact p1 y hy
 ·exact p2 y hy
theorem rW.mono{s t:Kp}{P P':Item->Prop}(h:rW s t P)(hp:∀y,P y->P' y):rW s t P':=by
 obtain⟨n,e,p⟩:=h.last;exact⟨h.k,h.c6,n,e,λy hy=>hp y (p y hy)⟩
def LS(s:Kp):Nat->List Item:=λj=>if j=s.k then s.last else s.c6.getD j []
structure CI where
 s:Kp
 n:Int
structure CJ where
 s:Kp
 i:Nat
end Go.Proofs.D