/-
  Walks: what functions of the program do, over the abstract machine.
-/
import Derived.Test.YtpoochgjdeefdaaGreatDoorWk0
set_option linter.unusedVariables false
set_option maxRecDepth 20000
set_option maxHeartbeats 0
open Go Go.Abs Go.Proofs Go.Proofs.D
namespace Go.Proofs.D
structure NPack where
 rule:Nat
 kids:List Nat
deriving DecidableEq
def tNPack:Ty NPack where
 size:=2
 rel:=fun F l x=>∃a n c,l=[.int .i64 x.rule,.slice a n c]∧Arr tNat F a n c x.kids∧x.kids.length≤1000000
 len:=fun _ _ _ h=>by obtain⟨a,n,c,rfl,_⟩:=h;rfl
 one:=fun _ _ _ h=>by obtain⟨a,n,c,rfl,_⟩:=h;rfl
 mono:=fun _ _ _ _ hF h=>by obtain⟨a,n,c,e,h,hb⟩:=h;exact⟨a,n,c,e,h.mono hF,hb⟩
def cmpNPack(x y:NPack):Int:=orInt [cmpInt x.rule y.rule,cmpNats x.kids y.kids]
theorem npackCmp_spec(F:Frz){lx ly:List Value}(x y:NPack)(hx:tNPack.rel F lx x)(hy:tNPack.rel F ly y):Abs.Spec CC 107 [.agg ⟨lx⟩,.agg ⟨ly⟩] F [] fun _ v o=>o=[]∧v=.int .i64 (cmpNPack x y):=by
 obtain⟨xa,xn,xc,rfl,hxa,hxb⟩:=hx
 obtain⟨ya,yn,yc,rfl,hya,hyb⟩:=hy
 have hxl:=hxa.len
 have hyl:=hya.len
 refine Abs.Spec.fn (n:=17) Tryz.func107 rfl rfl fun own=>?_
 refine AW.seq (AW.reg ?_)
 refine WT.boxT Z Z Z Z Z Z (fun i2 hi2=>?_)
 refine WT.boxT Z Z Z Z Z Z (fun i3 hi3=>?_)
 refine zB4 ?_
 refine AW.draw (ps:=[(6,4),(8,4)]) Z Z ?_
 refine zB4 ?_
 refine WT.callV Tryz.func48 Z Z Z Z Z Z (compare_spec _ _ _) (fun v hv=>?_)
 subst hv
 refine zB4 ?_
 refine WT.callV Tryz.func12 Z Z Z Z Z Z (numCompare_spec _ hxa hya zo zo) (fun v hv=>?_)
 subst hv
 skip
 refine WT.buildT hT Z Z Z Z Z Z Z Z Z Z Z Z Z Z (fun i9 hi9=>?_)
 refine WT.callLend 0 Tryz.func108 Z Z Z Z Z Z Z (fun G hG hBG=>or_spec G (l:=[cmpInt x.rule y.rule,cmpNats x.kids y.kids]) (Bld.frozen (F:=F) (B:=[(i9,.cells false [.int .i64 (cmpInt x.rule y.rule),.int .i64 (cmpNats x.kids y.kids)])]) ⟨rfl,.inr ⟨i9,_,rfl,rfl,rfl,Cells.cons (l:=[_]) Z (Cells.single (x:=cmpNats x.kids y.kids) rfl),by decide⟩⟩ hG hBG) (by decide)) (fun v hv=>?_)
 subst hv
 refine zB4 ?_
 refine⟨zrC,?_⟩
 skip
 exact AW.ret ⟨_,[],⟨_,_,rfl,rfl,rfl⟩,zsb,rfl,rfl⟩
def PSorted(xs:List NPack):Prop:=∀(i j:Nat) (x y:NPack),i<j→xs[i]?=some x→xs[j]?=some y→¬cmpNPack y x<0
theorem insP_spec(F:Frz){a0:Option Addr}{m c:Nat}{xs:List NPack}(hv:Arr tNPack F a0 m c xs)(hs:PSorted xs)(a b:Nat)(ha:a≤1000000)(hb:b≤m)(hm:m≤1000000) :
  Abs.Spec CC 144 [.slice a0 m c,.int .i64 a,.int .i64 b,.func (.func 107) ⟨[]⟩ ⟨[]⟩] F [] fun F' v o=>o=[]∧v=.tuple ⟨[]⟩:=by
 have hvl:=hv.len
 refine Abs.Spec.fn (n:=53) Tryz.func144 rfl rfl fun own=>?_
 refine zC4 ?_
 refine AW.block ?_
 refine AW.loopR (S:=Nat) (fun s=>[(8,.int .i64 (s:Nat))]) (fun s=>own) (fun s G=>a+1≤s) (fun s=>b-s) (a+1)
  sM oR (Nat.le_refl _) ?_
 intro s F1 hF1 hP
 have hv1:=hv.mono hF1
 refine zC4 ?_
 refine AW.cond Z (fun h=>?_) (fun h=>?_)
 ·have h:s<b:=by simpa using h
  refine zC4 ?_
  refine AW.block ?_
  refine zC4 ?_
  refine AW.block ?_
  refine AW.loopR (S:=Unit) (fun u=>[]) (fun u=>own) (fun u G=>True) (fun u=>0) ()
   sM oR trivial ?_
  intro u F2 hF2 _
  have hv2:=hv1.mono hF2
  refine zC4 ?_
  refine WT.split 21 Z (fun hja=>?_) (fun hja=>absurd hja (by simp;omega))
  refine zC4 ?_
  refine WT.idxL hT hv2 Z Z Z Z Z Z Z Z Z zo (fun y hy b1 off ro cs ly hb1 hp1 hrel1=>?_)
  obtain⟨ya,yn,yc,hly,hya⟩:=id hrel1
  subst hly
  refine zC4 ?_
  refine WT.idxL hT hv2 Z Z Z Z Z Z Z Z Z zo (fun x hx b2 off2 ro2 cs2 lx hb2 hp2 hrel2=>?_)
  obtain⟨xa,xn,xc,hlx,hxa⟩:=id hrel2
  subst hlx
  refine zC4 ?_
  refine WT.callC Tryz.func107 Z Z Z Z Z Z Z Z (npackCmp_spec _ y x hrel1 hrel2) (fun v hv=>?_)
  subst hv
  have hno:=hs (s-1) s x y zo hx hy
  refine zC4 ?_
  refine AW.cond Z (fun h=>absurd h (by simpa using hno)) (fun _=>?_)
  refine AW.exit ?_
  refine zC4 ?_
  exact⟨s+1,by omega,sM,OwnLe.refl _,by omega⟩
 ·have h:¬s<b:=by simpa using h
  refine AW.exit ?_
  skip
  refine⟨_,[],rfl,zsb,rfl,rfl⟩
theorem symP_spec{xs:List NPack}(hs:PSorted xs):∀(N:Nat) (F:Frz) {a0:Option Addr} {len cc:Nat} (hv:Arr tNPack F a0 len cc xs) (a m b:Nat) (hN:b-a<N) (ham:a<m) (hmb:m<b) (hb:b≤len) (hm:len≤1000000),
  Abs.Spec CC 145 [.slice a0 len cc,.int .i64 a,.int .i64 m,.int .i64 b,.func (.func 107) ⟨[]⟩ ⟨[]⟩] F [] fun F' v o=>o=[]∧v=.tuple ⟨[]⟩
 | 0,F,a0,len,cc,hv,a,m,b,hN,_,_,_,_=>absurd hN (Nat.not_lt_zero _)
 | N+1,F,a0,len,cc,hv,a,m,b,hN,ham,hmb,hb,hm=>by
  have hvl:=hv.len
  refine Abs.Spec.fn (n:=220) Tryz.func145 rfl rfl fun own=>?_
  refine zC4 ?_
  refine AW.cond Z (fun h=>?_) (fun h=>?_)
  ·have h:m=a+1:=by simp at h;omega
   refine zC4 ?_
   refine AW.block ?_
   refine AW.loopR (S:=Nat) (fun s=>[(11,.int .i64 (s:Nat))]) (fun s=>own) (fun s G=>m≤s∧s≤b) (fun s=>s) b
    sM oR ⟨by omega,Nat.le_refl _⟩ ?_
   intro s F1 hF1 hP
   have hv1:=hv.mono hF1
   obtain⟨hms,hsb⟩:=hP
   refine zC4 ?_
   refine AW.cond Z (fun h2=>?_) (fun h2=>?_)
   ·have h2:m<s:=by simpa using h2
    refine zC4 ?_
    refine AW.block ?_
    refine zC4 ?_
    refine WT.conv hT (k2:=.u64) Z Z Z Z Z Z Z Z (wrapU64 zo) ?_
    refine WT.shV Z Z Z Z Z Z (by decide) (shr64 (x:=m+s) (y:=1) (by decide)) ?_
    refine WT.conv hT (k2:=.i64) Z Z Z Z Z Z Z Z (wrap64 zo) ?_
    rw[Nat.pow_one]
    refine zC4 ?_
    refine WT.idxL hT hv1 Z Z Z Z Z Z Z Z Z zo (fun y hy b1 off ro cs ly hb1 hp1 hrel1=>?_)
    obtain⟨ya,yn,yc,hly,hya⟩:=id hrel1
    subst hly
    refine zC4 ?_
    refine WT.idxL hT hv1 Z Z Z Z Z Z Z Z Z zo (fun x hx b2 off2 ro2 cs2 lx hb2 hp2 hrel2=>?_)
    obtain⟨xa,xn,xc,hlx,hxa⟩:=id hrel2
    subst hlx
    refine zC4 ?_
    refine WT.callC Tryz.func107 Z Z Z Z Z Z Z Z (npackCmp_spec _ y x hrel1 hrel2) (fun v hv=>?_)
    subst hv
    have hno:=hs a ((m+s) / 2) x y zo hx hy
    refine zC4 ?_
    refine AW.cond Z (fun h=>absurd h (by simpa using hno)) (fun _=>?_)
    refine zC4 ?_
    exact⟨(m+s) / 2,by omega,sM,OwnLe.refl _,by omega,by omega⟩
   ·have h2:s=m:=by simp at h2;omega
    refine AW.exit ?_
    refine zC4 ?_
    refine AW.block ?_
    refine AW.loopR (S:=Unit) (fun s=>[]) (fun s=>own) (fun s G=>True) (fun s=>0) ()
     sM oR trivial ?_
    intro u F2 hF2 _
    refine zC4 ?_
    refine AW.cond Z (fun h3=>(by simp at h3;omega)) (fun _=>?_)
    refine AW.exit ?_
    skip
    exact AW.ret ⟨_,[],rfl,zsb,rfl,rfl⟩
  ·have h:m≠a+1:=by intro e;subst e;simp at h
   refine zC4 ?_
   refine AW.cond Z (fun h'=>?_) (fun h'=>?_)
   ·have h':b=m+1:=by simp at h';omega
    refine zC4 ?_
    refine AW.block ?_
    refine AW.loopR (S:=Nat) (fun s=>[(14,.int .i64 (s:Nat))]) (fun s=>own) (fun s G=>a≤s∧s≤m) (fun s=>m-s) a
     sM oR ⟨Nat.le_refl _,by omega⟩ ?_
    intro s F1 hF1 hP
    have hv1:=hv.mono hF1
    obtain⟨hms,hsb⟩:=hP
    refine zC4 ?_
    refine AW.cond Z (fun h2=>?_) (fun h2=>?_)
    ·have h2:s<m:=by simpa using h2
     refine zC4 ?_
     refine AW.block ?_
     refine zC4 ?_
     refine WT.conv hT (k2:=.u64) Z Z Z Z Z Z Z Z (wrapU64 zo) ?_
     refine WT.shV Z Z Z Z Z Z (by decide) (shr64 (x:=s+m) (y:=1) (by decide)) ?_
     refine WT.conv hT (k2:=.i64) Z Z Z Z Z Z Z Z (wrap64 zo) ?_
     rw[Nat.pow_one]
     refine zC4 ?_
     refine WT.idxL hT hv1 Z Z Z Z Z Z Z Z Z zo (fun y hy b1 off ro cs ly hb1 hp1 hrel1=>?_)
     obtain⟨ya,yn,yc,hly,hya⟩:=id hrel1
     subst hly
     refine zC4 ?_
     refine WT.idxL hT hv1 Z Z Z Z Z Z Z Z Z zo (fun x hx b2 off2 ro2 cs2 lx hb2 hp2 hrel2=>?_)
     obtain⟨xa,xn,xc,hlx,hxa⟩:=id hrel2
     subst hlx
     refine zC4 ?_
     refine WT.callC Tryz.func107 Z Z Z Z Z Z Z Z (npackCmp_spec _ y x hrel1 hrel2) (fun v hv=>?_)
     subst hv
     have hno:=hs ((s+m) / 2) m x y zo hx hy
     refine zC4 ?_
     refine AW.cond Z (fun _=>?_) (fun h=>absurd h (by simpa using hno))
     refine zC4 ?_
     exact⟨(s+m) / 2+1,by omega,sM,OwnLe.refl _,by omega,by omega⟩
    ·have h2:s=m:=by simp at h2;omega
     subst h2
     refine AW.exit ?_
     refine zC4 ?_
     refine AW.block ?_
     refine AW.loopR (S:=Unit) (fun s=>[]) (fun s=>own) (fun s G=>True) (fun s=>0) ()
      sM oR trivial ?_
     intro u F2 hF2 _
     refine zC4 ?_
     refine AW.cond Z (fun h3=>(by simp at h3)) (fun _=>?_)
     refine AW.exit ?_
     skip
     exact AW.ret ⟨_,[],rfl,zsb,rfl,rfl⟩
   ·have h':b≠m+1:=by intro e;subst e;simp at h'
    refine zC4 ?_
    refine WT.conv hT (k2:=.u64) Z Z Z Z Z Z Z Z (wrapU64 zo) ?_
    refine WT.shV Z Z Z Z Z Z (by decide) (shr64 (x:=a+b) (y:=1) (by decide)) ?_
    refine WT.conv hT (k2:=.i64) Z Z Z Z Z Z Z Z (wrap64 zo) ?_
    rw[Nat.pow_one]
    obtain⟨mid,hmid⟩:∃mid,(a+b) / 2=mid:=⟨_,rfl⟩
    rw[hmid]
    refine zC4 ?_
    refine AW.jnT (S:=Nat×Nat) (fun s=>[(20,.int .i64 (s.1:Nat)),(21,.int .i64 (s.2:Nat))]) (fun s=>own) (fun s G=>(mid<m∧s.1=mid+m-b∧s.2=mid)∨(m≤mid∧s.1=a∧s.2=m)) ?_ (fun s F1 hF1 hP=>?_)
    ·refine AW.cond Z (fun h2=>?_) (fun h2=>?_)
     ·have h2:mid<m:=by simp at h2;omega
      refine zC4 ?_
      exact⟨(mid+m-b,mid),sM,OwnLe.refl _,.inl ⟨h2,rfl,rfl⟩⟩
     ·have h2:m≤mid:=by simp at h2;omega
      refine zC4 ?_
      exact⟨(a,m),sM,OwnLe.refl _,.inr ⟨h2,rfl,rfl⟩⟩
    ·obtain⟨st,r⟩:=s
     dsimp only at hP ⊢
     have hv1:=hv.mono hF1
     have hst:st≤r:=by omega
     have hrm:r≤m∧r≤mid:=by omega
     refine zC4 ?_
     refine AW.block ?_
     refine AW.loopR (S:=Nat) (fun s=>[(20,.int .i64 (s:Nat))]) (fun s=>own) (fun s G=>st≤s∧s≤r) (fun s=>r-s) st
      sM oR ⟨Nat.le_refl _,hst⟩ ?_
     intro u F2 hF2 hP2
     obtain⟨hu1,hu2⟩:=hP2
     have hv2:=hv1.mono hF2
     refine zC4 ?_
     refine AW.cond Z (fun h2=>?_) (fun h2=>?_)
     ·have h2:u<r:=by simpa using h2
      refine zC4 ?_
      refine AW.block ?_
      refine zC4 ?_
      refine WT.conv hT (k2:=.u64) Z Z Z Z Z Z Z Z (wrapU64 zo) ?_
      refine WT.shV Z Z Z Z Z Z (by decide) (shr64 (x:=u+r) (y:=1) (by decide)) ?_
      refine WT.conv hT (k2:=.i64) Z Z Z Z Z Z Z Z (wrap64 zo) ?_
      rw[Nat.pow_one]
      obtain⟨cx,hcx⟩:∃cx,(u+r) / 2=cx:=⟨_,rfl⟩
      rw[hcx]
      have hc1:u≤cx∧cx<r:=by omega
      refine zC4 ?_
      refine WT.idxL hT hv2 Z Z Z Z Z Z Z Z Z zo (fun y hy b1 off ro cs ly hb1 hp1 hrel1=>?_)
      obtain⟨ya,yn,yc,hly,hya⟩:=id hrel1
      subst hly
      refine zC4 ?_
      refine WT.idxL hT hv2 Z Z Z Z Z Z Z Z Z zo (fun x hx b2 off2 ro2 cs2 lx hb2 hp2 hrel2=>?_)
      obtain⟨xa,xn,xc,hlx,hxa⟩:=id hrel2
      subst hlx
      refine zC4 ?_
      refine WT.callC Tryz.func107 Z Z Z Z Z Z Z Z (npackCmp_spec _ y x hrel1 hrel2) (fun v hv=>?_)
      subst hv
      have hno:=hs cx _ x y zo hx hy
      refine zC4 ?_
      refine AW.cond Z (fun _=>?_) (fun h=>absurd h (by simpa using hno))
      refine zC4 ?_
      exact⟨cx+1,by omega,sM,OwnLe.refl _,by omega,by omega⟩
     ·have h2:u=r:=by simp at h2;omega
      subst h2
      refine AW.exit ?_
      refine zC4 ?_
      rcases hP with ⟨hq,_,hu⟩ | ⟨hq,_,hu⟩
      ·subst hu
       have he:u+m-u=m:=by omega
       refine WT.split 181 Z (fun e=>?_) (fun e=>absurd e (by simp;omega))
       refine zC4 ?_
       refine AW.cond Z (fun e=>absurd e (by simp)) (fun _=>?_)
       refine zC4 ?_
       refine WT.split 195 Z (fun e=>?_) (fun e=>absurd e (by simp;omega))
       refine zC4 ?_
       refine AW.cond Z (fun e=>absurd e (by simp)) (fun _=>?_)
       refine zC4 ?_
       refine WT.split 209 Z (fun e=>?_) (fun e=>absurd e (by simp;omega))
       refine zC4 ?_
       refine AW.cond Z (fun _=>?_) (fun e=>absurd e (by simp;omega))
       rw[he]
       refine zC4 ?_
       refine WT.callV Tryz.func145 Z Z Z Z Z Z (symP_spec hs N _ hv2 u m b zo zo hmb hb hm) (fun v hv=>?_)
       refine zC4 ?_
       refine⟨_,[],rfl,zsb,rfl,rfl⟩
      ·subst hu
       have he:mid+u-u=mid:=by omega
       refine WT.split 181 Z (fun e=>absurd e (by simp)) (fun e=>?_)
       refine zC4 ?_
       refine AW.cond Z (fun e=>absurd e (by simp)) (fun _=>?_)
       refine zC4 ?_
       refine WT.split 195 Z (fun e=>?_) (fun e=>absurd e (by simp;omega))
       refine zC4 ?_
       rw[he]
       refine AW.cond Z (fun e=>?_) (fun e=>?_)
       ·have e:u<mid:=by simpa using e
        refine zC4 ?_
        refine WT.callV Tryz.func145 Z Z Z Z Z Z (symP_spec hs N _ hv2 a u mid zo ham e zo hm) (fun v hv=>?_)
        refine zC4 ?_
        refine WT.split 209 Z (fun e=>absurd e (by simp)) (fun e=>?_)
        refine zC4 ?_
        refine AW.cond Z (fun e=>absurd e (by simp)) (fun _=>?_)
        refine zC4 ?_
        refine⟨_,[],rfl,zsb,rfl,rfl⟩
       ·refine zC4 ?_
        refine WT.split 209 Z (fun e=>absurd e (by simp)) (fun e=>?_)
        refine zC4 ?_
        refine AW.cond Z (fun e=>absurd e (by simp)) (fun _=>?_)
        refine zC4 ?_
        refine⟨_,[],rfl,zsb,rfl,rfl⟩
theorem stableP_spec(F:Frz){a0:Option Addr}{m c:Nat}{xs:List NPack}(hv:Arr tNPack F a0 m c xs)(hs:PSorted xs)(hm:m≤1000000) :
  Abs.Spec CC 125 [.slice a0 m c,.int .i64 m,.func (.func 107) ⟨[]⟩ ⟨[]⟩] F [] fun F' v o=>o=[]∧v=.tuple ⟨[]⟩:=by
 have hvl:=hv.len
 refine Abs.Spec.fn (n:=63) Tryz.func125 rfl rfl fun own=>?_
 refine zC4 ?_
 refine AW.block ?_
 refine AW.loopR (S:=Nat) (fun s=>[(7,.int .i64 (s:Nat)),(8,.int .i64 ((s+20:Nat):Int))]) (fun s=>own) (fun s G=>s≤m) (fun s=>m-s) 0
  sM oR (Nat.zero_le _) ?_
 intro s F1 hF1 hP
 have hv1:=hv.mono hF1
 refine zC4 ?_
 refine AW.cond Z (fun h2=>?_) (fun h2=>?_)
 ·have h2:s+20≤m:=by simp at h2;omega
  refine zC4 ?_
  refine AW.block ?_
  refine zC4 ?_
  refine WT.callV Tryz.func144 Z Z Z Z Z Z (insP_spec _ hv1 hs s (s+20) zo h2 hm) (fun v hv'=>?_)
  refine zC4 ?_
  exact⟨s+20,by omega,sM,OwnLe.refl _,h2⟩
 ·refine AW.exit ?_
  refine zC4 ?_
  refine WT.callV Tryz.func144 Z Z Z Z Z Z (insP_spec _ hv1 hs s m zo (Nat.le_refl _) hm) (fun v hv'=>?_)
  refine zC4 ?_
  refine AW.block ?_
  refine AW.loopR (S:=Nat×Nat×Nat) (fun s=>[(6,.int .i64 (s.1:Nat)),(7,.int .i64 (s.2.1:Nat)),(8,.int .i64 (s.2.2:Nat))]) (fun s=>own) (fun s G=>0<s.1) (fun s=>m-s.1) (20,s,s+20)
   sM oR (show 0<20 by decide) ?_
  intro u F2 hF2 hP2
  have hv2:=hv1.mono hF2
  obtain⟨bs,ua,ub⟩:=u
  dsimp only at hP2 ⊢
  refine zC4 ?_
  refine AW.cond Z (fun h3=>?_) (fun h3=>?_)
  ·have h3:bs<m:=by simpa using h3
   refine zC4 ?_
   refine AW.block ?_
   refine zC4 ?_
   refine AW.block ?_
   refine AW.loopR (S:=Nat×Nat) (fun s=>[(7,.int .i64 (s.1:Nat)),(8,.int .i64 (s.2:Nat))]) (fun s=>own) (fun s G=>s.1≤m∧s.2=s.1+2*bs) (fun s=>m-s.1) (0,2*bs)
    sM oR ⟨Nat.zero_le _,by omega⟩ ?_
   intro z F3 hF3 hP3
   have hv3:=hv2.mono hF3
   obtain⟨za,zb⟩:=z
   dsimp only at hP3 ⊢
   obtain⟨hz1,hz2⟩:=hP3
   subst hz2
   refine zC4 ?_
   refine AW.cond Z (fun h4=>?_) (fun h4=>?_)
   ·have h4:za+2*bs≤m:=by simp at h4;omega
    refine zC4 ?_
    refine AW.block ?_
    refine zC4 ?_
    refine WT.callV Tryz.func145 Z Z Z Z Z Z (symP_spec hs _ _ hv3 za (za+bs) (za+2*bs) (Nat.lt_succ_self _) zo zo h4 hm) (fun v hv'=>?_)
    refine zC4 ?_
    exact⟨(za+2*bs,za+2*bs+2*bs),by dsimp only;omega,sM,OwnLe.refl _,h4,rfl⟩
   ·have h4:m<za+2*bs:=by simp at h4;omega
    refine AW.exit ?_
    refine zC4 ?_
    refine AW.cond Z (fun h5=>?_) (fun h5=>?_)
    ·have h5:za+bs<m:=by simp at h5;omega
     refine zC4 ?_
     refine WT.callV Tryz.func145 Z Z Z Z Z Z (symP_spec hs _ _ hv3 za (za+bs) m (Nat.lt_succ_self _) zo h5 (Nat.le_refl _) hm) (fun v hv'=>?_)
     refine zC4 ?_
     refine WT.mulL 2 Z Z Z Z Z Z zo ?_
     refine zC4 ?_
     exact⟨(bs*2,za,za+2*bs),by dsimp only;omega,sM,OwnLe.refl _,by dsimp only;omega⟩
    ·refine zC4 ?_
     refine WT.mulL 2 Z Z Z Z Z Z zo ?_
     refine zC4 ?_
     exact⟨(bs*2,za,za+2*bs),by dsimp only;omega,sM,OwnLe.refl _,by dsimp only;omega⟩
  ·refine AW.exit ?_
   skip
   refine⟨_,[],rfl,zsb,rfl,rfl⟩
theorem sortStableP_spec(F:Frz){a0:Option Addr}{m c:Nat}{xs:List NPack}(hv:Arr tNPack F a0 m c xs)(hs:PSorted xs)(hm:m≤1000000) :
  Abs.Spec CC 106 [.slice a0 m c,.func (.func 107) ⟨[]⟩ ⟨[]⟩] F [] fun F' v o=>o=[]∧v=.tuple ⟨[]⟩:=by
 refine Abs.Spec.fn (n:=9) Tryz.func106 rfl rfl fun own=>?_
 refine zC4 ?_
 refine WT.callV Tryz.func125 Z Z Z Z Z Z (stableP_spec _ hv hs hm) (fun v hv'=>?_)
 refine zC4 ?_
 refine⟨_,[],rfl,zsb,rfl,rfl⟩
inductive Reachable(g:Gram)(w:List Nat)(E:List (List Nat))(root:Key):Key→Prop
 | root:Reachable g w E root root
 | kid {k q:Key} {p:KPack}:Reachable g w E root k→p∈packsOf g w E k→q∈p.kids→Reachable g w E root q
def GoodKey(g:Gram)(w:List Nat)(k:Key):Prop:=SymOk g.terms g.nons k.sym∧k.frm≤w.length∧k.to≤w.length
theorem splits_mem{w:List Nat}{E:List (List Nat)}{to:Nat}:∀{l:List Sym} {i:Nat} {ks:List Key},ks∈splits w E to l i→i≤w.length→to≤w.length→∀q∈ks,q.sym∈l∧q.frm≤w.length∧q.to≤w.length
 | [],i,ks,h,_,_,q,hq=>by
  unfold splits at h
  split at h
  ·rw[List.mem_singleton.1 h] at hq;cases hq
  ·cases h
 | s::l,i,ks,h,hi,hto,q,hq=>by
  unfold splits at h
  obtain⟨m,hm1,hm⟩:=List.mem_flatMap.1 h
  have hm1:=List.mem_range.1 hm1
  split at hm
  ·obtain⟨ks',h2,rfl⟩:=List.mem_map.1 hm
   rcases List.mem_cons.1 hq with rfl | hq
   ·exact⟨List.mem_cons_self ..,hi,by show m≤_;omega⟩
   ·have:=splits_mem h2 zo hto q hq
    exact⟨List.mem_cons_of_mem _ this.1,this.2⟩
  ·cases hm
theorem mem_packsOf{g:Gram}{w:List Nat}{E:List (List Nat)}{k:Key}{p:KPack}:p∈packsOf g w E k↔∃r,g.rules[p.rule]?=some r∧r.left=k.sym.n∧k.sym.term=false∧p.kids∈splits w E k.to r.right k.frm:=by
 unfold packsOf
 rw[List.mem_flatMap]
 constructor
 ·rintro⟨i,hi,hp⟩
  unfold packsAt at hp
  split at hp
  ·rename_i r hr
   split at hp
   ·rename_i hc
    obtain⟨ks,hks,rfl⟩:=List.mem_map.1 hp
    exact⟨r,hr,hc.1,hc.2,hks⟩
   ·cases hp
  ·cases hp
 ·rintro⟨r,hr,h1,h2,h3⟩
  refine⟨p.rule,List.mem_range.2 (gS hr).1,?_⟩
  unfold packsAt
  rw[hr]
  simp only
  rw[if_pos ⟨h1,h2⟩]
  exact List.mem_map.2 ⟨p.kids,h3,by cases p;rfl⟩
theorem good_kid{g:Gram}(hg:Valid g){w:List Nat}{E:List (List Nat)}{k q:Key}{p:KPack}(hk:GoodKey g w k)(hp:p∈packsOf g w E k)(hq:q∈p.kids):GoodKey g w q:=by
 obtain⟨r,hr,_,_,h3⟩:=mem_packsOf.1 hp
 obtain⟨h4,h5,h6⟩:=splits_mem h3 hk.2.1 hk.2.2 q hq
 exact⟨(hg.right r (gM hr)).2.2 _ h4,h5,h6⟩
theorem Reachable.good{g:Gram}(hg:Valid g){w:List Nat}{E:List (List Nat)}{root k:Key}(h:Reachable g w E root k)(hr:GoodKey g w root):GoodKey g w k:=by
 induction h with
 | root=>exact hr
 | kid _ hp hq ih=>exact good_kid hg ih hp hq
def keyCode(k:Key):Nat:=(if k.sym.term=true then 100 else 0)*961+k.sym.n*961+k.frm*31+k.to
theorem good_few{g:Gram}(hg:Valid g){w:List Nat}(hw:w.length≤30){L:List Key}(hL:∀k∈L,GoodKey g w k)(hn:L.Nodup):L.length≤200000:=by
 have hgr:=hg.range
 have bd:∀k∈L,k.sym.n<10∧k.frm≤30∧k.to≤30:=fun k hk=>by
  obtain⟨h1,h2,h3⟩:=hL k hk
  unfold SymOk at h1
  have:=hgr.terms
  have:=hgr.nons
  split at h1<;>exact⟨by omega,by omega,by omega⟩
 have h:=nodup_lt 200000 (L.map keyCode) ?_ ?_
 ·rwa [List.length_map] at h
 ·rw[List.nodup_iff_pairwise_ne,List.pairwise_map]
  refine(List.nodup_iff_pairwise_ne.1 hn).imp_of_mem ?_
  intro a b ha hb hne he
  apply hne
  have h1:=bd a ha
  have h2:=bd b hb
  obtain⟨⟨at_,an⟩,af,ao⟩:=a
  obtain⟨⟨bt,bn⟩,bf,bo⟩:=b
  unfold keyCode at he
  simp only at he h1 h2
  simp only[Key.mk.injEq,Sym.mk.injEq]
  cases at_<;>cases bt<;>simp at he ⊢<;>omega
 ·intro x hx
  obtain⟨k,hk,rfl⟩:=List.mem_map.1 hx
  have h1:=bd k hk
  unfold keyCode
  split<;>omega
inductive KLt:List Key→List Key→Prop
 | here {a b:Key} {l m:List Key}:a.sym=b.sym→a.frm=b.frm→a.to<b.to→KLt (a::l) (b::m)
 | next {a:Key} {l m:List Key}:KLt l m→KLt (a::l) (a::m)
theorem splits_sorted{w:List Nat}{E:List (List Nat)}{to:Nat}:∀(l:List Sym) (i:Nat),(splits w E to l i).Pairwise KLt
 | [],i=>by unfold splits;split<;>simp
 | s::l,i=>by
  unfold splits
  rw[List.pairwise_flatMap]
  constructor
  ·intro m _
   split
   ·rw[List.pairwise_map]
    exact(splits_sorted l m).imp .next
   ·exact .nil
  ·refine List.pairwise_lt_range.imp ?_
   intro m m' hm x hx y hy
   split at hx
   ·split at hy
    ·obtain⟨x',_,rfl⟩:=List.mem_map.1 hx
     obtain⟨y',_,rfl⟩:=List.mem_map.1 hy
     exact .here rfl rfl hm
    ·cases hy
   ·cases hx
def PLt(p q:KPack):Prop:=p.rule<q.rule∨(p.rule=q.rule∧KLt p.kids q.kids)
theorem packs_sorted(g:Gram)(w:List Nat)(E:List (List Nat))(k:Key):(packsOf g w E k).Pairwise PLt:=by
 unfold packsOf
 rw[List.pairwise_flatMap]
 constructor
 ·intro i _
  unfold packsAt
  split
  ·split
   ·rw[List.pairwise_map]
    exact(splits_sorted _ _).imp fun h=>.inr ⟨rfl,h⟩
   ·exact .nil
  ·exact .nil
 ·refine List.pairwise_lt_range.imp ?_
  intro i j hij x hx y hy
  have at_:∀{i:Nat} {x:KPack},x∈packsAt g w E k i→x.rule=i:=by
   intro i x hx
   unfold packsAt at hx
   split at hx
   ·split at hx
    ·obtain⟨_,_,rfl⟩:=List.mem_map.1 hx;rfl
    ·cases hx
   ·cases hx
  left
  rw[at_ hx,at_ hy];exact hij
structure Node where
 key:Key
 packs:List NPack
def tNode:Ty Node where
 size:=5
 rel:=fun F l x=>∃a n c,l=[.bool x.key.sym.term,.int .i64 x.key.sym.n,.int .i64 x.key.frm,.int .i64 x.key.to,.slice a n c]∧Arr tNPack F a n c x.packs
 len:=fun _ _ _ h=>by obtain⟨a,n,c,rfl,_⟩:=h;rfl
 one:=fun _ _ _ h=>by obtain⟨a,n,c,rfl,_⟩:=h;rfl
 mono:=fun _ _ _ _ hF h=>by obtain⟨a,n,c,e,h⟩:=h;exact⟨a,n,c,e,h.mono hF⟩
def place(S:List Key)(k:Key):Nat:=S.idxOf k
def numPack(S:List Key)(p:KPack):NPack:=⟨p.rule,p.kids.map (place S)⟩
def mkNode(g:Gram)(w:List Nat)(E:List (List Nat))(S:List Key)(k:Key):Node:=⟨k,(packsOf g w E k).map (numPack S)⟩
theorem place_at{S:List Key}{k:Key}(h:k∈S):S[place S k]?=some k:=by
 unfold place
 rw[gE (List.idxOf_lt_length_of_mem h),List.getElem_idxOf]
theorem place_of{S:List Key}(hn:S.Nodup){k:Key}{i:Nat}(h:S[i]?=some k):place S k=i:=by
 have h1:=place_at (gM h)
 obtain⟨h2,h3⟩:=gS h
 obtain⟨h4,h5⟩:=gS h1
 rcases Nat.lt_trichotomy (place S k) i with h6 | h6 | h6
 ·exact absurd (h5.trans h3.symm) (List.pairwise_iff_getElem.1 (List.nodup_iff_pairwise_ne.1 hn) _ _ h4 h2 h6)
 ·exact h6
 ·exact absurd (h3.trans h5.symm) (List.pairwise_iff_getElem.1 (List.nodup_iff_pairwise_ne.1 hn) _ _ h2 h4 h6)
theorem place_lt{S:List Key}(hs:S.Pairwise (fun x y=>ltKey x y=true)){a b:Key}(ha:a∈S)(hb:b∈S)(h:ltKey a b=true):place S a<place S b:=by
 have h1:=place_at ha
 have h2:=place_at hb
 obtain⟨h3,h4⟩:=gS h1
 obtain⟨h5,h6⟩:=gS h2
 rcases Nat.lt_trichotomy (place S a) (place S b) with h7 | h7 | h7
 ·exact h7
 ·have:a=b:=by rw[←h4,←h6];simp only[h7]
  subst this
  rw[ltKey_swo.irrefl] at h;cases h
 ·have:=List.pairwise_iff_getElem.1 hs _ _ h5 h3 h7
  rw[h4,h6] at this
  have h8:=ltKey_swo.trans _ _ _ h this
  rw[ltKey_swo.irrefl] at h8;cases h8
theorem klt_cmp{S:List Key}(hs:S.Pairwise (fun x y=>ltKey x y=true)):∀{l m:List Key},KLt l m→(∀q∈l,q∈S)→(∀q∈m,q∈S)→0<cmpNats (m.map (place S)) (l.map (place S))∧cmpNats (l.map (place S)) (m.map (place S))<0:=by
 intro l m h
 induction h with
 | @here a b l m h1 h2 h3=>
  intro hl hm
  have hlt:place S a<place S b:=place_lt hs (hl a me) (hm b me) (by rw[ltKey_iff];right;exact⟨h2,.inl h3⟩)
  simp only[List.map_cons,cmpNats]
  have e1:cmpInt (place S b:Nat) (place S a:Nat)=1:=by unfold cmpInt;rw[if_neg zo,if_pos zo]
  have e2:cmpInt (place S a:Nat) (place S b:Nat)=-1:=by unfold cmpInt;rw[if_pos zo]
  rw[e1,e2];simp
 | @next a l m _ ih=>
  intro hl hm
  have e:cmpInt (place S a:Nat) (place S a:Nat)=0:=by unfold cmpInt;rw[if_neg zo,if_neg zo]
  simp only[List.map_cons,cmpNats,e,if_true]
  exact ih (fun q hq=>hl q (List.mem_cons_of_mem _ hq)) (fun q hq=>hm q (List.mem_cons_of_mem _ hq))
structure Keys(g:Gram)(w:List Nat)(E:List (List Nat))(root:Key)(S:List Key):Prop where
 sorted:S.Pairwise (fun x y=>ltKey x y=true)
 reach:∀k∈S,Reachable g w E root k
 first:root∈S
 closed:∀k∈S,∀p∈packsOf g w E k,∀q∈p.kids,q∈S
theorem Keys.nodup{g:Gram}{w:List Nat}{E:List (List Nat)}{root:Key}{S:List Key}(h:Keys g w E root S):S.Nodup:=by
 rw[List.nodup_iff_pairwise_ne]
 refine h.sorted.imp ?_
 rintro a b hab rfl
 rw[ltKey_swo.irrefl] at hab;cases hab
theorem Keys.all{g:Gram}{w:List Nat}{E:List (List Nat)}{root:Key}{S:List Key}(h:Keys g w E root S){k:Key}(hk:Reachable g w E root k):k∈S:=by
 induction hk with
 | root=>exact h.first
 | kid _ hp hq ih=>exact h.closed _ ih _ hp _ hq
theorem plt_cmp{S:List Key}(hs:S.Pairwise (fun x y=>ltKey x y=true)){p q:KPack}(h:PLt p q)(hp:∀x∈p.kids,x∈S)(hq:∀x∈q.kids,x∈S):0<cmpNPack (numPack S q) (numPack S p)∧cmpNPack (numPack S p) (numPack S q)<0:=by
 unfold cmpNPack numPack
 simp only[orInt]
 rcases h with h | ⟨h1,h2⟩
 ·have e1:cmpInt (q.rule:Nat) (p.rule:Nat)=1:=by unfold cmpInt;rw[if_neg zo,if_pos zo]
  have e2:cmpInt (p.rule:Nat) (q.rule:Nat)=-1:=by unfold cmpInt;rw[if_pos zo]
  rw[e1,e2];simp
 ·have e1:cmpInt (q.rule:Nat) (p.rule:Nat)=0:=by unfold cmpInt;rw[if_neg zo,if_neg zo]
  have e2:cmpInt (p.rule:Nat) (q.rule:Nat)=0:=by unfold cmpInt;rw[if_neg zo,if_neg zo]
  obtain⟨h3,h4⟩:=klt_cmp hs h2 hp hq
  simp only[e1,e2,if_true]
  rw[if_neg zo,if_neg zo]
  exact⟨h3,h4⟩
theorem node_sorted{g:Gram}{w:List Nat}{E:List (List Nat)}{root:Key}{S:List Key}(h:Keys g w E root S){k:Key}(hk:k∈S):((packsOf g w E k).map (numPack S)).Pairwise fun x y=>0<cmpNPack y x∧cmpNPack x y<0:=by
 rw[List.pairwise_map]
 refine(packs_sorted g w E k).imp_of_mem ?_
 intro a b ha hb hab
 exact plt_cmp h.sorted hab (fun x hx=>h.closed k hk a ha x hx) (fun x hx=>h.closed k hk b hb x hx)
theorem node_psorted{g:Gram}{w:List Nat}{E:List (List Nat)}{root:Key}{S:List Key}(h:Keys g w E root S){k:Key}(hk:k∈S):PSorted ((packsOf g w E k).map (numPack S)):=by
 intro i j x y hij hx hy
 obtain⟨h1,h2⟩:=gS hx
 obtain⟨h3,h4⟩:=gS hy
 have:=List.pairwise_iff_getElem.1 (node_sorted h hk) i j h1 h3 hij
 rw[h2,h4] at this
 omega
theorem kkey_eq(x y:Key):(((x.sym.term==y.sym.term)&&(((x.sym.n:Int)==(y.sym.n:Int))&&true))&&(((x.frm:Int)==(y.frm:Int))&&(((x.to:Int)==(y.to:Int))&&true)))=decide (x=y):=by
 rw[Bool.eq_iff_iff]
 obtain⟨⟨xt,xn⟩,xf,xo⟩:=x
 obtain⟨⟨yt,yn⟩,yf,yo⟩:=y
 simp only[Bool.and_eq_true,beq_iff_eq,decide_eq_true_eq,Key.mk.injEq,Sym.mk.injEq,and_true]
 constructor
 ·rintro⟨⟨rfl,h1⟩,h2,h3⟩;exact⟨⟨rfl,by omega⟩,by omega,by omega⟩
 ·rintro⟨⟨rfl,rfl⟩,rfl,rfl⟩;exact⟨⟨rfl,rfl⟩,rfl,rfl⟩
noncomputable def keyK:KeyTy CC 86 Key where
 key:=fun x=>.agg ⟨[.bool x.sym.term,.int .i64 x.sym.n,.int .i64 x.frm,.int .i64 x.to]⟩
 ok:=fun p=>keyT_ok hT 8 _ _ rfl
 eq:=fun p q=>by
  have h:eqA CC 8 86 (.agg ⟨[.bool p.sym.term,.int .i64 p.sym.n,.int .i64 p.frm,.int .i64 p.to]⟩) (.agg ⟨[.bool q.sym.term,.int .i64 q.sym.n,.int .i64 q.frm,.int .i64 q.to]⟩)=some (decide (p=q)):=by
   rw[←kkey_eq]
   exact eqT_ok hT 8 _ _ _ _ rfl
  by_cases e:p=q
  ·exact .inl ⟨e,by rw[h];simp[e]⟩
  ·exact .inr ⟨e,by rw[h];simp[e]⟩
def packSum(g:Gram)(w:List Nat)(E:List (List Nat))(L:List Key):Nat:=(L.map fun k=>(packsOf g w E k).length).sum
structure IS where
 L:List Key
 a:Option Addr
 c:Nat
 B:List (Nat×Blk)
 se:Ents Key
structure KS where
 a:Option Addr
 n:Nat
 c:Nat
 B:List (Nat×Blk)
structure BS where
 i:Nat
 L:List Key
 a:Option Addr
 c:Nat
 B:List (Nat×Blk)
 pe:Ents Key
 se:Ents Key
 cnt:Nat
structure LInv(g:Gram)(w:List Nat)(E:List (List Nat))(root:Key)(L:List Key)(se:Ents Key):Prop where
 nd:L.Nodup
 first:root∈L
 reach:∀k∈L,Reachable g w E root k
 seen:∀k,Abs.look se k=if k∈L then some (.bool true) else none
structure BInv(g:Gram)(w:List Nat)(E:List (List Nat))(root:Key)(F:Frz)(s:BS):Prop where
 l:LInv g w E root s.L s.se
 packs:∀j k,j<s.i→s.L[j]?=some k→∃a n c,Abs.look s.pe k=some (.slice a n c)∧Arr tKPack F a n c (packsOf g w E k)
 closed:∀j k,j<s.i→s.L[j]?=some k→∀p∈packsOf g w E k,∀q∈p.kids,q∈s.L
 cnt:s.cnt=packSum g w E (s.L.take s.i)
 le:s.i≤s.L.length
theorem BInv.mono{g:Gram}{w:List Nat}{E:List (List Nat)}{root:Key}{F G:Frz}{s:BS}(h:BInv g w E root F s)(hF:Frz.le F G):BInv g w E root G s:=
 ⟨h.l,fun j k h1 h2=>by obtain⟨a,n,c,h3,h4⟩:=h.packs j k h1 h2;exact⟨a,n,c,h3,h4.mono hF⟩,h.closed,h.cnt,h.le⟩
theorem LInv.add{g:Gram}{w:List Nat}{E:List (List Nat)}{root:Key}{L:List Key}{se:Ents Key}(h:LInv g w E root L se){k:Key}(hk:k∉L)(hr:Reachable g w E root k):LInv g w E root (L++[k]) (mset se k (.bool true)) where
 nd:=by
  rw[List.nodup_append]
  exact⟨h.nd,by simp,fun a ha b hb e=>by rw[List.mem_singleton.1 hb] at e;exact hk (e▸ha)⟩
 first:=List.mem_append_left _ h.first
 reach:=fun q hq=>by
  rcases List.mem_append.1 hq with hq | hq
  ·exact h.reach q hq
  ·rw[List.mem_singleton.1 hq];exact hr
 seen:=fun q=>by
  rw[Abs.look_mset,h.seen]
  by_cases e:q=k
  ·subst e;simp
  ·simp[e]
theorem packsOf_len{g:Gram}(hg:Valid g){w:List Nat}{E:List (List Nat)}{k:Key}(hk:k.to≤30):(packsOf g w E k).length≤32*923521:=by
 unfold packsOf
 have:=flat_len (packsAt g w E k) 923521 (List.range g.rules.length) fun i _=>packsAt_len (fun r hr=>(hg.right r hr).2.1) hk i
 rw[List.length_range] at this
 exact Nat.le_trans this (Nat.mul_le_mul_right _ (hg.range.rules))
theorem packsOf_len12{g:Gram}(hg:Valid g){w:List Nat}{E:List (List Nat)}{k:Key}(hk:k.to≤12):(packsOf g w E k).length≤913952:=by
 unfold packsOf
 have:=flat_len (packsAt g w E k) 28561 (List.range g.rules.length) fun i _=>by
  unfold packsAt
  split
  ·rename_i r hr
   split
   ·rw[List.length_map]
    have h1:=splits_len (w:=w) (E:=E) (to:=k.to) (l:=r.right) (i:=k.frm)
    have h2:(k.to+1) ^ r.right.length≤13 ^ 4:=Nat.le_trans (Nat.pow_le_pow_left zo _) (Nat.pow_le_pow_right (by decide) (hg.right r (gM hr)).2.1)
    have h3:13 ^ 4=28561:=by decide
    omega
   ·simp
  ·simp
 rw[List.length_range] at this
 exact Nat.le_trans this (Nat.le_trans (Nat.mul_le_mul_right _ (hg.range.rules)) (by decide))
theorem packSum_take{g:Gram}{w:List Nat}{E:List (List Nat)}{L:List Key}{i:Nat}{k:Key}(h:L[i]?=some k):packSum g w E (L.take (i+1))=packSum g w E (L.take i)+(packsOf g w E k).length:=by
 unfold packSum
 rw[List.take_add_one,h]
 simp
theorem packSum_le{g:Gram}(hg:Valid g){w:List Nat}{E:List (List Nat)}:∀(L:List Key),(∀k∈L,k.to≤30)→packSum g w E L≤L.length*(32*923521)
 | [],_=>by simp[packSum]
 | k::L,h=>by
  have h1:=packSum_le hg (E:=E) (w:=w) L fun k hk=>h k (List.mem_cons_of_mem _ hk)
  have h2:=packsOf_len hg (E:=E) (w:=w) (h k me)
  unfold packSum at h1 ⊢
  rw[List.map_cons,List.sum_cons,List.length_cons,Nat.add_mul,Nat.one_mul]
  omega
def BuildRes(g:Gram)(w:List Nat)(E:List (List Nat))(root:Key)(most:Nat)(F:Frz)(v:Value):Prop:=
 (∃S a n c,v=.tuple ⟨[.agg ⟨[.slice a n c,.int .i64 (place S root:Nat)]⟩,.bool true]⟩∧Keys g w E root S∧Arr tNode F a n c (S.map (mkNode g w E S))∧packSum g w E S≤most)∨
 (v=.tuple ⟨[.agg ⟨[.slice none 0 0,.int .i64 0]⟩,.bool false]⟩∧∃L:List Key,L.Nodup∧(∀k∈L,Reachable g w E root k)∧most<packSum g w E L)
theorem build_spec(F:Frz)(hL:Laid F)(g:Gram)(hg:Valid g){ga:Option Addr}{gm gc:Nat}(hr:Arr tRule F ga gm gc g.rules){b:Option Addr}{n d:Nat}{w:List Nat}(hw:Arr tNat F b n d w)(hw12:w.length≤12)
  {a:Option Addr} {m c:Nat} {E:List (List Nat)} (hE:Arr (tList tU32) F a m c E) (hE2:EndsOk g.nons w.length E) (most:Nat) (hmost:most≤4611686018427387904) :
  Abs.Spec CC 75 [.agg ⟨gramCells g ga gm gc⟩,.slice b n d,.slice a m c,.int .i64 most] F [] fun F' v o=>o=[]∧
   ((stepB w E ⟨false,g.start⟩ 0 w.length=false∧v=.tuple ⟨[.agg ⟨[.slice none 0 0,.int .i64 (-1)]⟩,.bool true]⟩)∨
    (stepB w E ⟨false,g.start⟩ 0 w.length=true∧BuildRes g w E ⟨⟨false,g.start⟩,0,w.length⟩ most F' v)):=by
 unfold gramCells
 have hw1:w.length≤30:=by omega
 have hrl:=hr.len
 have hwl:=hw.len
 subst hwl
 have hgr:=hg.range
 have hgs:=hgr.start
 have hEl:=hE2.size
 refine Abs.Spec.fn (n:=187) Tryz.func75 rfl rfl fun own=>?_
 refine AW.seq (AW.reg ?_)
 refine WT.boxT Z Z Z Z Z Z (fun i4 hi4=>?_)
 refine WT.allocT hT Z Z Z Z Z Z (fun i8 hi8=>?_)
 refine zB4 ?_
 refine WT.callV Tryz.func41 Z Z Z Z Z Z (gN_spec _ _) (fun v hv=>?_)
 subst hv
 refine zB4 ?_
 refine WT.allocT hT Z Z Z Z Z Z (fun i10 hi10=>?_)
 refine zB4 ?_
 refine WT.idxL hT hE Z Z Z Z Z Z Z Z Z zo (fun row hrow b1 off ro cs lx hb1 hp1 hrel=>?_)
 obtain⟨a2,n2,c2,rfl,hrow2⟩:=hrel
 have hrwl:=hE2.row row (gM hrow)
 refine zB4 ?_
 refine WT.idxL (j:=0) hT hrow2 Z Z Z Z Z Z Z Z Z zo (fun x hx b3 off3 ro3 cs3 lx3 hb3 hp3 hrel3=>?_)
 obtain rfl:lx3=_:=hrel3
 have hxb:=hE2.bit row (gM hrow) x (gM hx)
 have pwl:2 ^ (w.length+1)≤4294967296:=Nat.pow_le_pow_right (j:=32) (by decide) zo
 have hstep:stepB w E ⟨false,g.start⟩ 0 w.length=x.testBit w.length:=by
  unfold stepB
  simp only[hrow,hx]
  simp
 refine zB4 ?_
 refine WT.shr32 (x:=x) (y:=w.length) Z Z Z Z Z Z zo ?_
 refine WT.and32 (x:=x / 2 ^ w.length) (y:=1) Z Z Z Z Z Z (Nat.lt_of_le_of_lt (Nat.div_le_self _ _) zo) (by decide) ?_
 rw[shift_bit,←hstep]
 refine zB4 ?_
 refine AW.cond Z (fun h=>?_) (fun h=>?_)
 ·have h0:stepB w E ⟨false,g.start⟩ 0 w.length=false:=by
   cases e:stepB w E ⟨false,g.start⟩ 0 w.length with
   | false=>rfl
   | true=>rw[e] at h;simp at h
  refine zB4 ?_
  exact AW.ret ⟨_,[],⟨_,_,⟨_,rfl,fun G h0 s0=>loadA_cells (s0.has (p:=1) rfl me) (readT_ok hT rfl)⟩,⟨_,_,rfl,rfl,rfl⟩,rfl⟩,zsb,rfl,.inl ⟨h0,rfl⟩⟩
 ·have h1:stepB w E ⟨false,g.start⟩ 0 w.length=true:=by
   cases e:stepB w E ⟨false,g.start⟩ 0 w.length with
   | false=>rw[e] at h;simp at h
   | true=>rfl
  have hroot:GoodKey g w ⟨⟨false,g.start⟩,0,w.length⟩:=⟨by unfold SymOk;simpa using hgs,Nat.zero_le _,Nat.le_refl _⟩
  generalize hrt:(⟨⟨false,g.start⟩,0,w.length⟩:Key)=root at hroot ⊢
  refine zB4 ?_
  refine WT.makeMap Z Z Z Z (fun im him=>?_)
  refine zB4 ?_
  refine WT.buildT hT Z Z Z Z Z Z Z Z Z Z Z Z Z Z (fun il hil=>?_)
  refine zB4 ?_
  refine WT.makeMap Z Z Z Z (fun is his=>?_)
  refine zB4 ?_
  refine WT.mapIns keyK (key:=⟨⟨false,g.start⟩,0,w.length⟩) (m:=[]) hT 0 0 Z Z Z Z Z Z Z Z Z Z Z Z ?_
  refine zB4 ?_
  refine AW.block ?_
  refine AW.loopR (S:=BS) (fun s=>[(12,.slice s.a s.L.length s.c),(14,.int .i64 (s.cnt:Nat)),(15,.int .i64 (s.i:Nat))])
   (fun s=>[(is,.map (entsV keyK s.se))]::s.B::[(im,.map (entsV keyK s.pe))]::[(i10,.cells false [.bool false,.int .i64 g.start,.int .i64 0,.int .i64 w.length])]::[(i8,.cells false [.slice none 0 0,.int .i64 0])]::[(i4,.cells false [.int .i64 g.terms,.int .i64 g.nons,.int .i64 g.start,.slice ga gm gc])]::own)
   (fun s G=>Bld tKey G s.a s.L.length s.c s.B s.L∧BInv g w E root G s∧s.cnt≤most) (fun s=>200001-s.i) ⟨0,[root],some ⟨il,0,none⟩,4,[(il,.cells false [.bool false,.int .i64 g.start,.int .i64 0,.int .i64 w.length])],[],mset [] root (.bool true),0⟩
   sM (OwnLe.flat (by rw[←hrt];exact List.Perm.refl _)) ⟨⟨rfl,.inr ⟨il,_,rfl,rfl,rfl,Cells.single (R:=tKey) (x:=root) (by rw[←hrt];rfl),by decide⟩⟩,?_⟩ ?_
  ·refine⟨⟨⟨by simp,List.mem_singleton.2 rfl,fun k hk=>by rw[List.mem_singleton.1 hk];exact .root,fun k=>?_⟩,fun j k hj _=>absurd hj (Nat.not_lt_zero _),fun j k hj _=>absurd hj (Nat.not_lt_zero _),rfl,Nat.zero_le _⟩,Nat.zero_le _⟩
   show Abs.look (mset [] root (.bool true)) k=_
   rw[Abs.look_mset]
   simp[Abs.look]
  ·intro s F1 hF1 hP
   obtain⟨hb,hI,hlim⟩:=hP
   have hgood:∀k∈s.L,GoodKey g w k:=fun k hk=>(hI.l.reach k hk).good hg hroot
   have hfew:=good_few hg hw1 hgood hI.l.nd
   have hr1:=hr.mono hF1
   have hw1':=hw.mono hF1
   have hE1:=hE.mono hF1
   have hL1:=hL.mono hF1
   refine zB8 ?_
   refine AW.cond Z (fun h2=>?_) (fun h2=>?_)
   ·have h2:s.i<s.L.length:=by simpa using h2
    obtain⟨k,hk⟩:∃k,s.L[s.i]?=some k:=⟨_,gE h2⟩
    have hkg:=hgood k (gM hk)
    have hkr:=hI.l.reach k (gM hk)
    have hpl:=packsOf_len hg (E:=E) (w:=w) (show k.to≤30 by have:=hkg.2.2;omega)
    have hsum:=packSum_le hg (E:=E) (w:=w) (s.L.take s.i) (fun q hq=>by have:=(hgood q (List.mem_of_mem_take hq)).2.2;omega)
    rw[List.length_take,←hI.cnt] at hsum
    have hcnt:s.cnt≤200000*29552672:=Nat.le_trans hsum (Nat.mul_le_mul zo (by decide))
    refine zB8 ?_
    refine AW.block ?_
    refine zB8 ?_
    refine WT.vidx hT hb.vec Z Z Z Z Z Z Z Z Z zo (fun b5 hb5=>?_)
    refine WT.vldS hT 1 hb.vec hb5 hk Z Z Z Z Z Z Z Z Z (fun l5 hl5=>?_)
    obtain rfl:l5=_:=hl5
    refine WT.callF0 Tryz.func66 Z Z Z Z Z Z (packs_spec _ hL1 g hg hr1 hw1' hw1 hE1 hE2 k hkg.2.1 (by have:=hkg.2.2;omega)) (fun F2 v hF2 hv=>?_)
    obtain⟨pa,pn,pc,rfl,hpk⟩:=hv
    have hpkl:=hpk.len
    have hb2:=hb.mono hF2
    have hI2:=hI.mono hF2
    refine zB8 ?_
    refine AW.cond Z (fun h3=>?_) (fun h3=>?_)
    ·have h3:most<s.cnt+pn:=by simp at h3;omega
     refine zB8 ?_
     refine AW.ret ⟨_,[],⟨_,_,⟨_,rfl,fun G h0 s0=>loadA_cells (s0.has (p:=4) Z me) (readT_ok hT rfl)⟩,⟨_,_,rfl,rfl,rfl⟩,rfl⟩,zsb,rfl,.inr ⟨h1,.inr ⟨rfl,s.L.take (s.i+1),?_,fun q hq=>hI.l.reach q (List.mem_of_mem_take hq),?_⟩⟩⟩
     ·exact(hI.l.nd).sublist (List.take_sublist ..)
     ·rw[packSum_take hk,←hI.cnt,←hpkl];exact h3
    ·have h3:s.cnt+pn≤most:=by simp at h3;omega
     refine zB8 ?_
     refine WT.vidx hT hb2.vec Z Z Z Z Z Z Z Z Z zo (fun b6 hb6=>?_)
     refine WT.vldS hT 1 hb2.vec hb6 hk Z Z Z Z Z Z Z Z Z (fun l6 hl6=>?_)
     obtain rfl:l6=_:=hl6
     refine zB8 ?_
     refine WT.mapSet keyK (key:=k) hT 2 0 Z Z Z Z Z Z Z Z Z Z Z Z ?_
     refine zB8 ?_
     refine AW.range (S:=IS) (fun u=>[(12,.slice u.a u.L.length u.c)]) (fun u=>[(is,.map (entsV keyK u.se))]::u.B::[(im,.map (entsV keyK (mset s.pe k (.slice pa pn pc))))]::[(i10,.cells false [.bool false,.int .i64 g.start,.int .i64 0,.int .i64 w.length])]::[(i8,.cells false [.slice none 0 0,.int .i64 0])]::[(i4,.cells false [.int .i64 g.terms,.int .i64 g.nons,.int .i64 g.start,.slice ga gm gc])]::own)
      (fun j u G=>Bld tKey G u.a u.L.length u.c u.B u.L∧LInv g w E root u.L u.se∧(∃x,u.L=s.L++x)∧∀p∈(packsOf g w E k).take j,∀q∈p.kids,q∈u.L) pn ⟨s.L,s.a,s.c,s.B,s.se⟩
      Z Z Z Z Z Z Z Z Z zo rfl rfl (fun _=>rfl) (fun _=>rfl) sM oR ⟨hb2,hI.l,⟨[],by simp⟩,by simp⟩ ?_ ?_
     ·intro j u F3 hF3 hj hP3
      obtain⟨hb3,hl3,hx3,hc3⟩:=hP3
      have hpk3:=hpk.mono hF3
      refine zB9 ?_
      refine WT.idxL hT hpk3 Z Z Z Z Z Z Z Z Z zo (fun p hpj b7 off7 ro7 cs7 lx7 hb7 hp7 hrel7=>?_)
      obtain⟨ka,kn,kc,rfl,hka⟩:=hrel7
      have hkal:=hka.len
      have hpm:=gM hpj
      have hkl4:p.kids.length≤4:=by
       obtain⟨r,hr0,_,_,h4⟩:=mem_packsOf.1 hpm
       rw[splits_kids h4]
       exact(hg.right r (gM hr0)).2.1
      refine zB9 ?_
      refine WT.allocT hT Z Z Z Z Z Z (fun i18 hi18=>?_)
      refine zB9 ?_
      refine AW.range (S:=IS) (fun u=>[(12,.slice u.a u.L.length u.c)]) (fun u=>[(i18,.cells false [.int .i64 p.rule,.slice ka kn kc])]::[(is,.map (entsV keyK u.se))]::u.B::[(im,.map (entsV keyK (mset s.pe k (.slice pa pn pc))))]::[(i10,.cells false [.bool false,.int .i64 g.start,.int .i64 0,.int .i64 w.length])]::[(i8,.cells false [.slice none 0 0,.int .i64 0])]::[(i4,.cells false [.int .i64 g.terms,.int .i64 g.nons,.int .i64 g.start,.slice ga gm gc])]::own)
       (fun q u G=>Bld tKey G u.a u.L.length u.c u.B u.L∧LInv g w E root u.L u.se∧(∃x,u.L=s.L++x)∧(∀p∈(packsOf g w E k).take j,∀q∈p.kids,q∈u.L)∧∀x∈p.kids.take q,x∈u.L) kn u
       Z Z Z Z Z Z Z Z Z zo rfl rfl (fun _=>rfl) (fun _=>rfl) sM oR ⟨hb3,hl3,hx3,hc3,by simp⟩ ?_ ?_
      ·intro q z F4 hF4 hq hP4
       obtain⟨hb4,hl4,hx4,hc4,hd4⟩:=hP4
       have hka4:=hka.mono hF4
       have hgz:∀k∈z.L,GoodKey g w k:=fun k hk=>(hl4.reach k hk).good hg hroot
       have hfz:=good_few hg hw1 hgz hl4.nd
       refine zB9 ?_
       refine WT.idxL hT hka4 Z Z Z Z Z Z Z Z Z zo (fun x hxq b8 off8 ro8 cs8 lx8 hb8 hp8 hrel8=>?_)
       obtain rfl:lx8=_:=hrel8
       have hxr:Reachable g w E root x:=.kid hkr hpm (gM hxq)
       refine zB9 ?_
       refine WT.allocT hT Z Z Z Z Z Z (fun i20 hi20=>?_)
       refine zB9 ?_
       refine WT.lookup1 keyK (key:=x) hT 2 Z Z Z Z Z Z Z me Z Z Z ?_
       refine WT.know (v':=.bool (decide (x∈z.L))) 101 Z ?_ ?_
       ·rw[hl4.seen]
        by_cases e:x∈z.L<;>simp[e]
       refine zB9 ?_
       refine AW.cond Z (fun h4=>?_) (fun h4=>?_)
       ·have h4:x∉z.L:=by simpa using h4
        refine zB9 ?_
        refine WT.mapSet keyK (key:=x) hT 2 0 Z Z Z Z Z Z Z Z Z Z Z Z ?_
        refine zB9 ?_
        refine WT.buildT hT Z Z Z Z Z Z Z Z Z Z Z Z Z Z (fun i9 hi9=>?_)
        refine WT.appendT (ys:=[x]) hT 4 hb4 Z (fun _=>rfl) Z Z Z Z Z Z Z Z Z Z Z (fun h0 s0=>news_own hT s0 0 Z Z Z Z) (Cells.single (R:=tKey) (x:=x) rfl) Z (by decide) zom (fun a5 c5 B5 hB5=>?_)
        refine zB9 ?_
        have hl1:z.L.length+1=(z.L++[x]).length:=by simp
        rw[hl1] at hB5 ⊢
        refine⟨⟨z.L++[x],a5,c5,B5,mset z.se x (.bool true)⟩,sM,OwnLe.skip _ (OwnLe.skip _ oR),hB5,hl4.add h4 hxr,?_,fun p' hp' q' hq'=>List.mem_append_left _ (hc4 p' hp' q' hq'),?_⟩
        ·obtain⟨y,hy⟩:=hx4
         exact⟨y++[x],by dsimp only;rw[hy,List.append_assoc]⟩
        ·intro x' hx'
         rw[List.take_add_one,hxq] at hx'
         rcases List.mem_append.1 hx' with hx' | hx'
         ·exact List.mem_append_left _ (hd4 x' hx')
         ·obtain rfl:=List.mem_singleton.1 hx'
          exact List.mem_append_right _ (List.mem_singleton.2 rfl)
       ·have h4:x∈z.L:=by simpa using h4
        refine zB9 ?_
        refine⟨z,sM,OwnLe.skip _ oR,hb4,hl4,hx4,hc4,?_⟩
        intro x' hx'
        rw[List.take_add_one,hxq] at hx'
        rcases List.mem_append.1 hx' with hx' | hx'
        ·exact hd4 x' hx'
        ·obtain rfl:=List.mem_singleton.1 hx'
         exact h4
      ·intro z F4 hF4 hP4
       obtain⟨hb4,hl4,hx4,hc4,hd4⟩:=hP4
       rw[List.take_of_length_le zo] at hd4
       skip
       refine⟨z,sM,zow,hb4,hl4,hx4,?_⟩
       rw[List.take_add_one,hpj]
       intro p' hp' q' hq'
       rcases List.mem_append.1 hp' with hp' | hp'
       ·exact hc4 p' hp' q' hq'
       ·obtain rfl:=List.mem_singleton.1 hp'
        exact hd4 q' hq'
     ·intro u F3 hF3 hP3
      obtain⟨hb3,hl3,⟨x3,hx3⟩,hc3⟩:=hP3
      rw[List.take_of_length_le zo] at hc3
      have hpre:∀(j:Nat) (q:Key),s.L[j]?=some q→u.L[j]?=some q:=fun j q hq=>by
       rw[hx3,List.getElem?_append_left (gS hq).1];exact hq
      have hpre2:∀(j:Nat) (q:Key),j<s.i+1→u.L[j]?=some q→s.L[j]?=some q:=fun j q hj hq=>by
       rw[hx3,List.getElem?_append_left zo] at hq;exact hq
      refine zB9 ?_
      refine⟨⟨s.i+1,u.L,u.a,u.c,u.B,mset s.pe k (.slice pa pn pc),u.se,s.cnt+pn⟩,?_,sM,OwnLe.refl _,hb3,?_⟩
      ·dsimp only;omega
      ·refine⟨⟨hl3,fun j q hj hq=>?_,fun j q hj hq=>?_,?_,?_⟩,h3⟩
       ·have hq:=hpre2 j q hj hq
        dsimp only
        rw[Abs.look_mset]
        by_cases e:q=k
        ·subst e
         exact⟨pa,pn,pc,by simp,hpk.mono hF3⟩
        ·rw[if_neg e]
         rcases Nat.lt_succ_iff_lt_or_eq.1 hj with hj | hj
         ·obtain⟨a9,n9,c9,h9,h10⟩:=hI2.packs j q hj hq
          exact⟨a9,n9,c9,h9,h10.mono hF3⟩
         ·subst hj
          rw[hk] at hq
          exact absurd (Option.some.inj hq).symm e
       ·have hq:=hpre2 j q hj hq
        intro p hp x hx
        dsimp only
        rcases Nat.lt_succ_iff_lt_or_eq.1 hj with hj | hj
        ·rw[hx3];exact List.mem_append_left _ (hI.closed j q hj hq p hp x hx)
        ·subst hj
         rw[hk] at hq
         obtain rfl:=Option.some.inj hq
         exact hc3 p hp x hx
       ·dsimp only
        have e:u.L.take (s.i+1)=s.L.take (s.i+1):=by
         rw[hx3,List.take_append_of_le_length zo]
        rw[e,packSum_take hk,←hI.cnt,←hpkl]
       ·dsimp only
        have:=(gS (hpre _ _ hk)).1
        omega
   ·have h2:s.i=s.L.length:=by
     have:=hI.le
     simp at h2;omega
    refine AW.exit ?_
    refine zB8 ?_
    refine WT.call1F 1 Tryz.func104 Z Z Z Z Z Z Z (fun _=>rfl) (kySort_spec _ (keyOrder_cmp _) hb.vec zo) (fun F2 v B2 hF2 hv=>?_)
    refine WT.freezeAll 1 Z Z (fun F3 hF3 hB3=>?_)
    have hSa:=hv.arr hF3 hB3
    obtain⟨hperm,hpw⟩:=sort_facts ltKey_swo s.L
    have hF13:=hF2.trans hF3
    generalize (Go.Sort.sort ltKey s.L.toArray).toList=S at hSa hperm hpw
    have hSl:S.length=s.L.length:=hperm.length_eq
    have hmem:∀k,k∈S↔k∈s.L:=fun k=>hperm.mem_iff
    have hK:Keys g w E root S:=by
     refine⟨?_,fun k hk=>hI.l.reach k ((hmem k).1 hk),(hmem _).2 hI.l.first,fun k hk p hp q hq=>?_⟩
     ·have hnd:S.Nodup:=hperm.nodup_iff.2 hI.l.nd
      have:=hpw.and (List.nodup_iff_pairwise_ne.1 hnd)
      refine this.imp ?_
      rintro x y ⟨h3,h4⟩
      cases h5:ltKey x y with
      | true=>rfl
      | false=>exact absurd (ltKey_anti x y h5 h3) h4
     ·obtain⟨j,hj⟩:=List.mem_iff_getElem?.1 ((hmem k).1 hk)
      have hjl:=(gS hj).1
      exact(hmem q).2 (hI.closed j k zo hj p hp q hq)
    have hpk:∀k∈S,∃a n c,Abs.look s.pe k=some (.slice a n c)∧Arr tKPack F3 a n c (packsOf g w E k):=fun k hk=>by
     obtain⟨j,hj⟩:=List.mem_iff_getElem?.1 ((hmem k).1 hk)
     have hjl:=(gS hj).1
     obtain⟨a9,n9,c9,h9,h10⟩:=hI.packs j k zo hj
     exact⟨a9,n9,c9,h9,h10.mono hF13⟩
    have hsumS:packSum g w E S≤most:=by
     have e1:packSum g w E S=packSum g w E s.L:=(hperm.map _).sum_nat
     have e2:=hI.cnt
     rw[h2,List.take_length] at e2
     omega
    refine zB8 ?_
    refine WT.makeMap Z Z Z Z (fun inn hinn=>?_)
    refine zB8 ?_
    refine AW.range (S:=Ents Key) (fun _=>[]) (fun ne=>[(inn,.map (entsV keyK ne))]::[(is,.map (entsV keyK s.se))]::[]::[(im,.map (entsV keyK s.pe))]::[(i10,.cells false [.bool false,.int .i64 g.start,.int .i64 0,.int .i64 w.length])]::[(i8,.cells false [.slice none 0 0,.int .i64 0])]::[(i4,.cells false [.int .i64 g.terms,.int .i64 g.nons,.int .i64 g.start,.slice ga gm gc])]::own)
     (fun j ne G=>∀k,Abs.look ne k=if k∈S.take j then some (.int .i64 (place S k:Nat)) else none) s.L.length []
     Z Z Z Z Z Z Z Z Z zo rfl rfl (fun _=>rfl) (fun _=>rfl) sM oR (fun k=>by simp[Abs.look]) ?_ ?_
    ·intro j ne F4 hF4 hj hne
     have hSa4:=hSa.mono hF4
     refine zB9 ?_
     refine WT.idxL hT hSa4 Z Z Z Z Z Z Z Z Z zo (fun k hkj b8 off8 ro8 cs8 lx8 hb8 hp8 hrel8=>?_)
     obtain rfl:lx8=_:=hrel8
     refine zB9 ?_
     refine WT.allocT hT Z Z Z Z Z Z (fun i23 hi23=>?_)
     refine zB9 ?_
     refine WT.mapSet keyK (key:=k) hT 1 0 Z Z Z Z Z Z Z Z Z Z Z Z ?_
     refine zB9 ?_
     refine⟨mset ne k (.int .i64 (j:Nat)),sM,OwnLe.skip _ oR,fun q=>?_⟩
     rw[Abs.look_mset,hne,List.take_add_one,hkj]
     by_cases e:q=k
     ·subst e
      rw[place_of hK.nodup hkj];simp
     ·simp[e]
    ·intro ne F4 hF4 hne
     rw[List.take_of_length_le zo] at hne
     have hSa4:=hSa.mono hF4
     have hpk4:∀k∈S,∃a n c,Abs.look s.pe k=some (.slice a n c)∧Arr tKPack F4 a n c (packsOf g w E k):=fun k hk=>by
      obtain⟨a9,n9,c9,h9,h10⟩:=hpk k hk
      exact⟨a9,n9,c9,h9,h10.mono hF4⟩
     refine zB9 ?_
     refine WT.lookup1 keyK (key:=⟨⟨false,g.start⟩,0,w.length⟩) hT 0 Z Z Z Z Z Z Z me Z Z Z ?_
     refine WT.know (v':=.int .i64 (place S root:Nat)) 127 Z (by rw[hrt,hne,if_pos hK.first];rfl) ?_
     refine zB9 ?_
     refine WT.allocT hT Z Z Z Z Z Z (fun i24 hi24=>?_)
     refine zB9 ?_
     refine AW.range (S:=KS) (fun _=>[]) (fun u=>u.B::[(i24,.cells false [.slice u.a u.n u.c,.int .i64 (place S root:Nat)])]::[(inn,.map (entsV keyK ne))]::[(is,.map (entsV keyK s.se))]::[]::[(im,.map (entsV keyK s.pe))]::[(i10,.cells false [.bool false,.int .i64 g.start,.int .i64 0,.int .i64 w.length])]::[(i8,.cells false [.slice none 0 0,.int .i64 0])]::[(i4,.cells false [.int .i64 g.terms,.int .i64 g.nons,.int .i64 g.start,.slice ga gm gc])]::own)
      (fun j u G=>Bld tNode G u.a u.n u.c u.B ((S.take j).map (mkNode g w E S))) s.L.length ⟨none,0,0,[]⟩
      Z Z Z Z Z Z Z Z Z zo rfl rfl (fun _=>rfl) (fun _=>rfl) sM (OwnLe.flat (List.Perm.refl _)) (by simpa using Bld.nil_ _ _) ?_ ?_
     ·intro j u F5 hF5 hj hu
      have hSa5:=hSa4.mono hF5
      have hul:=hu.len
      rw[List.length_map,List.length_take] at hul
      refine zB12 ?_
      refine WT.idxL hT hSa5 Z Z Z Z Z Z Z Z Z zo (fun k hkj b8 off8 ro8 cs8 lx8 hb8 hp8 hrel8=>?_)
      obtain rfl:lx8=_:=hrel8
      have hkS:=gM hkj
      obtain⟨pa,pn,pc,hlk,hpa⟩:=hpk4 k hkS
      have hpa5:=hpa.mono hF5
      have hpal:=hpa.len
      have hkg:=(hK.reach k hkS).good hg hroot
      have hpl:=packsOf_len12 hg (E:=E) (w:=w) (show k.to≤12 by have:=hkg.2.2;omega)
      refine zB12 ?_
      refine WT.allocT hT Z Z Z Z Z Z (fun i26 hi26=>?_)
      refine zB12 ?_
      refine WT.allocT hT Z Z Z Z Z Z (fun i27 hi27=>?_)
      refine zB12 ?_
      refine WT.lookup1 keyK (key:=k) hT 7 Z Z Z Z Z Z Z me Z Z Z ?_
      rw[hlk]
      refine WT.know (v':=.slice pa pn pc) 144 Z Z ?_
      refine zB12 ?_
      refine AW.range (S:=KS) (fun _=>[]) (fun z=>z.B::[(i27,.cells false [.bool k.sym.term,.int .i64 k.sym.n,.int .i64 k.frm,.int .i64 k.to,.slice z.a z.n z.c])]::[(i26,.cells false [.bool k.sym.term,.int .i64 k.sym.n,.int .i64 k.frm,.int .i64 k.to])]::u.B::[(i24,.cells false [.slice u.a u.n u.c,.int .i64 (place S root:Nat)])]::[(inn,.map (entsV keyK ne))]::[(is,.map (entsV keyK s.se))]::[]::[(im,.map (entsV keyK s.pe))]::[(i10,.cells false [.bool false,.int .i64 g.start,.int .i64 0,.int .i64 w.length])]::[(i8,.cells false [.slice none 0 0,.int .i64 0])]::[(i4,.cells false [.int .i64 g.terms,.int .i64 g.nons,.int .i64 g.start,.slice ga gm gc])]::own)
       (fun q z G=>Bld tNPack G z.a z.n z.c z.B (((packsOf g w E k).take q).map (numPack S))) pn ⟨none,0,0,[]⟩
       Z Z Z Z Z Z Z Z Z zo rfl rfl (fun _=>rfl) (fun _=>rfl) sM (OwnLe.flat (List.Perm.refl _)) (by simpa using Bld.nil_ _ _) ?_ ?_
      ·intro q z F6 hF6 hq hz
       have hpa6:=hpa5.mono hF6
       have hzl:=hz.len
       rw[List.length_map,List.length_take] at hzl
       refine zB14 ?_
       refine WT.idxL hT hpa6 Z Z Z Z Z Z Z Z Z zo (fun p hpq b9 off9 ro9 cs9 lx9 hb9 hp9 hrel9=>?_)
       obtain⟨ka,kn,kc,rfl,hka⟩:=hrel9
       have hkal:=hka.len
       have hpm:=gM hpq
       have hkl4:p.kids.length≤4:=by
        obtain⟨r,hr0,_,_,h4⟩:=mem_packsOf.1 hpm
        rw[splits_kids h4]
        exact(hg.right r (gM hr0)).2.1
       refine zB14 ?_
       refine WT.allocT hT Z Z Z Z Z Z (fun i29 hi29=>?_)
       refine zB14 ?_
       refine WT.allocT hT Z Z Z Z Z Z (fun i30 hi30=>?_)
       refine zB14 ?_
       refine AW.range (S:=KS) (fun _=>[]) (fun y=>y.B::[(i30,.cells false [.int .i64 p.rule,.slice y.a y.n y.c])]::[(i29,.cells false [.int .i64 p.rule,.slice ka kn kc])]::z.B::[(i27,.cells false [.bool k.sym.term,.int .i64 k.sym.n,.int .i64 k.frm,.int .i64 k.to,.slice z.a z.n z.c])]::[(i26,.cells false [.bool k.sym.term,.int .i64 k.sym.n,.int .i64 k.frm,.int .i64 k.to])]::u.B::[(i24,.cells false [.slice u.a u.n u.c,.int .i64 (place S root:Nat)])]::[(inn,.map (entsV keyK ne))]::[(is,.map (entsV keyK s.se))]::[]::[(im,.map (entsV keyK s.pe))]::[(i10,.cells false [.bool false,.int .i64 g.start,.int .i64 0,.int .i64 w.length])]::[(i8,.cells false [.slice none 0 0,.int .i64 0])]::[(i4,.cells false [.int .i64 g.terms,.int .i64 g.nons,.int .i64 g.start,.slice ga gm gc])]::own)
        (fun e y G=>Bld tNat G y.a y.n y.c y.B ((p.kids.take e).map (place S))) kn ⟨none,0,0,[]⟩
        Z Z Z Z Z Z Z Z Z zo rfl rfl (fun _=>rfl) (fun _=>rfl) sM (OwnLe.flat (List.Perm.refl _)) (by simpa using Bld.nil_ _ _) ?_ ?_
       ·intro e y F7 hF7 he hy
        have hka7:=hka.mono hF7
        have hyl:=hy.len
        rw[List.length_map,List.length_take] at hyl
        refine zB16 ?_
        refine WT.idxL hT hka7 Z Z Z Z Z Z Z Z Z zo (fun x hxe b10 off10 ro10 cs10 lx10 hb10 hp10 hrel10=>?_)
        obtain rfl:lx10=_:=hrel10
        have hxS:=hK.closed k hkS p hpm x (gM hxe)
        refine zB16 ?_
        refine WT.allocT hT Z Z Z Z Z Z (fun i32 hi32=>?_)
        refine zB16 ?_
        refine AW.draw (ps:=[(1,5)]) Z Z ?_
        refine zB16 ?_
        refine WT.lookup1 keyK (key:=x) hT 9 Z Z Z Z Z Z Z me Z Z Z ?_
        refine WT.know (v':=.int .i64 (place S x:Nat)) 164 Z (by rw[hne,if_pos hxS];rfl) ?_
        skip
        refine WT.buildT hT Z Z Z Z Z Z Z Z Z Z Z Z Z Z (fun i9 hi9=>?_)
        refine WT.appendT (ys:=[place S x]) hT 2 hy Z (fun _=>rfl) Z Z Z Z Z Z Z Z Z Z Z (fun h0 s0=>news_own hT s0 0 Z Z Z Z) (Cells.single (R:=tNat) (x:=place S x) rfl) Z (by decide) zom (fun a5 c5 B5 hB5=>?_)
        refine zB16 ?_
        refine⟨zrC,?_⟩
        refine⟨⟨a5,y.n+1,c5,B5⟩,sM,OwnLe.skip _ (OwnLe.skip _ oR),?_⟩
        dsimp only
        rw[List.take_add_one,hxe,List.map_append]
        exact hB5
       ·intro y F7 hF7 hy
        rw[List.take_of_length_le zo] at hy
        refine AW.freezeAll 0 Z Z (fun F8 hF8 hB8=>?_)
        have hyk:=hy.frozen hF8 hB8
        have hz8:=(hz.mono hF7).mono hF8
        refine zB16 ?_
        refine WT.buildT hT Z Z Z Z Z Z Z Z Z Z Z Z Z Z (fun i9 hi9=>?_)
        refine WT.appendT (ys:=[numPack S p]) hT 4 hz8 Z (fun _=>rfl) Z Z Z Z Z Z Z Z Z Z Z (fun h0 s0=>news_own hT s0 0 Z Z Z Z) (Cells.single (R:=tNPack) (x:=numPack S p) ⟨_,_,_,rfl,hyk,by show (p.kids.map (place S)).length≤_;rw[List.length_map];omega⟩) Z (by decide) zom (fun a5 c5 B5 hB5=>?_)
        refine zB16 ?_
        refine⟨⟨a5,z.n+1,c5,B5⟩,sM,OwnLe.skip _ (OwnLe.skip _ (OwnLe.skip _ (OwnLe.skip _ oR))),?_⟩
        dsimp only
        rw[List.take_add_one,hpq,List.map_append]
        exact hB5
      ·intro z F6 hF6 hz
       rw[List.take_of_length_le zo] at hz
       refine AW.freezeAll 0 Z Z (fun F7 hF7 hB7=>?_)
       have hzk:=hz.frozen hF7 hB7
       have hu7:=(hu.mono hF6).mono hF7
       have hzl:=hzk.len
       rw[List.length_map] at hzl
       refine zB14 ?_
       refine WT.callV Tryz.func106 Z Z Z Z Z Z (sortStableP_spec _ hzk (node_psorted hK hkS) zo) (fun v hv=>?_)
       refine zB14 ?_
       refine WT.buildT hT Z Z Z Z Z Z Z Z Z Z Z Z Z Z (fun i9 hi9=>?_)
       refine WT.appendT (ys:=[mkNode g w E S k]) hT 4 hu7 Z (fun _=>rfl) Z Z Z Z Z Z Z Z Z Z Z (fun h0 s0=>news_own hT s0 0 Z Z Z Z) (Cells.single (R:=tNode) (x:=mkNode g w E S k) ⟨_,_,_,rfl,hzk⟩) Z (by decide) zom (fun a5 c5 B5 hB5=>?_)
       refine zB14 ?_
       refine⟨⟨a5,u.n+1,c5,B5⟩,sM,OwnLe.skip _ (OwnLe.skip _ (OwnLe.skip _ (OwnLe.skip _ oR))),?_⟩
       dsimp only
       rw[List.take_add_one,hkj,List.map_append]
       exact hB5
     ·intro u F5 hF5 hu
      rw[List.take_of_length_le zo] at hu
      refine AW.freezeAll 0 Z Z (fun F6 hF6 hB6=>?_)
      have huk:=hu.frozen hF6 hB6
      refine zB14 ?_
      exact AW.ret ⟨_,[],⟨_,_,⟨_,rfl,fun G h0 s0=>loadA_cells (s0.has (p:=7) rfl me) (readT_ok hT rfl)⟩,⟨_,_,rfl,rfl,rfl⟩,rfl⟩,zsb,rfl,.inr ⟨h1,.inl ⟨S,u.a,u.n,u.c,rfl,hK,huk,hsumS⟩⟩⟩
def prodN:List Nat→Nat
 | []=>1
 | a::l=>a*prodN l
theorem prodN_le{α:Type}{f h:α→Nat}:∀(l:List α),(∀x∈l,f x≤h x)→prodN (l.map f)≤prodN (l.map h)
 | [],_=>Nat.le_refl _
 | a::l,hl=>Nat.mul_le_mul (hl a me) (prodN_le l fun x hx=>hl x (List.mem_cons_of_mem _ hx))
theorem sumN_le{α:Type}{f h:α→Nat}:∀(l:List α),(∀x∈l,f x≤h x)→(l.map f).sum≤(l.map h).sum
 | [],_=>Nat.le_refl _
 | a::l,hl=>by
  simp only[List.map_cons,List.sum_cons]
  exact Nat.add_le_add (hl a me) (sumN_le l fun x hx=>hl x (List.mem_cons_of_mem _ hx))
theorem prodN_pos{α:Type}{f:α→Nat}:∀(l:List α),(∀x∈l,1≤f x)→1≤prodN (l.map f)
 | [],_=>Nat.le_refl _
 | a::l,hl=>Nat.mul_le_mul (hl a me) (prodN_pos l fun x hx=>hl x (List.mem_cons_of_mem _ hx))
theorem prodN_app:∀(l m:List Nat),prodN (l++m)=prodN l*prodN m
 | [],m=>by simp[prodN]
 | a::l,m=>by simp only[List.cons_append,prodN,prodN_app l m,Nat.mul_assoc]
theorem prodN_zero{l:List Nat}(h:0∈l):prodN l=0:=by
 induction l with
 | nil=>cases h
 | cons a l ih=>
  rcases List.mem_cons.1 h with h | h
  ·simp[prodN,←h]
  ·simp[prodN,ih h]
theorem sumN_mem{α:Type}{f:α→Nat}:∀{l:List α} {x:α},x∈l→f x≤(l.map f).sum
 | a::l,x,h=>by
  simp only[List.map_cons,List.sum_cons]
  rcases List.mem_cons.1 h with rfl | h
  ·omega
  ·have:=sumN_mem (f:=f) h;omega
theorem prodN_ge{l:List Nat}{x:Nat}(h:x∈l)(hp:∀y∈l,1≤y):x≤prodN l:=by
 induction l with
 | nil=>cases h
 | cons a l ih=>
  have h1:1≤prodN l:=by
   have:=prodN_pos (f:=id) l fun y hy=>hp y (List.mem_cons_of_mem _ hy)
   simpa using this
  rcases List.mem_cons.1 h with rfl | h
  ·exact Nat.le_trans zo (Nat.mul_le_mul_left _ h1)
  ·have:=ih h fun y hy=>hp y (List.mem_cons_of_mem _ hy)
   have h2:=hp a me
   exact Nat.le_trans zo (Nat.mul_le_mul h2 this)
def leafN(x:Node):Nat:=if x.key.sym.term=true then 1 else 0
def packN(f:Nat→Nat)(p:NPack):Nat:=prodN (p.kids.map f)
def nodeT(Ns:List Node):Nat→Nat→Nat
 | 0,_=>0
 | d+1,v=>match Ns[v]? with
  | some x=>leafN x+(x.packs.map (packN (nodeT Ns d))).sum
  | none=>0
theorem nodeT_mono(Ns:List Node):∀(d v:Nat),nodeT Ns d v≤nodeT Ns (d+1) v
 | 0,v=>Nat.zero_le _
 | d+1,v=>by
  show nodeT Ns (d+1) v≤nodeT Ns (d+1+1) v
  unfold nodeT
  split
  ·exact Nat.add_le_add_left (sumN_le _ fun p _=>prodN_le _ fun u _=>nodeT_mono Ns d u) _
  ·exact Nat.le_refl _
theorem nodeT_le(Ns:List Node){d e:Nat}(h:d≤e)(v:Nat):nodeT Ns d v≤nodeT Ns e v:=by
 induction e with
 | zero => obtain rfl : d = 0 := by omega
           exact Nat.le_refl _
 | succ e ih=>
  rcases Nat.lt_or_ge d (e+1) with h2 | h2
  ·exact Nat.le_trans (ih zo) (nodeT_mono Ns e v)
  ·obtain rfl:d=e+1:=by omega
   exact Nat.le_refl _
def Still(T:Nat→Nat)(c:Nat):Prop:=∃D,∀d,D≤d→T d=c
theorem Still.uniq{T:Nat→Nat}{a b:Nat}(h:Still T a)(h2:Still T b):a=b:=by
 obtain⟨D,h⟩:=h
 obtain⟨D2,h2⟩:=h2
 rw[←h (max D D2) zo,h2 (max D D2) zo]
noncomputable def limN(T:Nat→Nat):Nat:=@dite _ (∃c,Still T c) (Classical.propDecidable _) (fun h=>h.choose) (fun _=>0)
theorem Still.lim{T:Nat→Nat}{c:Nat}(h:Still T c):Still T (limN T):=by
 unfold limN
 rw[dif_pos ⟨c,h⟩]
 exact(⟨c,h⟩:∃c,Still T c).choose_spec
theorem still_all{α:Type}{T:α→Nat→Nat}{c:α→Nat}:∀(l:List α),(∀x∈l,Still (T x) (c x))→∃D,∀d,D≤d→∀x∈l,T x d=c x
 | [],_=>⟨0,fun _ _ x hx=>by cases hx⟩
 | a::l,h=>by
  obtain⟨D1,h1⟩:=h a me
  obtain⟨D2,h2⟩:=still_all l fun x hx=>h x (List.mem_cons_of_mem _ hx)
  refine⟨max D1 D2,fun d hd x hx=>?_⟩
  rcases List.mem_cons.1 hx with rfl | hx
  ·exact h1 d zo
  ·exact h2 d zo x hx
def Kid(Ns:List Node)(u v:Nat):Prop:=∃x p,Ns[v]?=some x∧p∈x.packs∧u∈p.kids
theorem still_node{Ns:List Node}{v:Nat}{x:Node}(hx:Ns[v]?=some x)(c:Nat→Nat)(h:∀u,Kid Ns u v→Still (fun d=>nodeT Ns d u) (c u)) :
  Still (fun d=>nodeT Ns d v) (leafN x+(x.packs.map (packN c)).sum):=by
 obtain⟨D,hD⟩:=still_all (T:=fun u d=>nodeT Ns d u) (c:=c) (x.packs.flatMap (·.kids)) fun u hu=>by
  obtain⟨p,hp,hu⟩:=List.mem_flatMap.1 hu
  exact h u ⟨x,p,hx,hp,hu⟩
 refine⟨D+1,fun d hd=>?_⟩
 obtain⟨d,rfl⟩:∃d',d=d'+1:=⟨d-1,by omega⟩
 show nodeT Ns (d+1) v=_
 unfold nodeT
 rw[hx]
 simp only
 congr 2
 apply List.map_congr_left
 intro p hp
 unfold packN
 congr 1
 apply List.map_congr_left
 intro u hu
 exact hD d zo u (List.mem_flatMap.2 ⟨p,hp,hu⟩)
inductive Path(Ns:List Node):Nat→Nat→Prop
 | one {v u:Nat}:Kid Ns u v→Path Ns v u
 | step {v u z:Nat}:Path Ns v u→Kid Ns z u→Path Ns v z
theorem Path.trans{Ns:List Node}{a b c:Nat}(h:Path Ns a b)(h2:Path Ns b c):Path Ns a c:=by
 induction h2 with
 | one k=>exact .step h k
 | step _ k ih=>exact .step ih k
def Unbound(T:Nat→Nat):Prop:=∀B,∃d,B≤T d
section
variable {Ns:List Node}(hpr:∀v,v<Ns.length→∃d,1≤nodeT Ns d v)(hkid:∀u v,Kid Ns u v→u<Ns.length)
include hpr hkid
omit hkid in
theorem all_prod:∃D,∀d,D≤d→∀v,v<Ns.length→1≤nodeT Ns d v:=by
 have:∀n,n≤Ns.length→∃D,∀d,D≤d→∀v,v<n→1≤nodeT Ns d v:=by
  intro n
  induction n with
  | zero=>intro _;exact⟨0,fun _ _ v hv=>absurd hv (Nat.not_lt_zero _)⟩
  | succ n ih=>
   intro hn
   obtain⟨D,hD⟩:=ih zo
   obtain⟨e,he⟩:=hpr n zo
   refine⟨max D e,fun d hd v hv=>?_⟩
   rcases Nat.lt_or_ge v n with h | h
   ·exact hD d zo v h
   ·obtain rfl:v=n:=by omega
    exact Nat.le_trans he (nodeT_le Ns zo v)
 exact this _ (Nat.le_refl _)
omit hpr in
theorem kid_le{D:Nat}(hD:∀d,D≤d→∀v,v<Ns.length→1≤nodeT Ns d v){u v:Nat}(hk:Kid Ns u v){d:Nat}(hd:D≤d):nodeT Ns d u≤nodeT Ns (d+1) v:=by
 obtain⟨x,p,hx,hp,hu⟩:=hk
 show _≤nodeT Ns (d+1) v
 conv=>rhs;unfold nodeT
 rw[hx]
 simp only
 refine Nat.le_trans ?_ (Nat.le_trans (sumN_mem (f:=packN (nodeT Ns d)) hp) (Nat.le_add_left _ _))
 refine prodN_ge (List.mem_map_of_mem hu) ?_
 intro y hy
 obtain⟨z,hz,rfl⟩:=List.mem_map.1 hy
 exact hD d hd z (hkid z v ⟨x,p,hx,hp,hz⟩)
omit hpr in
theorem path_le{D:Nat}(hD:∀d,D≤d→∀v,v<Ns.length→1≤nodeT Ns d v){u v:Nat}(h:Path Ns v u):∃L,1≤L∧∀d,D≤d→nodeT Ns d u≤nodeT Ns (d+L) v:=by
 induction h with
 | one k=>exact⟨1,Nat.le_refl _,fun d hd=>kid_le hkid hD k hd⟩
 | @step u z _ k ih=>
  obtain⟨L,h1,h2⟩:=ih
  refine⟨L+1,by omega,fun d hd=>?_⟩
  have h3:=kid_le hkid hD k hd
  have h4:=h2 (d+1) zo
  rw[show d+1+L=d+(L+1) by omega] at h4
  exact Nat.le_trans h3 h4
omit hkid in
theorem least_depth{v:Nat}(hv:v<Ns.length):∃m,nodeT Ns m v=0∧1≤nodeT Ns (m+1) v:=by
 obtain⟨d,hd⟩:=hpr v hv
 induction d with
 | zero=>exact absurd hd (by simp[nodeT])
 | succ d ih=>
  by_cases h:1≤nodeT Ns d v
  ·exact ih h
  ·exact⟨d,by omega,hd⟩
omit hpr in
theorem kid_more{D:Nat}(hD:∀d,D≤d→∀v,v<Ns.length→1≤nodeT Ns d v){u v:Nat}(hk:Kid Ns u v){m:Nat}(hm:1≤nodeT Ns (m+1) v)(hu0:nodeT Ns m u=0){d:Nat}(hd:D≤d)(hdm:m≤d) :
  nodeT Ns d u+1≤nodeT Ns (d+1) v:=by
 obtain⟨x,p,hx,hp,hu⟩:=hk
 have hm':=hm
 unfold nodeT at hm'
 rw[hx] at hm'
 simp only at hm'
 have hnext:nodeT Ns (d+1) v=leafN x+(x.packs.map (packN (nodeT Ns d))).sum:=by
  show nodeT Ns (d+1) v=_
  conv=>lhs;unfold nodeT
  rw[hx]
 rw[hnext]
 obtain⟨l1,l2,hl⟩:=List.append_of_mem hp
 have hp0:packN (nodeT Ns m) p=0:=prodN_zero (by rw[←hu0];exact List.mem_map_of_mem hu)
 have hpd:nodeT Ns d u≤packN (nodeT Ns d) p:=by
  refine prodN_ge (List.mem_map_of_mem hu) ?_
  intro y hy
  obtain⟨z,hz,rfl⟩:=List.mem_map.1 hy
  exact hD d hd z (hkid z v ⟨x,p,hx,hp,hz⟩)
 have mono:∀l:List NPack,(l.map (packN (nodeT Ns m))).sum≤(l.map (packN (nodeT Ns d))).sum:=fun l=>sumN_le l fun q _=>prodN_le _ fun z _=>nodeT_le Ns hdm z
 have m1:=mono l1
 have m2:=mono l2
 rw[hl] at hm' ⊢
 simp only[List.map_append,List.map_cons,List.sum_append,List.sum_cons] at hm' ⊢
 omega
theorem cycle_unbound{u:Nat}(h:Path Ns u u):∃z,Path Ns u z∧(Unbound fun d=>nodeT Ns d z):=by
 obtain⟨D,hD⟩:=all_prod hpr
 have main:∀{a b:Nat},Path Ns a b→∀ma mb,nodeT Ns ma a=0→1≤nodeT Ns (ma+1) a→nodeT Ns mb b=0→1≤nodeT Ns (mb+1) b→ma≤mb→
   ∃v z m,(a=v∨Path Ns a v)∧Kid Ns z v∧(z=b∨Path Ns z b)∧1≤nodeT Ns (m+1) v∧nodeT Ns m z=0:=by
  intro a b hab
  induction hab with
  | @one b k=>
   intro ma mb h1 h2 h3 h4 h5
   exact⟨a,b,ma,.inl rfl,k,.inl rfl,h2,by have:=nodeT_le Ns h5 b;omega⟩
  | @step c b hac k ih=>
   intro ma mb h1 h2 h3 h4 h5
   have hcl:c<Ns.length:=by cases hac with
    | one k=>exact hkid _ _ k
    | step _ k=>exact hkid _ _ k
   obtain⟨mc,g1,g2⟩:=least_depth hpr hcl
   by_cases hmc:ma≤mc
   ·obtain⟨v,z,m,q1,q2,q3,q4,q5⟩:=ih ma mc h1 h2 g1 g2 hmc
    refine⟨v,z,m,q1,q2,.inr ?_,q4,q5⟩
    rcases q3 with rfl | q3
    ·exact .one k
    ·exact .step q3 k
   ·exact⟨c,b,mc,.inr hac,k,.inl rfl,g2,by have:=nodeT_le Ns (show mc≤mb by omega) b;omega⟩
 have hul:u<Ns.length:=by cases h with
  | one k=>exact hkid _ _ k
  | step _ k=>exact hkid _ _ k
 obtain⟨mu,g1,g2⟩:=least_depth hpr hul
 obtain⟨v,z,m,q1,q2,q3,q4,q5⟩:=main h mu mu g1 g2 g1 g2 (Nat.le_refl _)
 have hzv:z=v∨Path Ns z v:=by
  rcases q3 with rfl | q3
  ·rcases q1 with rfl | q1
   ·exact .inl rfl
   ·exact .inr q1
  ·rcases q1 with rfl | q1
   ·exact .inr q3
   ·exact .inr (q3.trans q1)
 obtain⟨L,hL⟩:∃L,∀d,D≤d→nodeT Ns d v≤nodeT Ns (d+L) z:=by
  rcases hzv with rfl | hzv
  ·exact⟨0,fun d _=>Nat.le_refl _⟩
  ·obtain⟨L,_,h2⟩:=path_le hkid hD hzv
   exact⟨L,h2⟩
 refine⟨z,?_,fun B=>?_⟩
 ·rcases q1 with rfl | q1
  ·exact .one q2
  ·exact .step q1 q2
 ·have:∃d,D≤d∧m≤d∧B≤nodeT Ns d z:=by
   induction B with
   | zero=>exact⟨max D m,by omega,by omega,Nat.zero_le _⟩
   | succ B ih=>
    obtain⟨d,h1,h2,h3⟩:=ih
    refine⟨d+1+L,by omega,by omega,?_⟩
    have h4:=kid_more hkid hD q2 q4 q5 h1 h2
    have h5:=hL (d+1) zo
    omega
  obtain⟨d,_,_,h⟩:=this
  exact⟨d,h⟩
theorem path_unbound{v u:Nat}(h:Path Ns v u)(hu:Unbound fun d=>nodeT Ns d u):Unbound fun d=>nodeT Ns d v:=by
 obtain⟨D,hD⟩:=all_prod hpr
 obtain⟨L,_,hL⟩:=path_le hkid hD h
 intro B
 obtain⟨d,hd⟩:=hu B
 refine⟨max d D+L,?_⟩
 have h1:=hL (max d D) zo
 have h2:=nodeT_le Ns (show d≤max d D by omega) u
 dsimp only at hd ⊢
 omega
end
def MAXC:Nat:=1000000000
def CountVal(T:Nat→Nat)(c:Int):Prop:=(∃n,Still T n∧c=(min n MAXC:Nat))∨(Unbound T∧c=-1)
theorem min_mul(a b:Nat):min (min a MAXC*min b MAXC) MAXC=min (a*b) MAXC:=by
 rcases Nat.eq_zero_or_pos a with rfl | ha
 ·simp
 rcases Nat.eq_zero_or_pos b with rfl | hb
 ·simp
 have h1:MAXC=1000000000:=rfl
 by_cases h:a≤MAXC
 ·by_cases h2:b≤MAXC
  ·rw[Nat.min_eq_left h,Nat.min_eq_left h2]
  ·have h3:MAXC≤a*b:=Nat.le_trans zo (Nat.le_mul_of_pos_left b ha)
   have h4:MAXC≤min a MAXC*min b MAXC:=by
    rw[Nat.min_eq_left h,Nat.min_eq_right zo]
    exact Nat.le_mul_of_pos_left _ ha
   rw[Nat.min_eq_right h3,Nat.min_eq_right h4]
 ·have h3:MAXC≤a*b:=Nat.le_trans zo (Nat.le_mul_of_pos_right a hb)
  have h4:MAXC≤min a MAXC*min b MAXC:=by
   rw[Nat.min_eq_right (by omega:MAXC≤a)]
   exact Nat.le_mul_of_pos_right _ zo
  rw[Nat.min_eq_right h3,Nat.min_eq_right h4]
theorem min_add(a b:Nat):min (min a MAXC+min b MAXC) MAXC=min (a+b) MAXC:=by omega
abbrev ci(x:Nat):Value:=.int .i64 (x:Int)
structure CntC(F:Frz)(i1 i2 i3 i4 is ic cap:Nat)(na:Option Addr)(nn nc:Nat)(root:Int):Prop where
 st:F i1=some (.cells false [.slice (some ⟨is,0,none⟩) nn cap])
 f:F i2=some (.cells false [.slice na nn nc,.int .i64 root])
 ct:F i3=some (.cells false [.slice (some ⟨ic,0,none⟩) nn cap])
 self:F i4=some (.cells false [.func (.func 79) ⟨[]⟩ ⟨[.pointer (some ⟨i1,0,none⟩),.pointer (some ⟨i2,0,none⟩),.pointer (some ⟨i3,0,none⟩),.pointer (some ⟨i4,0,none⟩)]⟩])
theorem CntC.mono{F G:Frz}{i1 i2 i3 i4 is ic cap:Nat}{na:Option Addr}{nn nc:Nat}{root:Int}(h:CntC F i1 i2 i3 i4 is ic cap na nn nc root)(hF:Frz.le F G):CntC G i1 i2 i3 i4 is ic cap na nn nc root:=
 ⟨hF _ _ h.st,hF _ _ h.f,hF _ _ h.ct,hF _ _ h.self⟩
structure CInv(Ns:List Node)(st ct:List Nat):Prop where
 l1:st.length=Ns.length
 l2:ct.length=Ns.length
 zero:∀u:Nat,st[u]?=some 0→ct[u]?=some 0
 done:∀u:Nat,st[u]?=some 2→∃c,Still (fun d=>nodeT Ns d u) c∧ct[u]?=some (min c MAXC)
 vals:∀(u x:Nat),st[u]?=some x→x≤2
 bnd:∀(u x:Nat),ct[u]?=some x→x≤MAXC
structure Visited(Ns:List Node)(st ct st' ct':List Nat)(v:Nat):Prop where
 inv:CInv Ns st' ct'
 at_:st'[v]?=some 2
 old:∀(u x:Nat),st[u]?=some x→x≠0→st'[u]?=some x∧ct'[u]?=ct[u]?
 new:∀u:Nat,st'[u]?=some 1→st[u]?=some 1
 fewer:st'.count 0≤st.count 0
def CntB(is ic:Nat)(st ct:List Nat):List (Nat×Blk):=[(is,.cells false (st.map ci)),(ic,.cells false (ct.map ci))]
structure FOk(Ns:List Node):Prop where
 few:Ns.length≤1000000
 packs:∀x∈Ns,x.packs.length≤1000000
 kid:∀u v,Kid Ns u v→u<Ns.length
structure VLoop(Ns:List Node)(st ct:List Nat)(v:Nat)(s c:List Nat)(val:Nat):Prop where
 inv:CInv Ns s c
 at_:s[v]?=some 1
 old:∀(u y:Nat),st[u]?=some y→y≠0→s[u]?=some y∧c[u]?=ct[u]?
 new:∀u:Nat,s[u]?=some 1→u=v∨st[u]?=some 1
 fewer:s.count 0<st.count 0
 val:c[v]?=some (min val MAXC)
theorem VLoop.visit{Ns:List Node}{st ct:List Nat}{v:Nat}{s c s' c':List Nat}{val u:Nat}(h:VLoop Ns st ct v s c val)(hv:Visited Ns s c s' c' u):VLoop Ns st ct v s' c' val where
 inv:=hv.inv
 at_:=(hv.old v 1 h.at_ (by decide)).1
 old:=fun u y h1 h2=>by
  obtain⟨h3,h4⟩:=h.old u y h1 h2
  obtain⟨h5,h6⟩:=hv.old u y h3 h2
  exact⟨h5,h6.trans h4⟩
 new:=fun u h1=>h.new u (hv.new u h1)
 fewer:=Nat.lt_of_le_of_lt hv.fewer h.fewer
 val:=by rw[(hv.old v 1 h.at_ (by decide)).2];exact h.val
noncomputable def limT(Ns:List Node)(u:Nat):Nat:=limN fun d=>nodeT Ns d u
theorem CInv.lim{Ns:List Node}{s c:List Nat}(h:CInv Ns s c){u:Nat}(hu:s[u]?=some 2):Still (fun d=>nodeT Ns d u) (limT Ns u)∧c[u]?=some (min (limT Ns u) MAXC):=by
 obtain⟨x,h1,h2⟩:=h.done u hu
 have h3:=h1.lim
 have e:limN (fun d=>nodeT Ns d u)=x:=h3.uniq h1
 unfold limT
 rw[e]
 exact⟨h1,h2⟩
theorem VLoop.start{Ns:List Node}{st ct:List Nat}{v:Nat}(hI:CInv Ns st ct)(hv:v<Ns.length)(hx:st[v]?=some 0)(hst1:(st.set v 1).count 0<st.count 0)(x:Nat)(hx1:x≤1):VLoop Ns st ct v (st.set v 1) (ct.set v x) x where
 inv:=by
  have l1:=hI.l1
  have l2:=hI.l2
  refine⟨by simp[hI.l1],by simp[hI.l2],fun u hu=>?_,fun u hu=>?_,fun u y hu=>?_,fun u y hu=>?_⟩
  ·by_cases e:u=v
   ·subst e;rw[List.getElem?_set_self zo] at hu;cases hu
   ·rw[List.getElem?_set_ne (Ne.symm e)] at hu ⊢;exact hI.zero u hu
  ·by_cases e:u=v
   ·subst e;rw[List.getElem?_set_self zo] at hu;cases hu
   ·rw[List.getElem?_set_ne (Ne.symm e)] at hu ⊢;exact hI.done u hu
  ·by_cases e:u=v
   ·subst e;rw[List.getElem?_set_self zo] at hu;cases hu;decide
   ·rw[List.getElem?_set_ne (Ne.symm e)] at hu;exact hI.vals u y hu
  ·by_cases e:u=v
   ·subst e;rw[List.getElem?_set_self zo] at hu;cases hu;exact Nat.le_trans hx1 (by decide)
   ·rw[List.getElem?_set_ne (Ne.symm e)] at hu;exact hI.bnd u y hu
 at_:=by rw[List.getElem?_set_self (by rw[hI.l1];exact hv)]
 old:=fun u y h1 h2=>by
  have e:u≠v:=by rintro rfl;rw[hx] at h1;exact h2 (Option.some.inj h1).symm
  rw[List.getElem?_set_ne (Ne.symm e),List.getElem?_set_ne (Ne.symm e)]
  exact⟨h1,rfl⟩
 new:=fun u h1=>by
  by_cases e:u=v
  ·exact .inl e
  ·rw[List.getElem?_set_ne (Ne.symm e)] at h1;exact .inr h1
 fewer:=hst1
 val:=by
  rw[List.getElem?_set_self (by rw[hI.l2];exact hv)]
  rw[Nat.min_eq_left (Nat.le_trans hx1 (by decide))]
theorem VLoop.bump{Ns:List Node}{st ct:List Nat}{v:Nat}{s c:List Nat}{val:Nat}(h:VLoop Ns st ct v s c val)(hx:st[v]?=some 0)(x:Nat):VLoop Ns st ct v s (c.set v (min (min val MAXC+min x MAXC) MAXC)) (val+x) where
 inv:=by
  have l2:=h.inv.l2
  have hv:v<c.length:=(gS h.val).1
  refine⟨h.inv.l1,by simp[l2],fun u hu=>?_,fun u hu=>?_,h.inv.vals,fun u y hu=>?_⟩
  ·have e:u≠v:=by rintro rfl;rw[h.at_] at hu;cases hu
   rw[List.getElem?_set_ne (Ne.symm e)];exact h.inv.zero u hu
  ·have e:u≠v:=by rintro rfl;rw[h.at_] at hu;cases hu
   rw[List.getElem?_set_ne (Ne.symm e)];exact h.inv.done u hu
  ·by_cases e:u=v
   ·subst e;rw[List.getElem?_set_self hv] at hu;cases hu;exact Nat.min_le_right _ _
   ·rw[List.getElem?_set_ne (Ne.symm e)] at hu;exact h.inv.bnd u y hu
 at_:=h.at_
 old:=fun u y h1 h2=>by
  have e:u≠v:=by rintro rfl;rw[hx] at h1;exact h2 (Option.some.inj h1).symm
  rw[List.getElem?_set_ne (Ne.symm e)]
  exact h.old u y h1 h2
 new:=h.new
 fewer:=h.fewer
 val:=by rw[List.getElem?_set_self (gS h.val).1,min_add]
theorem VLoop.finish{Ns:List Node}{st ct:List Nat}{v:Nat}{s c:List Nat}{val:Nat}(h:VLoop Ns st ct v s c val)(hx:st[v]?=some 0)(hs:Still (fun d=>nodeT Ns d v) val):Visited Ns st ct (s.set v 2) c v:=by
 have hv:v<s.length:=(gS h.at_).1
 refine⟨⟨by simp[h.inv.l1],h.inv.l2,fun u hu=>?_,fun u hu=>?_,fun u y hu=>?_,h.inv.bnd⟩,by rw[List.getElem?_set_self hv],fun u y h1 h2=>?_,fun u h1=>?_,?_⟩
 ·by_cases e:u=v
  ·subst e;rw[List.getElem?_set_self hv] at hu;cases hu
  ·rw[List.getElem?_set_ne (Ne.symm e)] at hu;exact h.inv.zero u hu
 ·by_cases e:u=v
  ·subst e;exact⟨val,hs,h.val⟩
  ·rw[List.getElem?_set_ne (Ne.symm e)] at hu;exact h.inv.done u hu
 ·by_cases e:u=v
  ·subst e;rw[List.getElem?_set_self hv] at hu;cases hu;decide
  ·rw[List.getElem?_set_ne (Ne.symm e)] at hu;exact h.inv.vals u y hu
 ·have e:u≠v:=by rintro rfl;rw[hx] at h1;exact h2 (Option.some.inj h1).symm
  rw[List.getElem?_set_ne (Ne.symm e)]
  exact h.old u y h1 h2
 ·by_cases e:u=v
  ·subst e;rw[List.getElem?_set_self hv] at h1;cases h1
  ·rw[List.getElem?_set_ne (Ne.symm e)] at h1
   rcases h.new u h1 with h3 | h3
   ·exact absurd h3 e
   ·exact h3
 ·have:=List.count_set (a:=2) (b:=0) hv
  have h5:s[v]=1:=by have:=h.at_;rw[gE hv] at this;exact Option.some.inj this
  rw[this,h5]
  simp
  exact Nat.le_of_lt h.fewer
structure VSt where
 st:List Nat
 ct:List Nat
 x:Nat
theorem ci_at{l:List Nat}{v x:Nat}(h:l[v]?=some x):(l.map ci)[0+v*1]?=some (ci x):=by
 rw[Nat.zero_add,Nat.mul_one,List.getElem?_map,h];rfl
theorem ci_set(l:List Nat)(v x:Nat):(l.map ci).set (0+v*1) (ci x)=(l.set v x).map ci:=by
 rw[Nat.zero_add,Nat.mul_one,List.map_set]
theorem visit_spec{i1 i2 i3 i4 is ic cap:Nat}{na:Option Addr}{nn nc:Nat}{root:Int}{Ns:List Node}(hok:FOk Ns) :
  ∀(N:Nat) (F:Frz) (hC:CntC F i1 i2 i3 i4 is ic cap na nn nc root) (hN:Arr tNode F na nn nc Ns) (st ct:List Nat) (hI:CInv Ns st ct) (hz:st.count 0<N) (v:Nat) (hv:v<Ns.length) (hpre:∀u:Nat,st[u]?=some 1→Path Ns u v),
  Abs.Spec CC 79 [.int .i64 v,.pointer (some ⟨i1,0,none⟩),.pointer (some ⟨i2,0,none⟩),.pointer (some ⟨i3,0,none⟩),.pointer (some ⟨i4,0,none⟩)] F [CntB is ic st ct]
   fun F' r o=>∃B',o=[B']∧∃st' ct' b,B'=CntB is ic st' ct'∧r=.bool b∧(b=true→Visited Ns st ct st' ct' v)∧(b=false→∃u,(u=v∨Path Ns v u)∧Path Ns u u)
 | 0,F,hC,hN,st,ct,hI,hz,v,hv,hpre=>absurd hz (Nat.not_lt_zero _)
 | N+1,F,hC,hN,st,ct,hI,hz,v,hv,hpre=>by
  obtain⟨h1,h2,h3,h4⟩:=id hC
  have hNl:=hN.len
  have hfew:=hok.few
  unfold CntB
  obtain⟨x,hx⟩:∃x,st[v]?=some x:=⟨_,gE (by rw[hI.l1];exact hv)⟩
  have hx2:=hI.vals v x hx
  refine Abs.Spec.fn (n:=77) Tryz.func79 rfl rfl fun own=>?_
  refine zB4 ?_
  refine WT.idxA (j:=v) (s:=1) hT Z Z Z Z Z Z Z Z Z zo ?_
  refine WT.loadAt hT 0 Z Z Z Z Z Z me Z Z (ci_at hx) ?_
  refine zB4 ?_
  refine AW.cond Z (fun h=>?_) (fun h=>?_)
  ·have h:0<x:=by simp at h;omega
   refine zB4 ?_
   refine WT.idxA (j:=v) (s:=1) hT Z Z Z Z Z Z Z Z Z zo ?_
   refine WT.loadAt hT 0 Z Z Z Z Z Z me Z Z (ci_at hx) ?_
   refine zB4 ?_
   refine AW.ret ⟨_,[_],⟨_,_,rfl,rfl,rfl⟩,zsb,_,rfl,st,ct,_,rfl,rfl,fun hb=>?_,fun hb=>?_⟩
   ·have hb:x=2:=by simp at hb;omega
    subst hb
    exact⟨hI,hx,fun u y h1 _=>⟨h1,rfl⟩,fun u h=>h,Nat.le_refl _⟩
   ·have hb:x=1:=by simp at hb;omega
    subst hb
    exact⟨v,.inl rfl,hpre v hx⟩
  ·have h:x=0:=by simp at h;omega
   subst h
   have hvl:v<st.length:=by rw[hI.l1];exact hv
   have hvl2:v<ct.length:=by rw[hI.l2];exact hv
   have hst1:(st.set v 1).count 0<st.count 0:=by
    have:=List.count_set (a:=1) (b:=0) hvl
    have h5:st[v]=0:=by rw[gE hvl] at hx;exact Option.some.inj hx
    have h6:0<st.count 0:=List.count_pos_iff.2 (gM hx)
    rw[this,h5];simp;omega
   obtain⟨nd,hnd⟩:∃nd,Ns[v]?=some nd:=⟨_,gE hv⟩
   have hndp:=hok.packs nd (gM hnd)
   refine zB4 ?_
   refine WT.idxA (j:=v) (s:=1) hT Z Z Z Z Z Z Z Z Z zo ?_
   refine WT.storeAt hT 0 0 Z Z Z Z Z Z Z Z Z Z (by simp;omega) Z Z ?_
   rw[show (st.map ci).set (0+v*1) (.int .i64 1)=(st.set v 1).map ci from ci_set st v 1]
   refine zB4 ?_
   refine WT.idxL hT hN Z Z Z Z Z Z Z Z Z zo (fun nd' hnd' b5 off5 ro5 cs5 lx5 hb5 hp5 hrel5=>?_)
   obtain rfl:nd'=nd:=by rw[hnd] at hnd';exact(Option.some.inj hnd').symm
   obtain⟨pa,pn,pc,rfl,hpa⟩:=hrel5
   have hpal:=hpa.len
   refine zB4 ?_
   refine WT.allocT hT Z Z Z Z Z Z (fun i7 hi7=>?_)
   refine zB4 ?_
   refine AW.jnT (S:=Unit) (fun _=>[]) (fun _=>[(i7,.cells false [.bool nd'.key.sym.term,.int .i64 nd'.key.sym.n,.int .i64 nd'.key.frm,.int .i64 nd'.key.to,.slice pa pn pc])]::CntB is ic (st.set v 1) (ct.set v (leafN nd'))::own) (fun _ _=>True) ?_ (fun _ F1 hF1 _=>?_)
   ·refine AW.cond Z (fun h=>?_) (fun h=>?_)
    ·have hle:leafN nd'=1:=by unfold leafN;rw[if_pos h]
     refine zB4 ?_
     refine WT.idxA (j:=v) (s:=1) hT Z Z Z Z Z Z Z Z Z zo ?_
     refine WT.storeAt hT 1 1 Z Z Z Z Z Z Z Z Z Z (by simp;omega) Z Z ?_
     refine zB4 ?_
     refine⟨(),sM,?_,trivial⟩
     rw[hle]
     unfold CntB
     rw[←show (ct.map ci).set (0+v*1) (.int .i64 1)=(ct.set v 1).map ci from ci_set ct v 1]
     exact OwnLe.refl _
    ·have hle:leafN nd'=0:=by unfold leafN;rw[if_neg (by simpa using h)]
     refine zB4 ?_
     refine⟨(),sM,?_,trivial⟩
     have h0:ct.set v 0=ct:=by
      apply List.ext_getElem?
      intro j
      by_cases hj:j=v
      ·subst hj;rw[List.getElem?_set_self hvl2,hI.zero _ hx]
      ·rw[List.getElem?_set_ne (Ne.symm hj)]
     rw[hle,h0]
     exact OwnLe.refl _
   ·have hC1:=hC.mono hF1
    have hN1:=hN.mono hF1
    have hpa1:=hpa.mono hF1
    refine zB4 ?_
    refine AW.range (S:=VSt) (fun _=>[]) (fun z=>[(i7,.cells false [.bool nd'.key.sym.term,.int .i64 nd'.key.sym.n,.int .i64 nd'.key.frm,.int .i64 nd'.key.to,.slice pa pn pc])]::CntB is ic z.st z.ct::own)
     (fun j z G=>VLoop Ns st ct v z.st z.ct (leafN nd'+((nd'.packs.take j).map (packN (limT Ns))).sum)∧∀p∈nd'.packs.take j,∀u∈p.kids,z.st[u]?=some 2) pn ⟨st.set v 1,ct.set v (leafN nd'),0⟩
     Z Z Z Z Z Z Z Z Z zo rfl rfl (fun _=>rfl) (fun _=>rfl) sM oR ⟨by simpa using VLoop.start hI hv hx hst1 (leafN nd') (by unfold leafN;split<;>omega),by simp⟩ ?_ ?_
    ·intro j z F2 hF2 hj hz2
     obtain⟨hz2,hz3⟩:=hz2
     have hC2:=hC1.mono hF2
     have hN2:=hN1.mono hF2
     have hpa2:=hpa1.mono hF2
     refine zB4 ?_
     refine WT.idxL hT hpa2 Z Z Z Z Z Z Z Z Z zo (fun p hpj b6 off6 ro6 cs6 lx6 hb6 hp6 hrel6=>?_)
     obtain⟨ka,kn,kc,rfl,hka,hkb⟩:=hrel6
     have hkal:=hka.len
     have hpm:=gM hpj
     refine zB4 ?_
     refine WT.allocT hT Z Z Z Z Z Z (fun i9 hi9=>?_)
     refine zB4 ?_
     refine AW.range (S:=VSt) (fun z=>[(10,.int .i64 (z.x:Nat))]) (fun z=>[(i9,.cells false [.int .i64 p.rule,.slice ka kn kc])]::[(i7,.cells false [.bool nd'.key.sym.term,.int .i64 nd'.key.sym.n,.int .i64 nd'.key.frm,.int .i64 nd'.key.to,.slice pa pn pc])]::CntB is ic z.st z.ct::own)
      (fun q z G=>VLoop Ns st ct v z.st z.ct (leafN nd'+((nd'.packs.take j).map (packN (limT Ns))).sum)∧(∀p∈nd'.packs.take j,∀u∈p.kids,z.st[u]?=some 2)∧(∀u∈p.kids.take q,z.st[u]?=some 2)∧z.x=min (prodN ((p.kids.take q).map (limT Ns))) MAXC) kn ⟨z.st,z.ct,1⟩
      Z Z Z Z Z Z Z Z Z zo rfl rfl (fun _=>rfl) (fun _=>rfl) sM oR ⟨hz2,hz3,by simp,by simp[prodN];decide⟩ ?_ ?_
     ·intro q y F3 hF3 hq hy
      obtain⟨hy2,hy3,hy4,hy5⟩:=hy
      obtain⟨g1,g2,g3,g4⟩:=id (hC2.mono hF3)
      have hN3:=hN2.mono hF3
      have hka3:=hka.mono hF3
      refine zB4 ?_
      refine WT.idxL hT hka3 Z Z Z Z Z Z Z Z Z zo (fun u huq b8 off8 ro8 cs8 lx8 hb8 hp8 hrel8=>?_)
      obtain rfl:lx8=_:=hrel8
      have hkid:Kid Ns u v:=⟨nd',p,hnd,hpm,gM huq⟩
      refine zB4 ?_
      refine WT.callC1F 2 Tryz.func79 Z Z Z Z Z Z Z Z Z (fun _=>rfl) (visit_spec hok N F3 (hC2.mono hF3) hN3 y.st y.ct hy2.inv (by have:=hy2.fewer;omega) u (hok.kid u v hkid) (fun u' hu'=>?_)) (fun F4 r B4 hF4 hr=>?_)
      ·rcases hy2.new u' hu' with rfl | h5
       ·exact .one hkid
       ·exact .step (hpre u' h5) hkid
      ·obtain⟨st',ct',bb,rfl,rfl,hbt,hbf⟩:=hr
       cases bb with
       | false=>
        refine zB4 ?_
        refine AW.cond Z (fun _=>?_) (fun e=>(by cases e))
        refine zB4 ?_
        refine AW.ret ⟨_,[_],⟨_,_,rfl,rfl,rfl⟩,zsb,_,rfl,st',ct',false,rfl,rfl,fun e=>(by cases e),fun _=>?_⟩
        obtain⟨x1,hx1,hx2⟩:=hbf rfl
        refine⟨x1,.inr ?_,hx2⟩
        rcases hx1 with rfl | hx1
        ·exact .one hkid
        ·exact Path.trans (.one hkid) hx1
       | true=>
        have hV:=hbt rfl
        obtain⟨hs1,hs2⟩:=hV.inv.lim hV.at_
        have hy6:=hy2.visit hV
        have hul:u<Ns.length:=hok.kid u v hkid
        have hyx:y.x≤MAXC:=by rw[hy5];exact Nat.min_le_right _ _
        have hMC:MAXC=1000000000:=rfl
        have hml:min (limT Ns u) MAXC≤MAXC:=Nat.min_le_right _ _
        have hmm:y.x*min (limT Ns u) MAXC≤1000000000*1000000000:=Nat.mul_le_mul zo zo
        unfold CntB
        have g3:=hF4 _ _ g3
        refine zB4 ?_
        refine AW.cond Z (fun e=>(by cases e)) (fun _=>?_)
        refine zB4 ?_
        refine WT.idxA (j:=u) (s:=1) hT Z Z Z Z Z Z Z Z Z zo ?_
        refine WT.loadAt hT 2 Z Z Z Z Z Z (List.mem_cons_of_mem _ me) Z Z (ci_at hs2) ?_
        refine WT.mulT Z Z Z Z Z Z zo ?_
        refine WT.know (v':=.int .i64 ((y.x*min (limT Ns u) MAXC:Nat):Int)) 60 Z (by congr 1) ?_
        refine WT.minT (x:=y.x*min (limT Ns u) MAXC) (y:=MAXC) Z Z Z Z Z Z ?_
        refine zB4 ?_
        refine⟨⟨st',ct',min (y.x*min (limT Ns u) MAXC) MAXC⟩,sM,OwnLe.refl _,hy6,fun p' hp' u' hu'=>(hV.old u' 2 (hy3 p' hp' u' hu') (by decide)).1,fun u' hu'=>?_,?_⟩
        ·rw[List.take_add_one,huq] at hu'
         rcases List.mem_append.1 hu' with hu' | hu'
         ·exact(hV.old u' 2 (hy4 u' hu') (by decide)).1
         ·obtain rfl:=List.mem_singleton.1 hu'
          exact hV.at_
        ·dsimp only
         rw[List.take_add_one,huq,List.map_append,prodN_app,hy5,min_mul]
         simp[prodN]
     ·intro y F3 hF3 hy
      obtain⟨hy2,hy3,hy4,hy5⟩:=hy
      rw[List.take_of_length_le zo] at hy4 hy5
      obtain⟨g1,g2,g3,g4⟩:=id (hC2.mono hF3)
      have hMC:MAXC=1000000000:=rfl
      have hyx:y.x≤MAXC:=by rw[hy5];exact Nat.min_le_right _ _
      have hvl:min (leafN nd'+((nd'.packs.take j).map (packN (limT Ns))).sum) MAXC≤MAXC:=Nat.min_le_right _ _
      have hyl:=hy2.inv.l2
      unfold CntB
      refine zB4 ?_
      refine WT.idxA (j:=v) (s:=1) hT Z Z Z Z Z Z Z Z Z zo ?_
      refine WT.loadAt hT 2 Z Z Z Z Z Z (List.mem_cons_of_mem _ me) Z Z (ci_at hy2.val) ?_
      refine zB4 ?_
      obtain⟨vv,hvv⟩:∃vv,min (leafN nd'+((nd'.packs.take j).map (packN (limT Ns))).sum) MAXC=vv:=⟨_,rfl⟩
      rw[hvv]
      refine WT.know (v':=.int .i64 ((vv+y.x:Nat):Int)) 70 Z (by congr 1) ?_
      refine WT.minT (x:=vv+y.x) (y:=MAXC) Z Z Z Z Z Z ?_
      skip
      refine WT.idxA (j:=v) (s:=1) hT Z Z Z Z Z Z Z Z Z zo ?_
      refine WT.storeAt hT 2 1 Z Z Z Z Z Z Z Z Z Z (by simp;omega) Z Z ?_
      rw[show (y.ct.map ci).set (0+v*1) (.int .i64 ((Nat.min (vv+y.x) MAXC:Nat):Int))=(y.ct.set v (min (vv+y.x) MAXC)).map ci from ci_set y.ct v _]
      refine zB4 ?_
      refine⟨⟨y.st,y.ct.set v (min (vv+y.x) MAXC),0⟩,sM,OwnLe.skip _ oR,?_,fun p' hp' u' hu'=>?_⟩
      ·dsimp only
       rw[List.take_add_one,hpj,←hvv,hy5,List.map_append,List.sum_append,←Nat.add_assoc]
       have:=hy2.bump hx (packN (limT Ns) p)
       simpa [packN] using this
      ·rw[List.take_add_one,hpj] at hp'
       rcases List.mem_append.1 hp' with hp' | hp'
       ·exact hy3 p' hp' u' hu'
       ·obtain rfl:=List.mem_singleton.1 hp'
        exact hy4 u' hu'
    ·intro z F2 hF2 hz2
     obtain⟨hz2,hz3⟩:=hz2
     rw[List.take_of_length_le zo] at hz2 hz3
     obtain⟨g1,g2,g3,g4⟩:=id (hC1.mono hF2)
     have hzl:=hz2.inv.l1
     unfold CntB
     refine zB4 ?_
     refine WT.idxA (j:=v) (s:=1) hT Z Z Z Z Z Z Z Z Z zo ?_
     refine WT.storeAt hT 1 0 Z Z Z Z Z Z Z Z Z Z (by simp;omega) Z Z ?_
     rw[show (z.st.map ci).set (0+v*1) (.int .i64 2)=(z.st.set v 2).map ci from ci_set z.st v 2]
     refine zB4 ?_
     refine AW.ret ⟨_,[_],⟨_,_,rfl,rfl,rfl⟩,zsb,_,rfl,z.st.set v 2,z.ct,true,rfl,rfl,fun _=>?_,fun e=>(by cases e)⟩
     refine hz2.finish hx (still_node hnd (limT Ns) fun u hu=>?_)
     obtain⟨x',p',h5,h6,h7⟩:=hu
     rw[hnd] at h5
     obtain rfl:=Option.some.inj h5
     exact(hz2.inv.lim (hz3 p' h6 u h7)).1
def Prod(Ns:List Node):Prop:=∀v,v<Ns.length→∃d,1≤nodeT Ns d v
theorem count_spec(F:Frz){Ns:List Node}(hok:FOk Ns)(hpr:Prod Ns){na:Option Addr}{nn nc:Nat}(hN:Arr tNode F na nn nc Ns)(root:Nat)(hroot:root<Ns.length) :
  Abs.Spec CC 52 [.agg ⟨[.slice na nn nc,.int .i64 root]⟩] F [] fun F' r o=>o=[]∧∃c,r=.int .i64 c∧CountVal (fun d=>nodeT Ns d root) c:=by
 have hNl:=hN.len
 have hfew:=hok.few
 refine Abs.Spec.fn (n:=28) Tryz.func52 rfl rfl fun own=>?_
 refine AW.seq (AW.reg ?_)
 refine WT.boxT Z Z Z Z Z Z (fun i1 hi1=>?_)
 refine zB4 ?_
 refine AW.cond Z (fun h=>(by simp at h;omega)) (fun _=>?_)
 refine zB4 ?_
 refine WT.makeT (l:=nn) hT Z Z Z Z Z Z Z Z Z Z Z Z zom (fun ic hic=>?_)
 rw[cap_eq]
 skip
 refine WT.allocT hT Z Z Z Z Z Z (fun i3 hi3=>?_)
 refine zB4 ?_
 refine WT.makeT (l:=nn) hT Z Z Z Z Z Z Z Z Z Z Z Z zom (fun is his=>?_)
 rw[cap_eq]
 skip
 refine WT.allocT hT Z Z Z Z Z Z (fun i4 hi4=>?_)
 refine zB8 ?_
 refine WT.allocT hT Z Z Z Z Z Z (fun i5 hi5=>?_)
 refine zB8 ?_
 refine WT.freezeAll 0 Z Z (fun G1 hG1 hB1=>?_)
 refine WT.freezeAll 1 Z Z (fun G2 hG2 hB2=>?_)
 refine WT.freezeAll 3 Z Z (fun G3 hG3 hB3=>?_)
 refine WT.freezeAll 5 Z Z (fun G4 hG4 hB4=>?_)
 have f5:=hG4 _ _ (hG3 _ _ (hG2 _ _ (hB1 i5 _ me)))
 have f4:=hG4 _ _ (hG3 _ _ (hB2 i4 _ me))
 have f3:=hG4 _ _ (hB3 i3 _ me)
 have f1:=hB4 i1 _ me
 have hG:=hG1.trans (hG2.trans (hG3.trans hG4))
 have e0:CntB is ic (List.replicate nn 0) (List.replicate nn 0)=[(is,.cells false (List.replicate nn (.int .i64 0))),(ic,.cells false (List.replicate nn (.int .i64 0)))]:=by
  unfold CntB;rw[List.map_replicate];rfl
 refine WT.le (own2:=CntB is ic (List.replicate nn 0) (List.replicate nn 0)::own) (by rw[e0];exact OwnLe.flat (List.Perm.refl _)) ?_
 have hrep:∀(u x:Nat),(List.replicate nn 0)[u]?=some x→x=0:=fun u x h=>List.eq_of_mem_replicate (gM h)
 have hI0:CInv Ns (List.replicate nn 0) (List.replicate nn 0):=by
  refine⟨by simp;omega,by simp;omega,fun u h=>h,fun u h=>?_,fun u x h=>?_,fun u x h=>?_⟩
  ·have:=hrep u 2 h;omega
  ·rw[hrep u x h];omega
  ·rw[hrep u x h];exact Nat.zero_le _
 refine WT.callC1F 0 Tryz.func79 Z Z Z Z Z Z Z Z Z (fun _=>rfl) (visit_spec hok _ G4 ⟨f4,f1,f3,f5⟩ (hN.mono hG) _ _ hI0 (Nat.lt_succ_self _) root hroot (fun u h=>by have:=hrep u 1 h;omega)) (fun F4 r B4 hF4 hr=>?_)
 obtain⟨st',ct',bb,rfl,rfl,hbt,hbf⟩:=hr
 have f1:=hF4 _ _ f1
 have f3:=hF4 _ _ f3
 cases bb with
 | false=>
  refine zB4 ?_
  refine AW.cond Z (fun _=>?_) (fun e=>(by cases e))
  refine zB4 ?_
  refine AW.ret ⟨_,[],⟨_,_,rfl,rfl,rfl⟩,zsb,rfl,-1,rfl,.inr ⟨?_,rfl⟩⟩
  obtain⟨u,hu1,hu2⟩:=hbf rfl
  obtain⟨z,hz1,hz2⟩:=cycle_unbound hpr hok.kid hu2
  refine path_unbound hpr hok.kid ?_ hz2
  rcases hu1 with rfl | hu1
  ·exact hz1
  ·exact hu1.trans hz1
 | true=>
  have hV:=hbt rfl
  obtain⟨hs1,hs2⟩:=hV.inv.lim hV.at_
  unfold CntB
  refine zB4 ?_
  refine AW.cond Z (fun e=>(by cases e)) (fun _=>?_)
  refine zB4 ?_
  refine WT.idxA (j:=root) (s:=1) hT Z Z Z Z Z Z Z Z Z zo ?_
  refine WT.loadAt hT 0 Z Z Z Z Z Z (List.mem_cons_of_mem _ me) Z Z (ci_at hs2) ?_
  refine zB4 ?_
  exact AW.ret ⟨_,[],⟨_,_,rfl,rfl,rfl⟩,zsb,rfl,_,rfl,.inl ⟨_,hs1,rfl⟩⟩
def listT(f:Sym→Nat→Nat→Nat):List Sym→Nat→Nat→Nat
 | [],i,j=>if i=j then 1 else 0
 | s::l,i,j=>((List.range (j+1)).map fun m=>f s i m*listT f l m j).sum
def symT(g:Gram)(w:List Nat):Nat→Sym→Nat→Nat→Nat
 | 0,_,_,_=>0
 | d+1,s,i,j=>if s.term=true then (if w[i]?=some s.n∧j=i+1 then 1 else 0)
   else (g.rules.map fun r=>if r.left=s.n then listT (symT g w d) r.right i j else 0).sum
theorem sum_pos{l:List Nat}(h:1≤l.sum):∃x∈l,1≤x:=by
 induction l with
 | nil=>simp at h
 | cons a l ih=>
  by_cases ha:1≤a
  ·exact⟨a,List.mem_cons_self ..,ha⟩
  ·rw[List.sum_cons] at h
   obtain⟨x,hx,h2⟩:=ih zo
   exact⟨x,List.mem_cons_of_mem _ hx,h2⟩
theorem listT_pos{g:Gram}{w:List Nat}{f:Sym→Nat→Nat→Nat}(hf:∀s i j,1≤f s i j→Der g w s i j):∀{l:List Sym} {i j:Nat},1≤listT f l i j→Ders g w l i j
 | [],i,j,h=>by
  unfold listT at h
  split at h
  ·rename_i e;subst e;exact .nil
  ·omega
 | s::l,i,j,h=>by
  unfold listT at h
  obtain⟨x,hx,h2⟩:=sum_pos h
  obtain⟨m,_,rfl⟩:=List.mem_map.1 hx
  have h3:1≤f s i m:=by
   rcases Nat.eq_zero_or_pos (f s i m) with e | e
   ·rw[e,Nat.zero_mul] at h2;omega
   ·exact e
  have h4:1≤listT f l m j:=by
   rcases Nat.eq_zero_or_pos (listT f l m j) with e | e
   ·rw[e,Nat.mul_zero] at h2;omega
   ·exact e
  exact .cons (hf s i m h3) (listT_pos hf h4)
theorem symT_der{g:Gram}{w:List Nat}:∀{d:Nat} {s:Sym} {i j:Nat},1≤symT g w d s i j→Der g w s i j
 | 0,s,i,j,h=>absurd h (by simp[symT])
 | d+1,s,i,j,h=>by
  obtain⟨st,sn⟩:=s
  unfold symT at h
  cases st with
  | true=>
   simp only[if_true] at h
   split at h
   ·rename_i e
    obtain⟨e1,rfl⟩:=e
    exact .term e1
   ·omega
  | false=>
   simp only[Bool.false_eq_true,if_false] at h
   obtain⟨x,hx,h2⟩:=sum_pos h
   obtain⟨r,hr,rfl⟩:=List.mem_map.1 hx
   split at h2
   ·rename_i e
    subst e
    exact .non hr (listT_pos (fun s i j h=>symT_der h) h2)
   ·omega
theorem listT_mono{f h:Sym→Nat→Nat→Nat}(hf:∀s i j,f s i j≤h s i j):∀(l:List Sym) (i j:Nat),listT f l i j≤listT h l i j
 | [],i,j=>Nat.le_refl _
 | s::l,i,j=>sumN_le _ fun m _=>Nat.mul_le_mul (hf s i m) (listT_mono hf l m j)
theorem symT_mono(g:Gram)(w:List Nat):∀(d:Nat) (s:Sym) (i j:Nat),symT g w d s i j≤symT g w (d+1) s i j
 | 0,s,i,j=>Nat.zero_le _
 | d+1,s,i,j=>by
  show symT g w (d+1) s i j≤symT g w (d+1+1) s i j
  unfold symT
  split
  ·exact Nat.le_refl _
  ·refine sumN_le _ fun r _=>?_
   split
   ·exact listT_mono (fun s i j=>symT_mono g w d s i j) _ _ _
   ·exact Nat.le_refl _
theorem symT_le(g:Gram)(w:List Nat){d e:Nat}(h:d≤e)(s:Sym)(i j:Nat):symT g w d s i j≤symT g w e s i j:=by
 induction e with
 | zero => obtain rfl : d = 0 := by omega
           exact Nat.le_refl _
 | succ e ih=>
  rcases Nat.lt_or_ge d (e+1) with h2 | h2
  ·exact Nat.le_trans (ih zo) (symT_mono g w e s i j)
  ·obtain rfl:d=e+1:=by omega
   exact Nat.le_refl _
theorem der_symT{g:Gram}{w:List Nat}{s:Sym}{i j:Nat}(h:Der g w s i j):∃d,1≤symT g w d s i j:=by
 refine Der.rec (motive_1:=fun s i j _=>∃d,1≤symT g w d s i j) (motive_2:=fun l i j _=>∃d,1≤listT (symT g w d) l i j) ?_ ?_ ?_ ?_ h
 ·intro t i h
  exact⟨1,by unfold symT;simp[h]⟩
 ·intro r i j hr _ ih
  obtain⟨d,hd⟩:=ih
  refine⟨d+1,?_⟩
  unfold symT
  simp only[Bool.false_eq_true,if_false]
  refine Nat.le_trans ?_ (sumN_mem (f:=fun r':Rule=>if r'.left=r.left then listT (symT g w d) r'.right i j else 0) hr)
  simpa using hd
 ·intro i;exact⟨0,by simp[listT]⟩
 ·intro s l i m j h1 h2 ih1 ih2
  obtain⟨d1,h3⟩:=ih1
  obtain⟨d2,h4⟩:=ih2
  have hmj:=ders_le h2
  refine⟨max d1 d2,?_⟩
  unfold listT
  refine Nat.le_trans ?_ (sumN_mem (f:=fun m=>symT g w (max d1 d2) s i m*listT (symT g w (max d1 d2)) l m j) (List.mem_range.2 (show m<j+1 by omega)))
  exact Nat.mul_le_mul (Nat.le_trans h3 (symT_le g w zo s i m)) (Nat.le_trans h4 (listT_mono (fun s i j=>symT_le g w zo s i j) l m j))
theorem sum_flat{α β:Type}(f:α→List β)(h:β→Nat):∀l:List α,((l.flatMap f).map h).sum=(l.map fun a=>((f a).map h).sum).sum
 | []=>rfl
 | a::l=>by rw[List.flatMap_cons,List.map_append,List.sum_append,List.map_cons,List.sum_cons,sum_flat f h l]
theorem splits_sum{w:List Nat}{E:List (List Nat)}{to:Nat}{f:Sym→Nat→Nat→Nat}(hf:∀s i m,stepB w E s i m=false→i≤w.length→m≤to→f s i m=0)(hto:to≤w.length):∀(l:List Sym) (i:Nat),i≤w.length→
  ((splits w E to l i).map fun ks=>prodN (ks.map fun q=>f q.sym q.frm q.to)).sum=listT f l i to
 | [],i,hi=>by
  unfold splits listT
  split<;>simp[prodN]
 | s::l,i,hi=>by
  unfold splits listT
  rw[sum_flat]
  congr 1
  apply List.map_congr_left
  intro m hm
  have hm:=List.mem_range.1 hm
  split
  ·rw[List.map_map,←splits_sum hf hto l m zo]
   clear hf
   generalize splits w E to l m=L
   induction L with
   | nil=>simp
   | cons a L ih=>
    simp only[List.map_cons,List.sum_cons,Function.comp_apply,prodN,Nat.mul_add]
    simp only[Function.comp_def] at ih
    rw[←ih]
    simp[Function.comp_def,prodN]
  ·rename_i h
   rw[hf s i m (by simpa using h) hi zo]
   simp
theorem rules_sum{α:Type}(h:α→Nat)(f:Nat→Rule→List α):∀(rs:List Rule) (k:Nat),(((List.range rs.length).flatMap fun i=>match rs[i]? with | some r=>f (k+i) r | none=>[]).map h).sum=(rs.zipIdx k |>.map fun p=>((f p.2 p.1).map h).sum).sum
 | [],k=>by simp
 | r::rs,k=>by
  have ih:=rules_sum h f rs (k+1)
  rw[List.length_cons,List.range_succ_eq_map,List.flatMap_cons,List.map_append,List.sum_append,List.zipIdx_cons,List.map_cons,List.sum_cons,←ih]
  simp only[List.getElem?_cons_zero,Nat.add_zero,List.flatMap_map]
  congr 4
  funext i
  simp only[List.getElem?_cons_succ,Nat.succ_eq_add_one]
  rw[show k+(i+1)=k+1+i by omega]
theorem zip_sum{f:Rule→Nat}:∀(rs:List Rule) (k:Nat),(rs.zipIdx k |>.map fun p=>f p.1).sum=(rs.map f).sum
 | [],k=>by simp
 | r::rs,k=>by rw[List.zipIdx_cons,List.map_cons,List.map_cons,List.sum_cons,List.sum_cons,zip_sum rs (k+1)]
def StepK(w:List Nat)(E:List (List Nat))(k:Key):Prop:=stepB w E k.sym k.frm k.to=true
theorem splits_step{w:List Nat}{E:List (List Nat)}{to:Nat}:∀{l:List Sym} {i:Nat} {ks:List Key},ks∈splits w E to l i→∀q∈ks,StepK w E q
 | [],i,ks,h,q,hq=>by
  unfold splits at h
  split at h
  ·rw[List.mem_singleton.1 h] at hq;cases hq
  ·cases h
 | s::l,i,ks,h,q,hq=>by
  unfold splits at h
  obtain⟨m,_,hm⟩:=List.mem_flatMap.1 h
  split at hm
  ·rename_i hs
   obtain⟨ks',h2,rfl⟩:=List.mem_map.1 hm
   rcases List.mem_cons.1 hq with rfl | hq
   ·exact hs
   ·exact splits_step h2 q hq
  ·cases hm
theorem Reachable.step{g:Gram}{w:List Nat}{E:List (List Nat)}{root k:Key}(h:Reachable g w E root k)(hr:StepK w E root):StepK w E k:=by
 cases h with
 | root=>exact hr
 | kid _ hp hq=>
  obtain⟨r,_,_,_,h3⟩:=mem_packsOf.1 hp
  exact splits_step h3 _ hq
theorem step_der{g:Gram}{w:List Nat}{E:List (List Nat)}(hE:EndsOf g w E){s:Sym}{i j:Nat}(hi:i≤w.length):stepB w E s i j=true↔Der g w s i j:=by
 rw[stepB_iff]
 unfold Step
 obtain⟨b,n⟩:=s
 cases b with
 | true=>simp only[if_true];rw[der_term]
 | false=>
  simp only[Bool.false_eq_true,if_false]
  exact hE.iff n i j hi
theorem packs_sum{g:Gram}{w:List Nat}{E:List (List Nat)}{k:Key}(hk:k.sym.term=false){f:Sym→Nat→Nat→Nat}(hf:∀s i m,stepB w E s i m=false→i≤w.length→m≤k.to→f s i m=0)(hi:k.frm≤w.length)(hto:k.to≤w.length) :
  ((packsOf g w E k).map fun p=>prodN (p.kids.map fun q=>f q.sym q.frm q.to)).sum=(g.rules.map fun r=>if r.left=k.sym.n then listT f r.right k.frm k.to else 0).sum:=by
 have e:packsOf g w E k=(List.range g.rules.length).flatMap fun i=>match g.rules[i]? with | some r=>(if r.left=k.sym.n∧k.sym.term=false then (splits w E k.to r.right k.frm).map (KPack.mk (0+i)) else []) | none=>[]:=by
  unfold packsOf
  congr 1
  funext i
  unfold packsAt
  rw[Nat.zero_add]
  cases g.rules[i]?<;>rfl
 rw[e]
 refine(rules_sum (fun p:KPack=>prodN (p.kids.map fun q=>f q.sym q.frm q.to)) (fun i r=>if r.left=k.sym.n∧k.sym.term=false then (splits w E k.to r.right k.frm).map (KPack.mk i) else []) g.rules 0).trans ?_
 rw[←zip_sum g.rules 0]
 congr 1
 apply List.map_congr_left
 intro p _
 by_cases h:p.1.left=k.sym.n
 ·rw[if_pos ⟨h,hk⟩,if_pos h,←splits_sum hf hto p.1.right k.frm hi,List.map_map]
  rfl
 ·rw[if_neg (fun h2=>h h2.1),if_neg h];rfl
theorem node_sym{g:Gram}(hg:Valid g){w:List Nat}{E:List (List Nat)}(hE:EndsOf g w E){root:Key}{S:List Key}(hK:Keys g w E root S)(hroot:GoodKey g w root)(hrs:StepK w E root) :
  ∀(d:Nat) (k:Key),k∈S→nodeT (S.map (mkNode g w E S)) d (place S k)=symT g w d k.sym k.frm k.to
 | 0,k,_=>rfl
 | d+1,k,hk=>by
  have hgood:=(hK.reach k hk).good hg hroot
  have hstep:=(hK.reach k hk).step hrs
  have hat:(S.map (mkNode g w E S))[place S k]?=some (mkNode g w E S k):=by rw[List.getElem?_map,place_at hk];rfl
  have hsum:((mkNode g w E S k).packs.map (packN (nodeT (S.map (mkNode g w E S)) d))).sum=((packsOf g w E k).map fun p=>prodN (p.kids.map fun q=>symT g w d q.sym q.frm q.to)).sum:=by
   unfold mkNode
   simp only
   rw[List.map_map]
   congr 1
   apply List.map_congr_left
   intro p hp
   simp only[Function.comp_apply,packN,numPack,List.map_map]
   congr 1
   apply List.map_congr_left
   intro q hq
   exact node_sym hg hE hK hroot hrs d q (hK.closed k hk p hp q hq)
  rw[nodeT,hat]
  simp only
  rw[hsum,symT]
  unfold leafN
  cases ht:k.sym.term with
  | true=>
   have hno:packsOf g w E k=[]:=by
    rw[List.eq_nil_iff_forall_not_mem]
    intro p hp
    obtain⟨_,_,_,h3,_⟩:=mem_packsOf.1 hp
    rw[ht] at h3;cases h3
   have h2:=(stepB_iff.1 hstep)
   unfold Step at h2
   rw[if_pos ht] at h2
   rw[hno]
   simp[mkNode,ht,h2]
  | false=>
   rw[packs_sum ht (fun s i m h1 h2 _=>?_) hgood.2.1 hgood.2.2]
   ·simp[mkNode,ht]
   ·rcases Nat.eq_zero_or_pos (symT g w d s i m) with e | e
    ·exact e
    ·have:=(step_der hE h2).2 (symT_der e)
     rw[h1] at this;cases this
theorem nodes_prod{g:Gram}(hg:Valid g){w:List Nat}{E:List (List Nat)}(hE:EndsOf g w E){root:Key}{S:List Key}(hK:Keys g w E root S)(hroot:GoodKey g w root)(hrs:StepK w E root):Prod (S.map (mkNode g w E S)):=by
 intro v hv
 rw[List.length_map] at hv
 obtain⟨k,hk⟩:∃k,S[v]?=some k:=⟨_,gE hv⟩
 have hkm:=gM hk
 have hgood:=(hK.reach k hkm).good hg hroot
 obtain⟨d,hd⟩:=der_symT ((step_der hE hgood.2.1).1 ((hK.reach k hkm).step hrs))
 refine⟨d,?_⟩
 rw[←place_of hK.nodup hk,node_sym hg hE hK hroot hrs d k hkm]
 exact hd
theorem nodes_ok{g:Gram}(hg:Valid g){w:List Nat}(hw:w.length≤12){E:List (List Nat)}{root:Key}{S:List Key}(hK:Keys g w E root S)(hroot:GoodKey g w root):FOk (S.map (mkNode g w E S)) where
 few:=by
  rw[List.length_map]
  exact Nat.le_trans (good_few hg zo (fun k hk=>(hK.reach k hk).good hg hroot) hK.nodup) (by decide)
 packs:=fun x hx=>by
  obtain⟨k,hk,rfl⟩:=List.mem_map.1 hx
  have hgood:=(hK.reach k hk).good hg hroot
  have:=packsOf_len12 hg (E:=E) (w:=w) (show k.to≤12 by have:=hgood.2.2;omega)
  unfold mkNode
  rw[List.length_map];omega
 kid:=fun u v h=>by
  obtain⟨x,p,hx,hp,hu⟩:=h
  rw[List.getElem?_map] at hx
  cases hk:S[v]? with
  | none=>rw[hk] at hx;cases hx
  | some k=>
   rw[hk] at hx
   obtain rfl:=Option.some.inj hx
   obtain⟨p',hp',rfl⟩:=List.mem_map.1 hp
   obtain⟨q,hq,rfl⟩:=List.mem_map.1 hu
   have:=hK.closed k (gM hk) p' hp' q hq
   rw[List.length_map]
   exact List.idxOf_lt_length_of_mem this
theorem packSum_le12{g:Gram}(hg:Valid g){w:List Nat}{E:List (List Nat)}:∀(L:List Key),(∀k∈L,k.to≤12)→packSum g w E L≤L.length*913952
 | [],_=>by simp[packSum]
 | k::L,h=>by
  have h1:=packSum_le12 hg (E:=E) (w:=w) L fun k hk=>h k (List.mem_cons_of_mem _ hk)
  have h2:=packsOf_len12 hg (E:=E) (w:=w) (h k me)
  unfold packSum at h1 ⊢
  rw[List.map_cons,List.sum_cons,List.length_cons,Nat.add_mul,Nat.one_mul]
  omega
def rootKey(g:Gram)(w:List Nat):Key:=⟨⟨false,g.start⟩,0,w.length⟩
theorem root_good{g:Gram}(hg:Valid g)(w:List Nat):GoodKey g w (rootKey g w):=⟨by unfold SymOk rootKey;simpa using hg.range.start,Nat.zero_le _,Nat.le_refl _⟩
def ForestV(g:Gram)(w:List Nat)(E:List (List Nat))(F:Frz)(v:Value):Prop:=
 (stepB w E ⟨false,g.start⟩ 0 w.length=false∧v=.agg ⟨[.slice none 0 0,.int .i64 (-1)]⟩)∨
 (stepB w E ⟨false,g.start⟩ 0 w.length=true∧∃S a n c,v=.agg ⟨[.slice a n c,.int .i64 (place S (rootKey g w):Nat)]⟩∧Keys g w E (rootKey g w) S∧Arr tNode F a n c (S.map (mkNode g w E S)))
theorem ForestV.mono{g:Gram}{w:List Nat}{E:List (List Nat)}{F G:Frz}{v:Value}(h:ForestV g w E F v)(hF:Frz.le F G):ForestV g w E G v:=by
 rcases h with h | ⟨h1,S,a,n,c,h2,h3,h4⟩
 ·exact .inl h
 ·exact .inr ⟨h1,S,a,n,c,h2,h3,h4.mono hF⟩
theorem few_packs{g:Gram}(hg:Valid g){w:List Nat}(hw:w.length≤12){E:List (List Nat)}{L:List Key}(hn:L.Nodup)(hr:∀k∈L,Reachable g w E (rootKey g w) k):packSum g w E L≤200000*913952:=by
 have hgood:∀k∈L,GoodKey g w k:=fun k hk=>(hr k hk).good hg (root_good hg w)
 refine Nat.le_trans (packSum_le12 hg L fun k hk=>by have:=(hgood k hk).2.2;omega) ?_
 exact Nat.mul_le_mul_right _ (good_few hg zo hgood hn)
theorem meanOf_spec(F:Frz)(hL:Laid F)(g:Gram)(hg:Valid g){ga:Option Addr}{gm gc:Nat}(hr:Arr tRule F ga gm gc g.rules){b:Option Addr}{n d:Nat}{w:List Nat}(hw:Arr tNat F b n d w)(hw12:w.length≤12) :
  Abs.Spec CC 47 [.agg ⟨gramCells g ga gm gc⟩,.slice b n d] F [] fun F' v o=>o=[]∧∃E,EndsOf g w E∧ForestV g w E F' v:=by
 unfold gramCells
 refine Abs.Spec.fn (n:=17) Tryz.func47 rfl rfl fun own=>?_
 refine AW.seq (AW.reg ?_)
 refine WT.boxT Z Z Z Z Z Z (fun i2 hi2=>?_)
 refine WT.allocT hT Z Z Z Z Z Z (fun i4 hi4=>?_)
 refine zB4 ?_
 refine AW.draw (ps:=[(0,4),(0,9),(2,9)]) Z Z ?_
 refine zB4 ?_
 refine WT.callF0 Tryz.func38 Z Z Z Z Z Z (ends_spec _ hL g hg hr hw zo) (fun F1 v hF1 hv=>?_)
 obtain⟨ea,ec,E,rfl,hE,hE2⟩:=hv
 have hEl:=hE2.ok.size
 refine WT.callF0 Tryz.func75 Z Z Z Z Z Z (build_spec _ (hL.mono hF1) g hg (hr.mono hF1) (hw.mono hF1) hw12 hE hE2.ok 1099511627776 (by decide)) (fun F2 v hF2 hv=>?_)
 have hres:∃x,v=.tuple ⟨[.agg ⟨x⟩,.bool true]⟩∧ForestV g w E F2 (.agg ⟨x⟩)∧∃a n c r,x=[.slice a n c,.int .i64 r]:=by
  rcases hv with ⟨h1,rfl⟩ | ⟨h1,h2⟩
  ·exact⟨_,rfl,.inl ⟨h1,rfl⟩,_,_,_,_,rfl⟩
  ·rcases h2 with ⟨S,a,n,c,rfl,hK,hA,_⟩ | ⟨_,L,h3,h4,h5⟩
   ·exact⟨_,rfl,.inr ⟨h1,S,a,n,c,rfl,hK,hA⟩,_,_,_,_,rfl⟩
   ·have:=few_packs hg hw12 h3 h4
    omega
 clear hv
 obtain⟨x,rfl,hx,xa,xn,xc,xr,rfl⟩:=hres
 refine zB4 ?_
 refine WT.allocT hT Z Z Z Z Z Z (fun i5 hi5=>?_)
 refine zB4 ?_
 refine⟨zrC,?_⟩
 refine zB4 ?_
 exact AW.ret ⟨_,[],⟨_,_,⟨_,rfl,fun G h0 s0=>loadA_cells (s0.has (p:=1) rfl me) (readT_ok hT rfl)⟩,rfl,rfl⟩,zsb,rfl,E,hE2,hx⟩
theorem still_zero{T:Nat→Nat}(h:∀d,T d=0):Still T 0:=⟨0,fun d _=>h d⟩
def orRow(xs ys:List Bool):List Bool:=List.zipWith (fun a b=>a||b) xs ys
def orTo(j:Nat)(xs ys:List Bool):List Bool:=orRow (xs.take j) (ys.take j)++xs.drop j
theorem orTo_zero(xs ys:List Bool):orTo 0 xs ys=xs:=by simp[orTo,orRow]
theorem orTo_all{xs ys:List Bool}(h:xs.length=ys.length):orTo xs.length xs ys=orRow xs ys:=by
 unfold orTo
 rw[List.take_of_length_le (Nat.le_refl _),List.take_of_length_le zo,List.drop_of_length_le (Nat.le_refl _),List.append_nil]
theorem orTo_len{j:Nat}{xs ys:List Bool}(h:xs.length=ys.length):(orTo j xs ys).length=xs.length:=by
 unfold orTo orRow;simp;omega
theorem orTo_at{j:Nat}{xs ys:List Bool}{x:Bool}(h:xs.length=ys.length)(hx:xs[j]?=some x):(orTo j xs ys)[j]?=some x:=by
 have hj:=(gS hx).1
 unfold orTo orRow
 rw[List.getElem?_append_right (by simp;omega)]
 simp
 rw[←hx]
 congr 1
 omega
theorem orTo_succ{j:Nat}{xs ys:List Bool}{x y:Bool}(h:xs.length=ys.length)(hx:xs[j]?=some x)(hy:ys[j]?=some y):orTo (j+1) xs ys=(orTo j xs ys).set j (x||y):=by
 have hj:=(gS hx).1
 have hl:(orRow (xs.take j) (ys.take j)).length=j:=by unfold orRow;simp;omega
 unfold orTo
 rw[List.take_add_one,List.take_add_one,hx,hy]
 unfold orRow
 rw[List.zipWith_append (by simp;omega)]
 have hd:xs.drop j=x::xs.drop (j+1):=by
  rw[List.drop_eq_getElem_cons hj]
  rw[gE hj] at hx
  rw[Option.some.inj hx]
 rw[hd]
 unfold orRow at hl
 rw[List.set_append_right _ _ zo,hl,Nat.sub_self]
 simp
structure US where
 cur:List Bool
 ch:Bool
theorem union_spec(F:Frz){it:Nat}{xs ys:List Bool}{b:Option Addr}{m n c d:Nat}(hm:m=xs.length)(hy:Arr tBool F b n d ys)(hlen:xs.length=ys.length)(hn:n≤1000000) :
  Abs.Spec CC 117 [.slice (some ⟨it,0,none⟩) m c,.slice b n d] F [[(it,.cells false (xs.map cBool.cell))]] fun _ v o=>∃B',o=[B']∧B'=[(it,.cells false ((orRow xs ys).map cBool.cell))]∧v=.bool (decide (orRow xs ys≠xs)):=by
 have hylen:=hy.len
 refine Abs.Spec.fn (n:=28) Tryz.func117 rfl rfl fun own=>?_
 refine zB4 ?_
 refine AW.range (S:=US) (fun s=>[(5,.bool s.ch)]) (fun s=>[(it,.cells false (s.cur.map cBool.cell))]::own) (fun j s G=>s.cur=orTo j xs ys∧s.ch=decide (s.cur≠xs)) n ⟨xs,false⟩ Z Z Z Z Z Z Z Z Z zo Z Z (fun _=>rfl) (fun _=>rfl) sM oR ⟨(orTo_zero xs ys).symm,by simp⟩ ?_ ?_
 ·intro j s F1 hF1 hj hP
  obtain⟨hcur,hch⟩:=hP
  have hy1:=hy.mono hF1
  obtain⟨x,hx⟩:∃x,xs[j]?=some x:=⟨_,gE zo⟩
  have hcl:s.cur.length=xs.length:=by rw[hcur];exact orTo_len hlen
  have hcx:(s.cur.map cBool.cell)[0+j*1]?=some (.bool x):=by rw[Nat.zero_add,Nat.mul_one,List.getElem?_map,hcur,orTo_at hlen hx];rfl
  refine zB4 ?_
  refine WT.idxL hT hy1 Z Z Z Z Z Z Z Z Z zo (fun y hyj b1 off ro cs lx hb hp hrel=>?_)
  obtain rfl:lx=_:=hrel
  have hnext:=orTo_succ hlen hx hyj
  rw[←hcur] at hnext
  have same:(x||y)=x→s.cur.set j (x||y)=s.cur:=by
   intro e
   rw[e]
   apply List.ext_getElem?
   intro i
   by_cases hi:i=j
   ·subst hi
    rw[List.getElem?_set_self zo,hcur,orTo_at hlen hx]
   ·rw[List.getElem?_set_ne zo]
  refine zB4 ?_
  refine WT.split 16 Z (fun h=>?_) (fun h=>?_)
  ·refine zB4 ?_
   refine WT.idxA (j:=j) (s:=1) hT Z Z Z Z Z Z Z Z Z zo ?_
   refine WT.loadAt hT 0 Z Z Z Z Z Z me Z Z hcx ?_
   refine zB4 ?_
   refine AW.cond Z (fun h2=>?_) (fun h2=>?_)
   ·have h2:x=false:=by simpa using h2
    refine zB4 ?_
    refine WT.idxA (j:=j) (s:=1) hT Z Z Z Z Z Z Z Z Z zo ?_
    refine WT.storeAt hT 0 0 Z Z Z Z Z Z Z Z Z Z (by simp;omega) Z Z ?_
    refine zB4 ?_
    refine⟨⟨s.cur.set j true,true⟩,sM,OwnLe.flat ?_,?_,?_⟩
    ·dsimp only
     rw[List.map_set,Nat.zero_add,Nat.mul_one]
     exact List.Perm.refl _
    ·rw[hnext,h,h2];rfl
    ·have:s.cur.set j true≠xs:=by
      intro e
      have this:(s.cur.set j true)[j]?=xs[j]?:=by rw[e]
      rw[List.getElem?_set_self zo,hx,h2] at this
      cases this
     simp[this]
   ·have h2:x=true:=by simpa using h2
    refine zB4 ?_
    refine⟨s,sM,zow,?_,hch⟩
    rw[hnext,same (by rw[h2];rfl)]
  ·refine zB4 ?_
   refine AW.cond Z (fun h2=>(by cases h2)) (fun h2=>?_)
   refine zB4 ?_
   refine⟨s,sM,zow,?_,hch⟩
   rw[hnext,same (by rw[h];simp)]
 ·intro s F1 hF1 hP
  obtain⟨hcur,hch⟩:=hP
  rw[show n=xs.length by omega,orTo_all hlen] at hcur
  refine zB4 ?_
  refine AW.ret ⟨_,[_],⟨_,_,rfl,rfl,rfl⟩,List.Sublist.refl _,_,rfl,by rw[←hcur],?_⟩
  rw[←hcur,←hch];rfl
def ofRow(E:List Bool)(Fi:List (List Bool)):List Bool→List Sym→List Bool×Bool
 | out,[]=>(out,true)
 | out,s::l=>if s.term=true then (out.set s.n true,false) else
  if E.getD s.n false=true then ofRow E Fi (orRow out (Fi.getD s.n [])) l else (orRow out (Fi.getD s.n []),false)
theorem sof_spec(F:Frz){is ie io:Nat}{ro:Bool}{terms nons start rm rc ce co:Nat}{ra:Option Addr}{E:List Bool}{Fi:List (List Bool)}
  (hS:F is=some (.cells ro [.int .i64 terms,.int .i64 nons,.int .i64 start,.slice ra rm rc,.slice (some ⟨ie,0,none⟩) nons ce,.slice (some ⟨io,0,none⟩) nons co]))
  (hE:Arr tBool F (some ⟨ie,0,none⟩) nons ce E) (hFi:Arr (tList tBool) F (some ⟨io,0,none⟩) nons co Fi) (hFl:∀r∈Fi,r.length=terms) (ht:terms≤1000000)
  {a:Option Addr} {m c:Nat} {l:List Sym} (hl:Arr tSym F a m c l) (hm:m≤1000000) (hok:∀y∈l,SymOk terms nons y) :
  Abs.Spec CC 116 [.pointer (some ⟨is,0,none⟩),.slice a m c] F [] fun _ v o=>∃B',o=[B']∧∃ir,B'=[(ir,.cells false ((ofRow E Fi (List.replicate terms false) l).1.map cBool.cell))]∧
   (ofRow E Fi (List.replicate terms false) l).1.length=terms∧v=.tuple ⟨[.slice (some ⟨ir,0,none⟩) terms (if terms=0 then 0 else 1),.bool (ofRow E Fi (List.replicate terms false) l).2]⟩:=by
 have hllen:=hl.len
 have hElen:=hE.len
 have hFlen:=hFi.len
 refine Abs.Spec.fn (n:=50) Tryz.func116 rfl rfl fun own=>?_
 refine zB4 ?_
 refine WT.makeT (l:=terms) hT Z Z Z Z Z Z Z Z Z Z Z Z zom (fun ir hir=>?_)
 rw[cap_eq]
 refine zB4 ?_
 refine AW.range (S:=List Bool) (fun _=>[]) (fun s=>[(ir,.cells false (s.map cBool.cell))]::own) (fun j s G=>s.length=terms∧ofRow E Fi (List.replicate terms false) l=ofRow E Fi s (l.drop j)) m (List.replicate terms false) Z Z Z Z Z Z Z Z Z zo Z Z (fun _=>rfl) (fun _=>rfl) sM (OwnLe.flat (by simp[cBool])) ⟨by simp,by simp⟩ ?_ ?_
 ·intro j s F1 hF1 hj hP
  obtain⟨hsl,hrun⟩:=hP
  have hl1:=hl.mono hF1
  have hS1:=hF1 _ _ hS
  have hE1:=hE.mono hF1
  have hFi1:=hFi.mono hF1
  refine zB4 ?_
  refine WT.idxL hT hl1 Z Z Z Z Z Z Z Z Z zo (fun y hyj b1 off ro1 cs lx hb hp hrel=>?_)
  obtain rfl:lx=_:=hrel
  have hyok:=hok y (gM hyj)
  have hdrop:l.drop j=y::l.drop (j+1):=by
   rw[List.drop_eq_getElem_cons (show j<l.length by omega)]
   rw[gE zo] at hyj
   rw[Option.some.inj hyj]
  rw[hdrop] at hrun
  refine zB4 ?_
  refine WT.allocT hT Z Z Z Z Z Z (fun i8 hi8=>?_)
  refine zB4 ?_
  refine AW.cond Z (fun h=>?_) (fun h=>?_)
  ·have h:y.term=true:=h
   rw[SymOk,if_pos h] at hyok
   rw[ofRow,if_pos h] at hrun
   refine zB4 ?_
   refine WT.idxA (j:=y.n) (s:=1) hT Z Z Z Z Z Z Z Z Z hyok ?_
   refine WT.storeAt hT 1 0 Z Z Z Z Z Z Z Z Z Z (by simp;omega) Z Z ?_
   refine zB4 ?_
   refine AW.ret ⟨_,[[(ir,.cells false ((s.set y.n true).map cBool.cell))]],⟨_,_,rfl,⟨_,_,rfl,rfl,rfl⟩,rfl⟩,?_,_,rfl,ir,?_,?_,?_⟩
   ·rw[List.map_set,show 0+y.n*1=y.n by omega]
    exact List.sublist_cons_self ..
   ·rw[hrun]
   ·rw[hrun];simp[hsl]
   ·rw[hrun];rfl
  ·have h:¬y.term=true:=by rw[show y.term=false from h];decide
   rw[SymOk,if_neg h] at hyok
   rw[ofRow,if_neg h] at hrun
   refine zB4 ?_
   refine WT.idxL hT hFi1 Z Z Z Z Z Z Z Z Z zo (fun row hrow b2 off2 ro2 cs2 lx2 hb2 hp2 hrel2=>?_)
   obtain⟨a4,n4,c4,rfl,hrow2⟩:=hrel2
   have hrl:=hFl row (gM hrow)
   have hrl2:=hrow2.len
   have hgetD:Fi.getD y.n []=row:=by rw[List.getD_eq_getElem?_getD,hrow];rfl
   rw[hgetD] at hrun
   have hnl:(orRow s row).length=terms:=by unfold orRow;simp;omega
   refine zB4 ?_
   refine WT.call1 1 Tryz.func117 Z Z Z Z Z Z Z (fun _=>rfl) (union_spec F1 (it:=ir) (xs:=s) (m:=terms) zo hrow2 zo zo) (fun v B hv=>?_)
   obtain⟨rfl,rfl⟩:=hv
   refine zB4 ?_
   refine WT.idxL hT hE1 Z Z Z Z Z Z Z Z Z zo (fun e he b3 off3 ro3 cs3 lx3 hb3 hp3 hrel3=>?_)
   obtain rfl:lx3=_:=hrel3
   have hgE:E.getD y.n false=e:=by rw[List.getD_eq_getElem?_getD,he];rfl
   rw[hgE] at hrun
   refine zB4 ?_
   refine AW.cond Z (fun h2=>?_) (fun h2=>?_)
   ·have h2:e=false:=by simpa using h2
    rw[if_neg (by rw[h2];decide)] at hrun
    refine zB4 ?_
    refine AW.ret ⟨_,[[(ir,.cells false ((orRow s row).map cBool.cell))]],⟨_,_,rfl,⟨_,_,rfl,rfl,rfl⟩,rfl⟩,List.sublist_cons_self ..,_,rfl,ir,?_,?_,?_⟩
    ·rw[hrun]
    ·rw[hrun];exact hnl
    ·rw[hrun];rfl
   ·have h2:e=true:=by simpa using h2
    rw[if_pos h2] at hrun
    refine zB4 ?_
    exact⟨orRow s row,sM,zow,hnl,hrun⟩
 ·intro s F1 hF1 hP
  obtain⟨hsl,hrun⟩:=hP
  rw[List.drop_of_length_le zo,ofRow] at hrun
  refine zB4 ?_
  refine AW.ret ⟨_,[_],⟨_,_,rfl,⟨_,_,rfl,rfl,rfl⟩,rfl⟩,List.Sublist.refl _,_,rfl,ir,?_,?_,?_⟩
  ·rw[hrun]
  ·rw[hrun];exact hsl
  ·rw[hrun];rfl
def FirstClosed(g:Gram)(E:List Bool)(Fi:List (List Bool)):Prop:=∀r∈g.rules,orRow (Fi.getD r.left []) (ofRow E Fi (List.replicate g.terms false) r.right).1=Fi.getD r.left []∧
 ((ofRow E Fi (List.replicate g.terms false) r.right).2=true→E.getD r.left false=true)
structure SetsF(F:Frz)(is:Nat)(g:Gram)(ra:Option Addr)(rm rc:Nat)(E:List Bool)(Fi:List (List Bool)):Prop where
 blk:∃ie io ce co ro,F is=some (.cells ro [.int .i64 g.terms,.int .i64 g.nons,.int .i64 g.start,.slice ra rm rc,.slice (some ⟨ie,0,none⟩) g.nons ce,.slice (some ⟨io,0,none⟩) g.nons co])∧
  Arr tBool F (some ⟨ie,0,none⟩) g.nons ce E∧Arr (tList tBool) F (some ⟨io,0,none⟩) g.nons co Fi
 row:∀r∈Fi,r.length=g.terms
 rules:Arr tRule F ra rm rc g.rules
 closed:FirstClosed g E Fi
structure FS where
 a:Option Addr
 m:Nat
 c:Nat
 B:List (Nat×Blk)
 vs:List Value
 bs:List (Nat×Blk)
structure FM where
 E:List Bool
 Fi:List (List Bool)
 bs:List (Nat×Blk)
 again:Bool
def ones:List Bool→Nat
 | []=>0
 | b::l=>(if b=true then 1 else 0)+ones l
def onesT(M:List (List Bool)):Nat:=(M.map ones).sum
theorem ones_le:∀l:List Bool,ones l≤l.length
 | []=>Nat.le_refl _
 | b::l=>by have:=ones_le l;simp only[ones,List.length_cons];split<;>omega
theorem ones_or:∀{xs ys:List Bool},xs.length=ys.length→ones xs≤ones (orRow xs ys)∧(orRow xs ys≠xs→ones xs<ones (orRow xs ys))
 | [],[],_=>by simp[orRow]
 | [],_::_,h=>by simp at h
 | _::_,[],h=>by simp at h
 | x::xs,y::ys,h=>by
  obtain⟨h1,h2⟩:=@ones_or xs ys (by simpa using h)
  unfold orRow at h1 h2
  simp only[orRow,List.zipWith_cons_cons,ones]
  cases x with
  | true=>
   refine⟨by simp;omega,fun hne=>?_⟩
   have:List.zipWith (fun a b=>a||b) xs ys≠xs:=by intro e;apply hne;simp[e]
   have:=h2 this
   simp;omega
  | false=>
   cases y with
   | true=>exact⟨by simp;omega,fun _=>by simp;omega⟩
   | false=>
    refine⟨by simp;omega,fun hne=>?_⟩
    have:List.zipWith (fun a b=>a||b) xs ys≠xs:=by intro e;apply hne;simp[e]
    have:=h2 this
    simp;omega
theorem ones_set:∀{l:List Bool} {j:Nat},l[j]?=some false→ones (l.set j true)=ones l+1
 | [],j,h=>by simp at h
 | b::l,0,h=>by simp at h;subst h;simp[ones];omega
 | b::l,j+1,h=>by
  have:=@ones_set l j (by simpa using h)
  simp only[List.set_cons_succ,ones];omega
theorem onesT_le{n m:Nat}{M:List (List Bool)}(h:TabOk n m M):onesT M≤n*m:=by
 unfold onesT
 rw[←h.size,←List.length_map (f:=ones)]
 refine sum_le fun x hx=>?_
 obtain⟨row,hr,rfl⟩:=List.mem_map.1 hx
 have:=ones_le row
 rw[h.row row hr] at this
 exact this
theorem onesT_set{M:List (List Bool)}{i:Nat}{row row':List Bool}(h:M[i]?=some row):onesT (M.set i row')+ones row=onesT M+ones row':=by
 unfold onesT
 rw[List.map_set]
 exact sum_set (by rw[List.getElem?_map,h];rfl)
theorem orRow_len{xs ys:List Bool}(h:xs.length=ys.length):(orRow xs ys).length=xs.length:=by unfold orRow;simp;omega
def RuleClosed(terms:Nat)(E:List Bool)(Fi:List (List Bool))(r:Rule):Prop:=orRow (Fi.getD r.left []) (ofRow E Fi (List.replicate terms false) r.right).1=Fi.getD r.left []∧
 ((ofRow E Fi (List.replicate terms false) r.right).2=true→E.getD r.left false=true)
theorem make_spec(F:Frz)(g:Gram)(hg:Valid g){a:Option Addr}{m c:Nat}(hr:Arr tRule F a m c g.rules) :
  Abs.Spec CC 90 [.agg ⟨gramCells g a m c⟩] F [] fun F' v o=>o=[]∧∃is E Fi,v=.pointer (some ⟨is,0,none⟩)∧SetsF F' is g a m c E Fi:=by
 unfold gramCells
 have hrlen:=hr.len
 have hgr:=hg.range.rules
 have hgn:=hg.range.nons
 have hgt:=hg.range.terms
 refine Abs.Spec.fn (n:=81) Tryz.func90 rfl rfl fun own=>?_
 refine AW.seq (AW.reg ?_)
 refine WT.boxT Z Z Z Z Z Z (fun i1 hi1=>?_)
 refine WT.freezeAll 0 Z Z (fun F0 hF0 hB0=>?_)
 have hi1:=hB0 i1 _ me
 have hr:=hr.mono hF0
 refine zB4 ?_
 refine AW.draw (ps:=[(0,3)]) Z Z ?_
 refine zB4 ?_
 refine WT.makeT (l:=g.nons) hT Z Z Z Z Z Z Z Z Z Z Z Z zom (fun ie hie=>?_)
 rw[cap_eq]
 refine zB4 ?_
 refine WT.boxT Z Z Z Z Z Z (fun is his=>?_)
 refine zB4 ?_
 refine⟨zrC,?_⟩
 refine zB4 ?_
 refine AW.range (S:=FS) (fun _=>[]) (fun s=>[(is,.cells false [.int .i64 g.terms,.int .i64 g.nons,.int .i64 g.start,.slice a m c,.slice (some ⟨ie,0,none⟩) g.nons (if g.nons=0 then 0 else 1),.slice s.a s.m s.c])]::s.B::[(ie,.cells false (List.replicate g.nons (.bool false)))]::s.bs::[]::own)
  (fun j s G=>Bld tRaw G s.a s.m s.c s.B s.vs∧Abs.Rows cBool s.vs s.bs (List.replicate j (List.replicate g.terms false))) g.nons ⟨none,0,0,[],[],[]⟩ Z Z Z Z Z Z Z Z Z zo rfl rfl (fun _=>rfl) (fun _=>rfl) sM (OwnLe.flat (List.Perm.refl _)) ⟨Bld.nil_ _ _,Abs.Rows.nil⟩ ?_ ?_
 ·intro j s F1 hF1 hj hP
  obtain⟨hb,hR⟩:=hP
  have hi1:=hF1 _ _ hi1
  have hblen:=hb.len
  have hvl:=hR.len.1
  rw[List.length_replicate] at hvl
  skip
  refine AW.draw (ps:=[(4,7),(4,8)]) Z Z ?_
  refine zB4 ?_
  refine WT.makeT (l:=g.terms) hT Z Z Z Z Z Z Z Z Z Z Z Z zom (fun ir hir=>?_)
  rw[cap_eq]
  refine WT.buildT hT Z Z Z Z Z Z Z Z Z Z Z Z Z Z (fun i9 hi9=>?_)
  refine WT.appendT (R:=tRaw) (ys:=[.slice (some ⟨ir,0,none⟩) g.terms (if g.terms=0 then 0 else 1)]) hT 3 hb Z (fun _=>rfl) Z Z Z Z Z Z Z Z Z Z Z (fun h0 s0=>news_own hT s0 0 Z Z Z Z) (Cells.single (R:=tRaw) ⟨rfl,rfl⟩) Z (by decide) zom (fun a3 c3 B3 hB3=>?_)
  refine zB4 ?_
  refine⟨zrC,?_⟩
  refine⟨⟨a3,s.m+1,c3,B3,s.vs++[.slice (some ⟨ir,0,none⟩) g.terms (if g.terms=0 then 0 else 1)],s.bs++[(ir,.cells false (List.replicate g.terms (.bool false)))]⟩,sM,?_,hB3,?_⟩
  ·refine OwnLe.skip _ (OwnLe.flat ?_)
   simp only[List.flatten_cons,List.singleton_append]
   have:=perm_to_end (ir,Blk.cells false (List.replicate g.terms (.bool false))) ((is,Blk.cells false [.int .i64 g.terms,.int .i64 g.nons,.int .i64 g.start,.slice a m c,.slice (some ⟨ie,0,none⟩) g.nons (if g.nons=0 then 0 else 1),.slice a3 (s.m+1) c3])::(B3++[(ie,.cells false (List.replicate g.nons (.bool false)))])) s.bs ([]++own.flatten)
   simpa using this
  ·rw[show List.replicate (j+1) (List.replicate g.terms false)=List.replicate j (List.replicate g.terms false)++[List.replicate g.terms false] from List.replicate_succ']
   have:=hR.snoc (K:=cBool) (id:=ir) (row:=List.replicate g.terms false) (c:=if g.terms=0 then 0 else 1) (by simp)
   rw[List.length_replicate,List.map_replicate] at this
   exact this
 ·intro s F1 hF1 hP
  obtain⟨hb,hR⟩:=hP
  have hi1:=hF1 _ _ hi1
  have hvl:=hR.len.1
  rw[List.length_replicate] at hvl
  have hr1:=hr.mono hF1
  have hblen:=hb.len
  obtain⟨io,cs,hia,hic,hiB,hcells,_⟩:=hb.at_.resolve_left (fun h=>by rw[h.1] at hvl;simp at hvl;omega)
  have hcs:=cells_raw hcells
  subst hcs
  have hic:s.c=1:=hic
  refine zB4 ?_
  refine AW.le (own2:=((is,.cells false [.int .i64 g.terms,.int .i64 g.nons,.int .i64 g.start,.slice a m c,.slice (some ⟨ie,0,none⟩) g.nons (if g.nons=0 then 0 else 1),.slice (some ⟨io,0,none⟩) g.nons 1])::(io,.cells false s.vs)::(ie,.cells false ((List.replicate g.nons false).map cBool.cell))::s.bs)::own) (OwnLe.flat ?_) ?_
  ·rw[hia,hic,hiB,show s.m=g.nons by omega,List.map_replicate]
   exact List.Perm.refl _
  refine AW.block ?_
  refine AW.loopR (S:=FM) (fun t=>[(4,.bool t.again)]) (fun t=>((is,.cells false [.int .i64 g.terms,.int .i64 g.nons,.int .i64 g.start,.slice a m c,.slice (some ⟨ie,0,none⟩) g.nons (if g.nons=0 then 0 else 1),.slice (some ⟨io,0,none⟩) g.nons 1])::(io,.cells false s.vs)::(ie,.cells false (t.E.map cBool.cell))::t.bs)::own)
   (fun t G=>Abs.Rows cBool s.vs t.bs t.Fi∧TabOk g.nons g.terms t.Fi∧t.E.length=g.nons∧(t.again=false→FirstClosed g t.E t.Fi)) (fun t=>if t.again=true then 1+(g.nons+g.nons*g.terms-(ones t.E+onesT t.Fi)) else 0) ⟨List.replicate g.nons false,List.replicate g.nons (List.replicate g.terms false),s.bs,true⟩
   sM oR ⟨hR,⟨by simp,fun r hr=>by rw[List.eq_of_mem_replicate hr];simp⟩,by simp,fun h=>(by cases h)⟩ ?_
  intro t F2 hF2 hP
  obtain⟨hR,hM,hE,hC⟩:=hP
  have hi1:=hF2 _ _ hi1
  have hr2:=hr1.mono hF2
  refine zB4 ?_
  refine AW.cond Z (fun h=>?_) (fun h=>?_)
  ·refine zB4 ?_
   refine AW.block ?_
   refine zB4 ?_
   refine AW.range (S:=FM) (fun t=>[(4,.bool t.again)]) (fun t=>((is,.cells false [.int .i64 g.terms,.int .i64 g.nons,.int .i64 g.start,.slice a m c,.slice (some ⟨ie,0,none⟩) g.nons (if g.nons=0 then 0 else 1),.slice (some ⟨io,0,none⟩) g.nons 1])::(io,.cells false s.vs)::(ie,.cells false (t.E.map cBool.cell))::t.bs)::own)
    (fun k u G=>Abs.Rows cBool s.vs u.bs u.Fi∧TabOk g.nons g.terms u.Fi∧u.E.length=g.nons∧ones t.E+onesT t.Fi≤ones u.E+onesT u.Fi∧(u.again=true→ones t.E+onesT t.Fi<ones u.E+onesT u.Fi)∧(u.again=false→∀r∈g.rules.take k,RuleClosed g.terms u.E u.Fi r)) m ⟨t.E,t.Fi,t.bs,false⟩
    Z Z Z Z Z Z Z Z Z zo rfl rfl (fun _=>rfl) (fun _=>rfl) sM oR ⟨hR,hM,hE,Nat.le_refl _,fun h=>(by cases h),by simp⟩ ?_ ?_
   ·intro k u F3 hF3 hk hP
    obtain⟨hR,hM,hE,hT1,hT2,hC⟩:=hP
    have hi1:=hF3 _ _ hi1
    have hr3:=hr2.mono hF3
    refine zB4 ?_
    refine WT.idxL hT hr3 Z Z Z Z Z Z Z Z Z zo (fun r hrk b1 off ro cs lx hb hp1 hrel=>?_)
    obtain⟨b2,n2,d2,rfl,hr4⟩:=hrel
    obtain⟨hrl,hrr,hrs⟩:=hg.right r (gM hrk)
    have hr4l:=hr4.len
    refine zB4 ?_
    refine WT.allocT hT Z Z Z Z Z Z (fun i6 hi6=>?_)
    refine zB4 ?_
    have lk3:∀G,Frz.le F3 G→(∀i b,(i,b)∈((is,Blk.cells false [.int .i64 g.terms,.int .i64 g.nons,.int .i64 g.start,.slice a m c,.slice (some ⟨ie,0,none⟩) g.nons (if g.nons=0 then 0 else 1),.slice (some ⟨io,0,none⟩) g.nons 1])::(io,.cells false s.vs)::(ie,.cells false (u.E.map cBool.cell))::u.bs)→G i=some b)→
      Arr tBool G (some ⟨ie,0,none⟩) g.nons (if g.nons=0 then 0 else 1) u.E∧Arr (tList tBool) G (some ⟨io,0,none⟩) g.nons 1 u.Fi:=by
     intro G hG hBG
     constructor
     ·have:=arr_of_cells (K:=cBool) (R:=tBool) (F:=G) (id:=ie) (row:=u.E) (c:=if u.E.length=0 then 0 else 1) (ro:=false) rfl (fun _ _=>rfl) rfl (hBG ie _ (by simp))
      rw[hE] at this;exact this
     ·have:=Abs.Rows.arr (K:=cBool) (R:=tBool) rfl (fun _ _=>rfl) (F:=G) (o:=io) (c:=if u.Fi.length=0 then 0 else 1) (ro:=false) hR (fun i b hm=>hBG i b (by simp[hm])) rfl (hBG io _ (by simp))
      rw[hM.size,if_neg zo] at this;exact this
    refine WT.callLendN 1 Tryz.func116 Z Z Z Z Z Z Z (fun G hG hBG=>sof_spec G (terms:=g.terms) (nons:=g.nons) (hBG is _ me) (lk3 G hG hBG).1 (lk3 G hG hBG).2 hM.row zo (hr4.mono hG) zo hrs) (fun v B hv=>?_)
    obtain⟨ir,rfl,hofl,rfl⟩:=hv
    have hRC:RuleClosed g.terms u.E u.Fi r↔orRow (u.Fi.getD r.left []) (ofRow u.E u.Fi (List.replicate g.terms false) r.right).1=u.Fi.getD r.left []∧((ofRow u.E u.Fi (List.replicate g.terms false) r.right).2=true→u.E.getD r.left false=true):=Iff.rfl
    generalize ofRow u.E u.Fi (List.replicate g.terms false) r.right=fr at hofl hRC ⊢
    obtain⟨row,emp⟩:=fr
    dsimp only at hofl hRC
    have hFl:r.left<u.Fi.length:=by rw[hM.size];exact hrl
    have hrow0:=gE hFl
    generalize hrow0':u.Fi[r.left]=old at hrow0
    have holdl:=hM.row old (gM hrow0)
    obtain⟨id,cc,hvs,hbs,hcc⟩:=hR.at r.left old hrow0
    rw[holdl] at hvs
    have hvs':s.vs[0+r.left*1]?=some (.slice (some ⟨id,0,none⟩) g.terms cc):=by rw[Nat.zero_add,Nat.mul_one];exact hvs
    have hgetF:u.Fi.getD r.left []=old:=by rw[List.getD_eq_getElem?_getD,hrow0];rfl
    have hEl:r.left<u.E.length:=by rw[hE];exact hrl
    obtain⟨e0,he0⟩:∃e0,u.E[r.left]?=some e0:=⟨_,gE hEl⟩
    have hgetE:u.E.getD r.left false=e0:=by rw[List.getD_eq_getElem?_getD,he0];rfl
    have hE0c:(u.E.map cBool.cell)[0+r.left*1]?=some (.bool e0):=by rw[Nat.zero_add,Nat.mul_one,List.getElem?_map,he0];rfl
    have hol:(orRow old row).length=g.terms:=by rw[orRow_len zo];exact holdl
    have hR':=hR.set r.left old (orRow old row) id hrow0 zo hbs
    have hM':TabOk g.nons g.terms (u.Fi.set r.left (orRow old row)):=hM.setRow _ hol
    have hcnt:=onesT_set (row':=orRow old row) hrow0
    have hone:=ones_or (xs:=old) (ys:=row) zo
    have hset_same:orRow old row=old→u.Fi.set r.left (orRow old row)=u.Fi:=by
     intro e
     rw[e]
     apply List.ext_getElem?
     intro i
     by_cases hi:i=r.left
     ·subst hi;rw[List.getElem?_set_self hFl,hrow0]
     ·rw[List.getElem?_set_ne zo]
    rw[hgetF,hgetE] at hRC
    refine zB4 ?_
    refine WT.idxA (j:=r.left) (s:=1) hT Z Z Z Z Z Z Z Z Z hrl ?_
    refine WT.loadAt hT 2 Z Z Z Z Z Z (List.mem_cons_of_mem _ me) Z Z hvs' ?_
    refine zB4 ?_
    have hpk:=perm_pick hbs
    have hps:=perm_set (id,Blk.cells false ((orRow old row).map cBool.cell)) hbs
    refine WT.le (own2:=[(ir,.cells false (row.map cBool.cell))]::[(id,.cells false (old.map cBool.cell))]::((is,.cells false [.int .i64 g.terms,.int .i64 g.nons,.int .i64 g.start,.slice a m c,.slice (some ⟨ie,0,none⟩) g.nons (if g.nons=0 then 0 else 1),.slice (some ⟨io,0,none⟩) g.nons 1])::(io,.cells false s.vs)::(ie,.cells false (u.E.map cBool.cell))::u.bs.eraseIdx r.left)::[(i6,.cells false [.int .i64 r.left,.slice b2 n2 d2])]::own) (OwnLe.flat ?_) ?_
    ·simp only[List.flatten_cons]
     refine List.Perm.append_left _ ?_
     exact perm_borrow _ _ [_,_,_] _ _ _ hpk
    refine WT.callLend1 (upd:=fun D'=>[(ir,.cells false (row.map cBool.cell))]::D'::((is,.cells false [.int .i64 g.terms,.int .i64 g.nons,.int .i64 g.start,.slice a m c,.slice (some ⟨ie,0,none⟩) g.nons (if g.nons=0 then 0 else 1),.slice (some ⟨io,0,none⟩) g.nons 1])::(io,.cells false s.vs)::(ie,.cells false (u.E.map cBool.cell))::u.bs.eraseIdx r.left)::[(i6,.cells false [.int .i64 r.left,.slice b2 n2 d2])]::own) 0 1 Tryz.func117 Z Z Z Z Z Z (List.Perm.refl _) (fun _=>List.Perm.refl _) (fun G hG hBG=>union_spec G (it:=id) (xs:=old) (ys:=row) (m:=g.terms) zo (by
     have:=arr_of_cells (K:=cBool) (R:=tBool) (F:=G) (id:=ir) (row:=row) (c:=if row.length=0 then 0 else 1) (ro:=false) rfl (fun _ _=>rfl) rfl (hBG ir _ me)
     rw[hofl] at this;exact this) zo zo) (fun v D hv=>?_)
    obtain⟨rfl,rfl⟩:=hv
    refine WT.le (own2:=[(ir,.cells false (row.map cBool.cell))]::[(i6,.cells false [.int .i64 r.left,.slice b2 n2 d2])]::((is,.cells false [.int .i64 g.terms,.int .i64 g.nons,.int .i64 g.start,.slice a m c,.slice (some ⟨ie,0,none⟩) g.nons (if g.nons=0 then 0 else 1),.slice (some ⟨io,0,none⟩) g.nons 1])::(io,.cells false s.vs)::(ie,.cells false (u.E.map cBool.cell))::u.bs.set r.left (id,.cells false ((orRow old row).map cBool.cell)))::own) (OwnLe.flat ?_) ?_
    ·simp only[List.flatten_cons]
     refine List.Perm.append_left _ ?_
     exact(perm_borrow _ _ [_,_,_] _ _ _ hps).symm
    refine zB4 ?_
    have done:∀(E':List Bool) (ag:Bool),(E'=u.E∨(E'=u.E.set r.left true∧e0=false∧ag=true))→(orRow old row≠old→ag=true)→(u.again=true→ag=true)→(ag=true→u.again=true∨orRow old row≠old∨ones E'=ones u.E+1)→(ag=false→emp=true→e0=true)→
      (Abs.Rows cBool s.vs (u.bs.set r.left (id,.cells false ((orRow old row).map cBool.cell))) (u.Fi.set r.left (orRow old row))∧TabOk g.nons g.terms (u.Fi.set r.left (orRow old row))∧E'.length=g.nons∧ones t.E+onesT t.Fi≤ones E'+onesT (u.Fi.set r.left (orRow old row))∧(ag=true→ones t.E+onesT t.Fi<ones E'+onesT (u.Fi.set r.left (orRow old row)))∧(ag=false→∀r'∈g.rules.take (k+1),RuleClosed g.terms E' (u.Fi.set r.left (orRow old row)) r')):=by
     intro E' ag hE' h1 h2 h3 h4
     have hE1:ones u.E≤ones E'∧E'.length=g.nons:=by
      rcases hE' with rfl | ⟨rfl,h5,_⟩
      ·exact⟨Nat.le_refl _,hE⟩
      ·subst h5;rw[ones_set he0];exact⟨by omega,by simp[hE]⟩
     refine⟨hR',hM',hE1.2,by omega,fun hag=>?_,fun hag=>?_⟩
     ·rcases h3 hag with h5 | h5 | h5
      ·have:=hT2 h5;omega
      ·have:=hone.2 h5;omega
      ·omega
     ·have hch:orRow old row=old:=by
       rcases Classical.em (orRow old row=old) with h5 | h5
       ·exact h5
       ·rw[h1 h5] at hag;cases hag
      have hua:u.again=false:=by
       cases hu:u.again with
       | false=>rfl
       | true=>rw[h2 hu] at hag;cases hag
      have hEE:E'=u.E:=by
       rcases hE' with h5 | ⟨_,_,h5⟩
       ·exact h5
       ·rw[h5] at hag;cases hag
      subst hEE
      rw[hset_same hch]
      exact take_all hrk (hC hua) (hRC.2 ⟨hch,h4 hag⟩)
    have ownE:∀ag,OwnLe ((fun t:FM=>((is,Blk.cells false [.int .i64 g.terms,.int .i64 g.nons,.int .i64 g.start,.slice a m c,.slice (some ⟨ie,0,none⟩) g.nons (if g.nons=0 then 0 else 1),.slice (some ⟨io,0,none⟩) g.nons 1])::(io,.cells false s.vs)::(ie,.cells false (t.E.map cBool.cell))::t.bs)::own) ⟨u.E.set r.left true,u.Fi.set r.left (orRow old row),u.bs.set r.left (id,.cells false ((orRow old row).map cBool.cell)),ag⟩)
      (((is,Blk.cells false [.int .i64 g.terms,.int .i64 g.nons,.int .i64 g.start,.slice a m c,.slice (some ⟨ie,0,none⟩) g.nons (if g.nons=0 then 0 else 1),.slice (some ⟨io,0,none⟩) g.nons 1])::(io,.cells false s.vs)::(ie,.cells false ((u.E.map cBool.cell).set (0+r.left*1) (.bool true)))::u.bs.set r.left (id,.cells false ((orRow old row).map cBool.cell)))::own):=by
     intro ag
     refine OwnLe.flat ?_
     dsimp only
     rw[List.map_set,Nat.zero_add,Nat.mul_one]
     exact List.Perm.refl _
    refine WT.split 57 Z (fun h3=>?_) (fun h3=>?_)
    ·have hch:orRow old row≠old:=of_decide_eq_true h3
     refine zB4 ?_
     refine WT.split 61 Z (fun h4=>?_) (fun h4=>?_)
     ·refine zB4 ?_
      refine WT.idxA (j:=r.left) (s:=1) hT Z Z Z Z Z Z Z Z Z hrl ?_
      refine WT.loadAt hT 2 Z Z Z Z Z Z (List.mem_cons_of_mem _ (List.mem_cons_of_mem _ me)) Z Z hE0c ?_
      refine zB4 ?_
      refine AW.cond Z (fun h5=>?_) (fun h5=>?_)
      ·have h5:e0=false:=by simpa using h5
       refine zB4 ?_
       refine WT.idxA (j:=r.left) (s:=1) hT Z Z Z Z Z Z Z Z Z hrl ?_
       refine WT.storeAt hT 2 2 Z Z Z Z Z Z Z Z Z Z (by simp;omega) Z Z ?_
       refine zB4 ?_
       exact⟨_,sM,OwnLe.skip _ (OwnLe.skip _ (ownE true)),done _ true (.inr ⟨rfl,h5,rfl⟩) (fun _=>rfl) (fun _=>rfl) (fun _=>.inr (.inr (by subst h5;exact ones_set he0))) (fun h=>(by cases h))⟩
      ·have h5:e0=true:=by simpa using h5
       refine zB4 ?_
       exact⟨⟨u.E,u.Fi.set r.left (orRow old row),u.bs.set r.left (id,.cells false ((orRow old row).map cBool.cell)),true⟩,sM,zow,done _ true (.inl rfl) (fun _=>rfl) (fun _=>rfl) (fun _=>.inr (.inl hch)) (fun _ _=>h5)⟩
     ·refine zB4 ?_
      refine AW.cond Z (fun h5=>(by cases h5)) (fun _=>?_)
      refine zB4 ?_
      exact⟨⟨u.E,u.Fi.set r.left (orRow old row),u.bs.set r.left (id,.cells false ((orRow old row).map cBool.cell)),true⟩,sM,zow,done _ true (.inl rfl) (fun _=>rfl) (fun _=>rfl) (fun _=>.inr (.inl hch)) (fun _ he=>(by rw[show emp=false from h4] at he;cases he))⟩
    ·have hch:orRow old row=old:=by simpa using h3
     refine zB4 ?_
     refine WT.split 61 Z (fun h4=>?_) (fun h4=>?_)
     ·refine zB4 ?_
      refine WT.idxA (j:=r.left) (s:=1) hT Z Z Z Z Z Z Z Z Z hrl ?_
      refine WT.loadAt hT 2 Z Z Z Z Z Z (List.mem_cons_of_mem _ (List.mem_cons_of_mem _ me)) Z Z hE0c ?_
      refine zB4 ?_
      refine AW.cond Z (fun h5=>?_) (fun h5=>?_)
      ·have h5:e0=false:=by simpa using h5
       refine zB4 ?_
       refine WT.idxA (j:=r.left) (s:=1) hT Z Z Z Z Z Z Z Z Z hrl ?_
       refine WT.storeAt hT 2 2 Z Z Z Z Z Z Z Z Z Z (by simp;omega) Z Z ?_
       refine zB4 ?_
       exact⟨_,sM,OwnLe.skip _ (OwnLe.skip _ (ownE true)),done _ true (.inr ⟨rfl,h5,rfl⟩) (fun _=>rfl) (fun _=>rfl) (fun _=>.inr (.inr (by subst h5;exact ones_set he0))) (fun h=>(by cases h))⟩
      ·have h5:e0=true:=by simpa using h5
       refine zB4 ?_
       exact⟨⟨u.E,u.Fi.set r.left (orRow old row),u.bs.set r.left (id,.cells false ((orRow old row).map cBool.cell)),u.again⟩,sM,zow,done _ u.again (.inl rfl) (fun hne=>absurd hch hne) (fun h=>h) (fun h=>.inl h) (fun _ _=>h5)⟩
     ·refine zB4 ?_
      refine AW.cond Z (fun h5=>(by cases h5)) (fun _=>?_)
      refine zB4 ?_
      exact⟨⟨u.E,u.Fi.set r.left (orRow old row),u.bs.set r.left (id,.cells false ((orRow old row).map cBool.cell)),u.again⟩,sM,zow,done _ u.again (.inl rfl) (fun hne=>absurd hch hne) (fun h=>h) (fun h=>.inl h) (fun _ he=>(by rw[show emp=false from h4] at he;cases he))⟩
   ·intro u F3 hF3 hP
    obtain⟨hR,hM,hE,hT1,hT2,hC⟩:=hP
    rw[List.take_of_length_le zo] at hC
    skip
    refine⟨u,?_,sM,zow,hR,hM,hE,hC⟩
    have h1:=onesT_le hM
    have h2:=ones_le u.E
    rw[h,if_pos rfl]
    split
    ·rename_i h4;have:=hT2 h4;omega
    ·omega
  ·refine AW.exit ?_
   refine AW.freezeAll 0 Z Z (fun F3 hF3 hB3=>?_)
   refine zB4 ?_
   have hEa:=arr_of_cells (K:=cBool) (R:=tBool) (F:=F3) (id:=ie) (row:=t.E) (c:=if t.E.length=0 then 0 else 1) (ro:=false) rfl (fun _ _=>rfl) rfl (hB3 ie _ (by simp))
   rw[hE] at hEa
   have hFa:=Abs.Rows.arr (K:=cBool) (R:=tBool) rfl (fun _ _=>rfl) (F:=F3) (o:=io) (c:=if t.Fi.length=0 then 0 else 1) (ro:=false) hR (fun i b hm=>hB3 i b (by simp[hm])) rfl (hB3 io _ (by simp))
   rw[hM.size,if_neg zo] at hFa
   exact AW.ret ⟨_,[],⟨_,_,rfl,rfl,rfl⟩,zsb,rfl,is,t.E,t.Fi,rfl,⟨ie,io,_,_,false,hB3 is _ (by simp),hEa,hFa⟩,hM.row,hr2.mono hF3,hC h⟩
def wars(f:Nat→Nat→Bool):Nat→Nat→Nat→Bool
 | 0,i,j=>f i j
 | k+1,i,j=>wars f k i j||(wars f k i k&&wars f k k j)
theorem wars_col(f:Nat→Nat→Bool)(k i:Nat):wars f (k+1) i k=wars f k i k:=by
 simp only[wars];cases wars f k i k<;>simp
theorem wars_row(f:Nat→Nat→Bool)(k j:Nat):wars f (k+1) k j=wars f k k j:=by
 simp only[wars];cases wars f k k j<;>simp
theorem wars_mono(f:Nat→Nat→Bool)(k i j:Nat)(h:wars f k i j=true):wars f (k+1) i j=true:=by
 simp only[wars,h,Bool.true_or]
theorem wars_ge(f:Nat→Nat→Bool)(i j:Nat)(h:f i j=true):∀k,wars f k i j=true
 | 0=>h
 | k+1=>wars_mono f k i j (wars_ge f i j h k)
theorem wars_trans(f:Nat→Nat→Bool):∀(k a b c:Nat),b<k→wars f k a b=true→wars f k b c=true→wars f k a c=true
 | 0,a,b,c,h,_,_=>absurd h (Nat.not_lt_zero _)
 | k+1,a,b,c,h,h1,h2=>by
  by_cases hb:b=k
  ·subst hb
   rw[wars_col] at h1
   rw[wars_row] at h2
   simp only[wars,h1,h2,Bool.and_self,Bool.or_true]
  ·have ih:=wars_trans f k
   simp only[wars,Bool.or_eq_true,Bool.and_eq_true] at h1 h2 ⊢
   rcases h1 with h1 | ⟨h1,h1'⟩
   ·rcases h2 with h2 | ⟨h2,h2'⟩
    ·exact .inl (ih a b c zo h1 h2)
    ·exact .inr ⟨ih a b k zo h1 h2,h2'⟩
   ·rcases h2 with h2 | ⟨h2,h2'⟩
    ·exact .inr ⟨h1,ih k b c zo h1' h2⟩
    ·exact .inr ⟨h1,h2'⟩
def DirectIn(E:List Bool)(M:List (List Bool))(r:Rule):Prop:=∀pre n post,r.right=pre++⟨false,n⟩::post→(∀y∈pre,y.term=false∧E.getD y.n false=true)→tget M r.left n=some true
theorem tget_mono{n m:Nat}{M:List (List Bool)}(h:TabOk n m M){i j:Nat}(hi:i<n)(hj:j<m){a b:Nat}(ha:tget M a b=some true):tget (tput M i j true) a b=some true:=by
 rw[tget_put h hi hj];split
 ·rfl
 ·exact ha
structure TM where
 M:List (List Bool)
 bs:List (Nat×Blk)
theorem left_spec(F:Frz)(g:Gram)(hg:Valid g){a:Option Addr}{m c:Nat}(hr:Arr tRule F a m c g.rules) :
  Abs.Spec CC 63 [.agg ⟨gramCells g a m c⟩] F [] fun F' v o=>o=[]∧∃a c M E Fi,v=.slice a g.nons c∧Arr (tList tBool) F' a g.nons c M∧TabOk g.nons g.nons M∧FirstClosed g E Fi∧(∀r∈g.rules,DirectIn E M r)∧
   ∀x y z,y<g.nons→tget M x y=some true→tget M y z=some true→tget M x z=some true:=by
 unfold gramCells
 have hrlen:=hr.len
 have hgr:=hg.range.rules
 have hgn:=hg.range.nons
 have hgt:=hg.range.terms
 refine Abs.Spec.fn (n:=115) Tryz.func63 rfl rfl fun own=>?_
 refine AW.seq (AW.reg ?_)
 refine WT.boxT Z Z Z Z Z Z (fun i1 hi1=>?_)
 refine WT.freezeAll 0 Z Z (fun F0 hF0 hB0=>?_)
 have hi1:=hB0 i1 _ me
 have hr:=hr.mono hF0
 refine zB4 ?_
 refine WT.callF0 Tryz.func90 Z Z Z Z Z Z (make_spec _ g hg hr) (fun F1 v hF1 hv=>?_)
 obtain⟨is,E,Fi,rfl,hS⟩:=hv
 obtain⟨⟨ie,iof,ce,co,ros,hSb,hEa,hFa⟩,hSrow,hSrules,hSc⟩:=hS
 have hi1:=hF1 _ _ hi1
 have hr:=hr.mono hF1
 have hElen:=hEa.len
 refine zB4 ?_
 refine WT.makeT (l:=g.nons) hT Z Z Z Z Z Z Z Z Z Z Z Z zom (fun io hio=>?_)
 rw[cap_eq]
 refine zB4 ?_
 refine AW.range (S:=MS) (fun _=>[]) (fun s=>((io,.cells false (s.vs++List.replicate s.k (.slice none 0 0)))::s.bs)::[]::own)
  (fun j s G=>s.k=g.nons-j∧Abs.Rows cBool s.vs s.bs (List.replicate j (List.replicate g.nons false))) g.nons ⟨g.nons,[],[]⟩ Z Z Z Z Z Z Z Z Z zo rfl rfl (fun _=>rfl) (fun _=>rfl) sM (OwnLe.flat (List.Perm.refl _)) ⟨rfl,Abs.Rows.nil⟩ ?_ ?_
 ·intro j s F2 hF2 hj hP
  obtain⟨hk,hR⟩:=hP
  have hi1:=hF2 _ _ hi1
  have hvl:=hR.len.1
  rw[List.length_replicate] at hvl
  refine zB4 ?_
  refine WT.makeT (l:=g.nons) hT Z Z Z Z Z Z Z Z Z Z Z Z zom (fun ir hir=>?_)
  rw[cap_eq]
  refine WT.idxA (j:=j) (s:=1) hT Z Z Z Z Z Z Z Z Z hj ?_
  refine WT.storeAt hT 1 0 Z Z Z Z Z Z Z Z Z Z (by simp;omega) Z Z ?_
  refine zB4 ?_
  refine⟨⟨g.nons-(j+1),s.vs++[.slice (some ⟨ir,0,none⟩) g.nons (if g.nons=0 then 0 else 1)],s.bs++[(ir,.cells false (List.replicate g.nons (.bool false)))]⟩,sM,OwnLe.flat ?_,rfl,?_⟩
  ·dsimp only
   rw[show 0+j*1=s.vs.length by omega,set_rep _ _ _ _ zo,show s.k-1=g.nons-(j+1) by omega]
   simp only[List.flatten_cons]
   exact perm_merge _ _ _ _
  ·rw[show List.replicate (j+1) (List.replicate g.nons false)=List.replicate j (List.replicate g.nons false)++[List.replicate g.nons false] from List.replicate_succ']
   have:=hR.snoc (K:=cBool) (id:=ir) (row:=List.replicate g.nons false) (c:=if g.nons=0 then 0 else 1) (by simp)
   rw[List.length_replicate,List.map_replicate] at this
   exact this
 ·intro s F2 hF2 hP
  obtain⟨hk,hR0⟩:=hP
  have hk0:s.k=0:=by omega
  have hi1:=hF2 _ _ hi1
  have hr2:=hr.mono hF2
  have hSb:=hF2 _ _ hSb
  have hEa:=hEa.mono hF2
  have hM0:TabOk g.nons g.nons (List.replicate g.nons (List.replicate g.nons false)):=⟨by simp,fun r hr=>by rw[List.eq_of_mem_replicate hr];simp⟩
  refine zB4 ?_
  refine AW.le (own2:=((io,.cells false s.vs)::s.bs)::own) (OwnLe.flat ?_) ?_
  ·rw[hk0,List.replicate_zero,List.append_nil];exact List.Perm.refl _
  refine AW.range (S:=TM) (fun _=>[]) (fun t=>((io,.cells false s.vs)::t.bs)::own) (fun k t G=>Abs.Rows cBool s.vs t.bs t.M∧TabOk g.nons g.nons t.M∧∀r∈g.rules.take k,DirectIn E t.M r) m ⟨_,s.bs⟩
   Z Z Z Z Z Z Z Z Z zo rfl rfl (fun _=>rfl) (fun _=>rfl) sM oR ⟨hR0,hM0,by simp⟩ ?_ ?_
  ·intro k t F3 hF3 hk hP
   obtain⟨hR,hM,hD⟩:=hP
   have hr3:=hr2.mono hF3
   have hSb:=hF3 _ _ hSb
   have hEa:=hEa.mono hF3
   refine zB4 ?_
   refine WT.idxL hT hr3 Z Z Z Z Z Z Z Z Z zo (fun r hrk b1 off ro cs lx hb hp1 hrel=>?_)
   obtain⟨b2,n2,d2,rfl,hr4⟩:=hrel
   obtain⟨hrl,hrr,hrs⟩:=hg.right r (gM hrk)
   have hr4l:=hr4.len
   refine zB4 ?_
   refine WT.allocT hT Z Z Z Z Z Z (fun i7 hi7=>?_)
   refine zB4 ?_
   refine AW.range (S:=TM) (fun _=>[]) (fun t=>[(i7,.cells false [.int .i64 r.left,.slice b2 n2 d2])]::((io,.cells false s.vs)::t.bs)::own)
    (fun q u G=>Abs.Rows cBool s.vs u.bs u.M∧TabOk g.nons g.nons u.M∧(∀r∈g.rules.take k,DirectIn E u.M r)∧∀pre n post,r.right=pre++⟨false,n⟩::post→pre.length<q→tget u.M r.left n=some true) n2 t
    Z Z Z Z Z Z Z Z Z zo rfl rfl (fun _=>rfl) (fun _=>rfl) sM oR ⟨hR,hM,hD,by omega⟩ ?_ ?_
   ·intro q u F4 hF4 hq hP
    obtain⟨hR,hM,hD,hU⟩:=hP
    have hr5:=hr4.mono hF4
    have hSb:=hF4 _ _ hSb
    have hEa:=hEa.mono hF4
    refine zB4 ?_
    refine WT.idxL hT hr5 Z Z Z Z Z Z Z Z Z zo (fun y hyq b3 off3 ro3 cs3 lx3 hb3 hp3 hrel3=>?_)
    obtain rfl:lx3=_:=hrel3
    have hyok:=hrs y (gM hyq)
    have stop:∀(M:List (List Bool)),(∀pre n post,r.right=pre++⟨false,n⟩::post→pre.length≤q→(y.term=false)→tget M r.left n=some true)→(∀pre n post,r.right=pre++⟨false,n⟩::post→pre.length<q→tget M r.left n=some true)→(y.term=true∨E.getD y.n false=false)→DirectIn E M r:=by
     intro M h1 h2 h3 pre n post he hpre
     have hat:∀(l:List Sym),r.right=l→l[q]?=some y:=fun l hl=>by rw[←hl];exact hyq
     have h4:=hat _ he
     rcases Nat.lt_or_ge q pre.length with h5 | h5
     ·rw[List.getElem?_append_left h5] at h4
      have h6:=hpre y (gM h4)
      rcases h3 with h3 | h3
      ·rw[h6.1] at h3;cases h3
      ·rw[h6.2] at h3;cases h3
     ·rcases Nat.lt_or_ge pre.length q with h7 | h7
      ·exact h2 pre n post he h7
      ·have h8:pre.length=q:=by omega
       rw[List.getElem?_append_right zo,h8,Nat.sub_self] at h4
       simp at h4
       exact h1 pre n post he zo (by rw[←h4])
    refine zB4 ?_
    refine WT.allocT hT Z Z Z Z Z Z (fun i9 hi9=>?_)
    refine zB4 ?_
    refine AW.cond Z (fun h=>?_) (fun h=>?_)
    ·have h:y.term=true:=h
     refine AW.exit ?_
     refine⟨u,sM,zow,hR,hM,take_all hrk hD (stop u.M (fun _ _ _ _ _ hf=>(by rw[h] at hf;cases hf)) hU (.inl h))⟩
    ·have h:y.term=false:=h
     rw[SymOk,if_neg (by simp[h])] at hyok
     obtain⟨row,x0,id,cc,hrow,hx0,_,hvs,hbs,hcell,hcl,hput⟩:=hR.cellAt hM hrl hyok
     have hU':∀pre n post,r.right=pre++⟨false,n⟩::post→pre.length≤q→tget (tput u.M r.left y.n true) r.left n=some true:=by
      intro pre n post he hle
      rcases Nat.lt_or_ge pre.length q with h7 | h7
      ·exact tget_mono hM hrl hyok (hU pre n post he h7)
      ·have hat:∀(l:List Sym),r.right=l→l[q]?=some y:=fun l hl=>by rw[←hl];exact hyq
       have h4:=hat _ he
       rw[List.getElem?_append_right zo,show q-pre.length=0 by omega] at h4
       simp at h4
       rw[←h4,tget_put hM hrl (by rw[←h4] at hyok;exact hyok),if_pos ⟨rfl,rfl⟩]
     have hD':∀r'∈g.rules.take k,DirectIn E (tput u.M r.left y.n true) r':=fun r' hr' pre n post he hpre=>tget_mono hM hrl hyok (hD r' hr' pre n post he hpre)
     obtain⟨e,he⟩:∃e,E[y.n]?=some e:=⟨_,gE zo⟩
     have hgE:E.getD y.n false=e:=by rw[List.getD_eq_getElem?_getD,he];rfl
     refine zB4 ?_
     refine WT.idxA (j:=r.left) (s:=1) hT Z Z Z Z Z Z Z Z Z hrl ?_
     refine WT.loadAt hT 2 Z Z Z Z Z Z me Z Z hvs ?_
     refine zB4 ?_
     refine WT.idxA (j:=y.n) (s:=1) hT Z Z Z Z Z Z Z Z Z hyok ?_
     refine WT.storeAt hT 2 (r.left+1) Z Z Z Z Z Z hbs Z Z Z zo Z Z ?_
     refine zB4 ?_
     refine WT.idxL hT hEa Z Z Z Z Z Z Z Z Z zo (fun e' he' b5 off5 ro5 cs5 lx5 hb5 hp5 hrel5=>?_)
     obtain rfl:lx5=_:=hrel5
     have:e'=e:=by rw[he] at he';exact(Option.some.inj he').symm
     subst this
     refine zB4 ?_
     refine AW.cond Z (fun h2=>?_) (fun h2=>?_)
     ·have h2:e'=false:=by simpa using h2
      refine AW.exit ?_
      exact⟨⟨tput u.M r.left y.n true,_⟩,sM,OwnLe.skip _ (OwnLe.skip _ oR),hput true,hM.put _ _ _,take_all hrk hD' (stop _ (fun pre n post he hle _=>hU' pre n post he hle) (fun pre n post he hlt=>hU' pre n post he zo) (.inr (by rw[hgE];exact h2)))⟩
     ·refine zB4 ?_
      exact⟨⟨tput u.M r.left y.n true,_⟩,sM,OwnLe.skip _ oR,hput true,hM.put _ _ _,hD',fun pre n post he hlt=>hU' pre n post he zo⟩
   ·intro u F4 hF4 hP
    obtain⟨hR,hM,hD,hU⟩:=hP
    skip
    refine⟨u,sM,zow,hR,hM,take_all hrk hD fun pre n post he _=>hU pre n post he ?_⟩
    have:r.right.length=n2:=by omega
    rw[he] at this
    simp at this
    omega
  ·intro t F3 hF3 hP
   obtain⟨hR,hM,hD⟩:=hP
   rw[List.take_of_length_le zo] at hD
   have hi1:=hF3 _ _ hi1
   refine zB4 ?_
   let f:Nat→Nat→Bool:=fun i j=>decide (tget t.M i j=some true)
   have hf:∀i j,i<g.nons→j<g.nons→tget t.M i j=some (f i j):=by
    intro i j hi hj
    obtain⟨x,hx⟩:=tget_some hM hi hj
    simp only[f]
    rw[hx]
    cases x<;>simp
   refine AW.range (S:=TM) (fun _=>[]) (fun t=>((io,.cells false s.vs)::t.bs)::own) (fun k u G=>Abs.Rows cBool s.vs u.bs u.M∧TabOk g.nons g.nons u.M∧∀a b,a<g.nons→b<g.nons→tget u.M a b=some (wars f k a b)) g.nons t
    Z Z Z Z Z Z Z Z Z zo rfl rfl (fun _=>rfl) (fun _=>rfl) sM oR ⟨hR,hM,hf⟩ ?_ ?_
   ·intro k u F4 hF4 hk hP
    obtain⟨hR,hM,hW⟩:=hP
    have hi1:=hF4 _ _ hi1
    refine zB4 ?_
    refine AW.range (S:=TM) (fun _=>[]) (fun t=>((io,.cells false s.vs)::t.bs)::own) (fun i u G=>Abs.Rows cBool s.vs u.bs u.M∧TabOk g.nons g.nons u.M∧∀a b,a<g.nons→b<g.nons→tget u.M a b=some (if a<i then wars f (k+1) a b else wars f k a b)) g.nons u
     Z Z Z Z Z Z Z Z Z zo rfl rfl (fun _=>rfl) (fun _=>rfl) sM oR ⟨hR,hM,fun a b ha hb=>by rw[if_neg zo];exact hW a b ha hb⟩ ?_ ?_
    ·intro i u F5 hF5 hi hP
     obtain⟨hR,hM,hW⟩:=hP
     have hi1:=hF5 _ _ hi1
     refine zB4 ?_
     refine AW.range (S:=TM) (fun _=>[]) (fun t=>((io,.cells false s.vs)::t.bs)::own) (fun j u G=>Abs.Rows cBool s.vs u.bs u.M∧TabOk g.nons g.nons u.M∧∀a b,a<g.nons→b<g.nons→tget u.M a b=some (if a<i∨(a=i∧b<j) then wars f (k+1) a b else wars f k a b)) g.nons u
      Z Z Z Z Z Z Z Z Z zo rfl rfl (fun _=>rfl) (fun _=>rfl) sM oR ⟨hR,hM,fun a b ha hb=>by rw[hW a b ha hb];congr 1;simp⟩ ?_ ?_
     ·intro j u F6 hF6 hj hP
      obtain⟨hR,hM,hW⟩:=hP
      obtain⟨row1,x1,id1,cc1,hrow1,hx1,ht1,hvs1,hbs1,hcell1,hcl1,hput1⟩:=hR.cellAt hM hi hj
      obtain⟨row2,x2,id2,cc2,hrow2,hx2,ht2,hvs2,hbs2,hcell2,hcl2,hput2⟩:=hR.cellAt hM hi hk
      obtain⟨row3,x3,id3,cc3,hrow3,hx3,ht3,hvs3,hbs3,hcell3,hcl3,hput3⟩:=hR.cellAt hM hk hj
      have e1:x1=wars f k i j:=by
       rw[hW i j hi hj,if_neg zo] at ht1;exact(Option.some.inj ht1).symm
      have e2:x2=wars f k i k:=by
       rw[hW i k hi hk] at ht2
       have:=Option.some.inj ht2
       rw[←this];split
       ·exact wars_col f k i
       ·rfl
      have e3:x3=wars f k k j:=by
       rw[hW k j hk hj] at ht3
       have:=Option.some.inj ht3
       rw[←this];split
       ·exact wars_row f k j
       ·rfl
      have fin:∀y,y=wars f (k+1) i j→∀a b,a<g.nons→b<g.nons→tget (tput u.M i j y) a b=some (if a<i∨(a=i∧b<j+1) then wars f (k+1) a b else wars f k a b):=by
       intro y hy a b ha hb
       rw[tget_put hM hi hj]
       by_cases hab:a=i∧b=j
       ·rw[if_pos hab,if_pos zo,hab.1,hab.2,hy]
       ·rw[if_neg hab,hW a b ha hb]
        congr 1
        by_cases h8:a<i∨(a=i∧b<j)
        ·rw[if_pos h8,if_pos zo]
        ·rw[if_neg h8,if_neg zo]
      refine zB4 ?_
      refine WT.idxA (j:=i) (s:=1) hT Z Z Z Z Z Z Z Z Z hi ?_
      refine WT.loadAt hT 0 Z Z Z Z Z Z me Z Z hvs1 ?_
      refine zB4 ?_
      refine WT.idxA (j:=i) (s:=1) hT Z Z Z Z Z Z Z Z Z hi ?_
      refine WT.loadAt hT 0 Z Z Z Z Z Z me Z Z hvs1 ?_
      refine zB4 ?_
      refine WT.idxA (j:=j) (s:=1) hT Z Z Z Z Z Z Z Z Z hj ?_
      refine WT.loadAt hT 0 Z Z Z Z Z Z (List.mem_cons_of_mem _ (gM hbs1)) Z Z hcell1 ?_
      refine zB4 ?_
      refine WT.split 92 Z (fun h=>?_) (fun h=>?_)
      ·have h:x1=true:=h
       refine zB4 ?_
       refine WT.idxA (j:=j) (s:=1) hT Z Z Z Z Z Z Z Z Z hj ?_
       refine WT.storeAt hT 0 (i+1) Z Z Z Z Z Z hbs1 Z Z Z zo Z Z ?_
       refine zB4 ?_
       exact⟨⟨tput u.M i j true,_⟩,sM,OwnLe.refl _,hput1 true,hM.put _ _ _,fin true (by simp only[wars];rw[←e1,h];rfl)⟩
      ·have h:x1=false:=h
       refine zB4 ?_
       refine WT.idxA (j:=i) (s:=1) hT Z Z Z Z Z Z Z Z Z hi ?_
       refine WT.loadAt hT 0 Z Z Z Z Z Z me Z Z hvs1 ?_
       refine zB4 ?_
       have hcell2':(row1.map cBool.cell)[0+k*1]?=some (.bool x2):=by
        have:row1=row2:=by rw[hrow1] at hrow2;exact Option.some.inj hrow2
        rw[this];exact hcell2
       refine WT.idxA (j:=k) (s:=1) hT Z Z Z Z Z Z Z Z Z hk ?_
       refine WT.loadAt hT 0 Z Z Z Z Z Z (List.mem_cons_of_mem _ (gM hbs1)) Z Z hcell2' ?_
       refine zB4 ?_
       refine WT.split 100 Z (fun h2=>?_) (fun h2=>?_)
       ·have h2:x2=true:=h2
        refine zB4 ?_
        refine WT.idxA (j:=k) (s:=1) hT Z Z Z Z Z Z Z Z Z hk ?_
        refine WT.loadAt hT 0 Z Z Z Z Z Z me Z Z hvs3 ?_
        refine zB4 ?_
        refine WT.idxA (j:=j) (s:=1) hT Z Z Z Z Z Z Z Z Z hj ?_
        refine WT.loadAt hT 0 Z Z Z Z Z Z (List.mem_cons_of_mem _ (gM hbs3)) Z Z hcell3 ?_
        refine zB4 ?_
        refine WT.idxA (j:=j) (s:=1) hT Z Z Z Z Z Z Z Z Z hj ?_
        refine WT.storeAt hT 0 (i+1) Z Z Z Z Z Z hbs1 Z Z Z zo Z Z ?_
        refine zB4 ?_
        exact⟨⟨tput u.M i j x3,_⟩,sM,OwnLe.refl _,hput1 x3,hM.put _ _ _,fin x3 (by simp only[wars];rw[←e1,←e2,←e3,h,h2];rfl)⟩
       ·have h2:x2=false:=h2
        refine zB4 ?_
        refine WT.idxA (j:=j) (s:=1) hT Z Z Z Z Z Z Z Z Z hj ?_
        refine WT.storeAt hT 0 (i+1) Z Z Z Z Z Z hbs1 Z Z Z zo Z Z ?_
        refine zB4 ?_
        exact⟨⟨tput u.M i j false,_⟩,sM,OwnLe.refl _,hput1 false,hM.put _ _ _,fin false (by simp only[wars];rw[←e1,←e2,h,h2];rfl)⟩
     ·intro u F6 hF6 hP
      obtain⟨hR,hM,hW⟩:=hP
      skip
      refine⟨u,sM,zow,hR,hM,fun a b ha hb=>?_⟩
      rw[hW a b ha hb]
      congr 1
      by_cases h8:a<i+1
      ·rw[if_pos h8,if_pos zo]
      ·rw[if_neg h8,if_neg zo]
    ·intro u F5 hF5 hP
     obtain⟨hR,hM,hW⟩:=hP
     skip
     refine⟨u,sM,zow,hR,hM,fun a b ha hb=>?_⟩
     rw[hW a b ha hb,if_pos ha]
   ·intro u F4 hF4 hP
    obtain⟨hR,hM',hW⟩:=hP
    refine AW.freezeAll 0 Z Z (fun F5 hF5 hB5=>?_)
    refine zB4 ?_
    have hMa:=Abs.Rows.arr (K:=cBool) (R:=tBool) rfl (fun _ _=>rfl) (F:=F5) (o:=io) (c:=if u.M.length=0 then 0 else 1) (ro:=false) hR (fun i b hm=>hB5 i b (by simp[hm])) rfl (hB5 io _ (by simp))
    rw[hM'.size] at hMa
    have hlt:∀x y,tget u.M x y=some true→x<g.nons∧y<g.nons:=by
     intro x y hxy
     unfold tget at hxy
     cases hx:u.M[x]? with
     | none=>rw[hx] at hxy;cases hxy
     | some row=>
      rw[hx] at hxy
      have h1:=(gS hx).1
      have h2:=(gS hxy).1
      rw[hM'.row row (gM hx)] at h2
      rw[hM'.size] at h1
      exact⟨h1,h2⟩
    refine AW.ret ⟨_,[],⟨_,_,rfl,rfl,rfl⟩,zsb,rfl,_,_,u.M,E,Fi,rfl,hMa,hM',hSc,fun r hr pre n post he hpre=>?_,fun x y z hy hxy hyz=>?_⟩
    ·have h1:=hD r hr pre n post he hpre
     obtain⟨hl,hrr,hrs⟩:=hg.right r hr
     have hn:=hrs ⟨false,n⟩ (by rw[he];simp)
     rw[SymOk,if_neg (by simp)] at hn
     rw[hW _ _ hl hn,wars_ge f _ _ (by simp only[f];rw[h1];simp)]
    ·have h1:=hlt _ _ hxy
     have h2:=hlt _ _ hyz
     rw[hW _ _ h1.1 h1.2] at hxy
     rw[hW _ _ h2.1 h2.2] at hyz
     rw[hW _ _ h1.1 h2.2,wars_trans f g.nons x y z hy (Option.some.inj hxy) (Option.some.inj hyz)]
structure LfS where
 ys:List (List Nat)
 a:Option Addr
 m:Nat
 c:Nat
 B:List (Nat×Blk)
inductive Tree where
 | mk (rule:Int) (term:Nat) (kids:List Tree)
theorem Arr.imp{α:Type}{R S:Ty α}(hs:R.size=S.size){F:Frz}{a:Option Addr}{n c:Nat}{xs:List α}(h:Arr R F a n c xs)(hi:∀l x,x∈xs→R.rel F l x→S.rel F l x):Arr S F a n c xs:=
 ⟨h.len,by rw[←hs];exact h.cap,h.zero,h.nil,h.spot,fun j x hj=>
  let ⟨b,off,ro,cs,l,h1,h2,h3,h4⟩:=h.el j x hj
  ⟨b,off,ro,cs,l,h1,h2,by rw[←hs];exact h3,hi _ _ (gM hj) h4⟩⟩
def tTreeN:Nat→Ty Tree
 | 0=>⟨3,fun _ _ _=>False,fun _ _ _ h=>h.elim,fun _ _ _ h=>h.elim,fun _ _ _ _ _ h=>h⟩
 | d+1=>
  {size:=3
   rel:=fun F l x=>∃r t ks a n c,x=.mk r t ks∧l=[.int .i64 r,.int .i64 (t:Nat),.slice a n c]∧Arr (tTreeN d) F a n c ks∧ks.length≤1000000
   len:=fun _ _ _ h=>by obtain⟨r,t,ks,a,n,c,_,rfl,_⟩:=h;rfl
   one:=fun _ _ _ h=>by obtain⟨r,t,ks,a,n,c,_,rfl,_⟩:=h;rfl
   mono:=fun _ _ _ _ hF h=>by obtain⟨r,t,ks,a,n,c,e,e2,h,hb⟩:=h;exact⟨r,t,ks,a,n,c,e,e2,h.mono hF,hb⟩ }
theorem tTreeN_size:∀d,(tTreeN d).size=3
 | 0=>rfl
 | _+1=>rfl
theorem tTreeN_succ:∀(d:Nat) (F:Frz) (l:List Value) (x:Tree),(tTreeN d).rel F l x→(tTreeN (d+1)).rel F l x
 | 0,_,_,_,h=>h.elim
 | d+1,F,l,x,h=>by
  obtain⟨r,t,ks,a,n,c,e,e2,h,hb⟩:=h
  exact⟨r,t,ks,a,n,c,e,e2,Arr.imp (by rw[tTreeN_size,tTreeN_size]) h fun l x _=>tTreeN_succ d F l x,hb⟩
theorem tTreeN_le{d e:Nat}(h:d≤e){F:Frz}{l:List Value}{x:Tree}(hr:(tTreeN d).rel F l x):(tTreeN e).rel F l x:=by
 induction h with
 | refl=>exact hr
 | step _ ih=>exact tTreeN_succ _ _ _ _ ih
def tTree:Ty Tree where
 size:=3
 rel:=fun F l x=>∃d,(tTreeN d).rel F l x
 len:=fun _ _ _ h=>by obtain⟨d,h⟩:=h;rw[(tTreeN d).len _ _ _ h,tTreeN_size]
 one:=fun _ _ _ h=>by obtain⟨d,h⟩:=h;exact(tTreeN d).one _ _ _ h
 mono:=fun _ _ _ _ hF h=>by obtain⟨d,h⟩:=h;exact⟨d,(tTreeN d).mono _ _ _ _ hF h⟩
theorem max_of{α:Type}{P:Nat→α→Nat→Prop}(hm:∀j x d e,d≤e→P j x d→P j x e):∀(xs:List α) (i:Nat),(∀j x,xs[j]?=some x→∃d,P (i+j) x d)→∃D,∀j x,xs[j]?=some x→P (i+j) x D
 | [],_,_=>⟨0,fun _ _ h=>by simp at h⟩
 | x::xs,i,h=>by
  obtain⟨d,hd⟩:=h 0 x rfl
  obtain⟨D,hD⟩:=max_of hm xs (i+1) (fun j y hj=>by
   have:=h (j+1) y hj
   rw[show i+(j+1)=i+1+j by omega] at this
   exact this)
  refine⟨max d D,fun j y hj=>?_⟩
  cases j with
  | zero=>
   obtain rfl:x=y:=by simpa using hj
   exact hm _ _ _ _ (Nat.le_max_left _ _) hd
  | succ j=>
   have:=hm _ _ _ _ (Nat.le_max_right d D) (hD j y hj)
   rw[show i+(j+1)=i+1+j by omega]
   exact this
theorem arr_tree{F:Frz}{a:Option Addr}{n c:Nat}{xs:List Tree}(h:Arr tTree F a n c xs):∃d,Arr (tTreeN d) F a n c xs:=by
 obtain⟨D,hD⟩:=max_of (P:=fun j x d=>∃b off ro cs l,a=some ⟨b,off,none⟩∧F b=some (.cells ro cs)∧partL cs (off+j*3) 3=some l∧(tTreeN d).rel F l x)
  (fun j x d e hde ⟨b,off,ro,cs,l,h1,h2,h3,h4⟩=>⟨b,off,ro,cs,l,h1,h2,h3,tTreeN_le hde h4⟩) xs 0 (fun j x hj=>by
   obtain⟨b,off,ro,cs,l,h1,h2,h3,d,h4⟩:=h.el j x hj
   exact⟨d,b,off,ro,cs,l,h1,h2,by rw[Nat.zero_add];exact h3,h4⟩)
 refine⟨D,h.len,by rw[tTreeN_size];exact h.cap,h.zero,h.nil,h.spot,fun j x hj=>?_⟩
 obtain⟨b,off,ro,cs,l,h1,h2,h3,h4⟩:=hD j x hj
 rw[Nat.zero_add] at h3
 exact⟨b,off,ro,cs,l,h1,h2,by rw[tTreeN_size];exact h3,h4⟩
theorem tTree_mk{F:Frz}{r:Int}{t:Nat}{ks:List Tree}{a:Option Addr}{n c:Nat}(h:Arr tTree F a n c ks)(hb:ks.length≤1000000):tTree.rel F [.int .i64 r,.int .i64 t,.slice a n c] (.mk r t ks):=by
 obtain⟨d,hd⟩:=arr_tree h
 exact⟨d+1,r,t,ks,a,n,c,rfl,rfl,hd,hb⟩
theorem tTree_cases{F:Frz}{l:List Value}{r:Int}{t:Nat}{ks:List Tree}(h:tTree.rel F l (.mk r t ks)):∃a n c,l=[.int .i64 r,.int .i64 t,.slice a n c]∧Arr tTree F a n c ks∧ks.length≤1000000:=by
 obtain⟨d,h⟩:=h
 cases d with
 | zero=>exact h.elim
 | succ d=>
  obtain⟨r',t',ks',a,n,c,e,rfl,h,hb⟩:=h
  cases e
  exact⟨a,n,c,rfl,Arr.imp (tTreeN_size d) h (fun l x _ hx=>⟨d,hx⟩),hb⟩
theorem splice_end{A B l:List Value}(h:B.length=l.length):spliceL (A++B) A.length l=A++l:=by
 unfold spliceL
 rw[List.take_append_of_le_length (Nat.le_refl _),List.take_length,List.drop_of_length_le (by simp[h])]
 simp
theorem Cells.last{α:Type}{R:Ty α}{F:Frz}{x y:α}{l:List Value}(hl:R.rel F l y):∀(xs:List α) (cs:List Value),Cells R F cs (xs++[x])→Cells R F (spliceL cs (xs.length*R.size) l) (xs++[y])
 | [],cs,h=>by
  cases h with
  | cons h1 h2=>
   cases h2
   rename_i l1
   have:=splice_end (A:=[]) (B:=l1) (l:=l) (by rw[R.len _ _ _ h1,R.len _ _ _ hl])
   simp only[List.nil_append,List.length_nil] at this
   simp only[List.length_nil,Nat.zero_mul,List.append_nil,List.nil_append]
   rw[this]
   exact Cells.single hl
 | z::xs,cs,h=>by
  cases h with
  | cons h1 h2=>
   rename_i l1 cs1
   have ih:=Cells.last hl xs cs1 h2
   have e:spliceL (l1++cs1) ((z::xs).length*R.size) l=l1++spliceL cs1 (xs.length*R.size) l:=by
    have hl1:=R.len _ _ _ h1
    unfold spliceL
    rw[show (z::xs).length*R.size=l1.length+xs.length*R.size by simp[Nat.add_mul,hl1];omega]
    rw[List.take_append,List.take_of_length_le (show l1.length≤l1.length+xs.length*R.size by omega),show l1.length+xs.length*R.size-l1.length=xs.length*R.size by omega,
     show l1.length+xs.length*R.size+l.length=l1.length+(xs.length*R.size+l.length) by omega,List.drop_append,List.drop_of_length_le (show l1.length≤l1.length+(xs.length*R.size+l.length) by omega),
     show l1.length+(xs.length*R.size+l.length)-l1.length=xs.length*R.size+l.length by omega]
    simp
   rw[e]
   exact Cells.cons h1 ih
theorem Bld.last{α:Type}{R:Ty α}{F:Frz}{i m c:Nat}{cs:List Value}{x y:α}{xs:List α}{l:List Value}(h:Bld R F (some ⟨i,0,none⟩) m c [(i,.cells false cs)] (xs++[x]))(hl:R.rel F l y) :
  Bld R F (some ⟨i,0,none⟩) m c [(i,.cells false (spliceL cs (xs.length*R.size) l))] (xs++[y]):=by
 refine⟨by rw[h.len];simp,?_⟩
 rcases h.at_ with ⟨h1,_⟩ | ⟨i',cs',h1,h2,h3,h4,h5⟩
 ·simp at h1
 ·cases h1
  cases h3
  exact .inr ⟨i,_,rfl,h2,rfl,Cells.last hl _ _ h4,h5⟩
theorem Bld.ne{α:Type}{R:Ty α}{F:Frz}{a:Option Addr}{m c:Nat}{B:List (Nat×Blk)}{xs:List α}(h:Bld R F a m c B xs)(hne:xs≠[]):∃i cs,a=some ⟨i,0,none⟩∧c=R.size∧B=[(i,.cells false cs)]∧Cells R F cs xs:=by
 rcases h.at_ with ⟨h1,_⟩ | ⟨i,cs,h1,h2,h3,h4,_⟩
 ·exact absurd h1 hne
 ·exact⟨i,cs,h1,h2,h3,h4⟩
structure TkS where
 j:Nat
 a:Option Addr
 c:Nat
 B:List (Nat×Blk)
theorem copyTree_spec:∀(d:Nat) (F:Frz) (cs:List Value) (t:Tree),(tTreeN d).rel F cs t→Abs.Spec CC 39 [.agg ⟨cs⟩] F [] fun F' v o=>o=[]∧∃cs,v=.agg ⟨cs⟩∧tTree.rel F' cs t
 | 0,_,_,_,h=>h.elim
 | d+1,F,cs,t,h=>by
  obtain⟨r,t,ks,a,n,c,rfl,rfl,hk,hkb⟩:=h
  have hlen:=hk.len
  refine Abs.Spec.fn (n:=27) Tryz.func39 rfl rfl fun own=>?_
  refine AW.seq (AW.reg ?_)
  refine WT.boxT Z Z Z Z Z Z (fun i1 hi1=>?_)
  skip
  refine WT.allocT hT Z Z Z Z Z Z (fun i2 hi2=>?_)
  refine zB4 ?_
  refine WT.allocT hT Z Z Z Z Z Z (fun i3 hi3=>?_)
  refine zB4 ?_
  refine AW.range (S:=TkS) (fun _=>[]) (fun s=>s.B::[(i3,.cells false [.int .i64 r,.int .i64 t,.slice s.a (ks.take s.j).length s.c])]::[(i2,.cells false [.int .i64 0,.int .i64 0,.slice none 0 0])]::[(i1,.cells false [.int .i64 r,.int .i64 t,.slice a n c])]::own)
   (fun j s G=>s.j=j∧Bld tTree G s.a (ks.take s.j).length s.c s.B (ks.take s.j)) n ⟨0,none,0,[]⟩
   Z Z Z Z Z Z Z Z Z zo rfl rfl (fun _=>rfl) (fun _=>rfl) sM (OwnLe.flat (List.Perm.refl _)) ⟨rfl,by simpa using Bld.nil_ _ _⟩ ?_ ?_
  ·intro j s F1 hF1 hj hP
   obtain⟨rfl,hb⟩:=hP
   have hk1:=hk.mono hF1
   refine zB6 ?_
   refine WT.idxL hT hk1 Z Z Z Z Z Z Z Z (by rw[tTreeN_size];rfl) zo (fun x hx b off ro cs lx hb1 hp1 hrel=>?_)
   rw[tTreeN_size] at hp1
   obtain⟨xr,xt,xk,xa,xn,xc,rfl,rfl,hxa,hxb⟩:∃xr xt xk xa xn xc,x=Tree.mk xr xt xk∧lx=[.int .i64 xr,.int .i64 (xt:Nat),.slice xa xn xc]∧Arr tTree F1 xa xn xc xk∧xk.length≤1000000:=by
    cases x with
    | mk xr xt xk=>
     obtain⟨xa,xn,xc,h1,h2,h3⟩:=tTree_cases ⟨d,hrel⟩
     exact⟨xr,xt,xk,xa,xn,xc,rfl,h1,h2,h3⟩
   refine zB6 ?_
   refine WT.allocT hT Z Z Z Z Z Z (fun i5 hi5=>?_)
   refine zB6 ?_
   refine AW.draw (ps:=[(1,3),(1,4)]) Z Z ?_
   refine zB6 ?_
   refine WT.callF0 Tryz.func39 Z Z Z Z Z Z (copyTree_spec d F1 _ _ hrel) (fun F2 v hF2 hv=>?_)
   obtain⟨cv,rfl,hcv⟩:=hv
   obtain⟨ya,yn,yc,rfl,hya,hyb⟩:=tTree_cases hcv
   have hb:=hb.mono hF2
   skip
   refine WT.buildT hT Z Z Z Z Z Z Z Z Z Z Z Z Z Z (fun i9 hi9=>?_)
   have hlt:(ks.take s.j).length≤1000000:=by simp;omega
   refine WT.appendT (ys:=[Tree.mk xr xt xk]) hT 2 hb Z (fun _=>rfl) Z Z Z Z Z Z Z Z Z Z Z (fun h0 s0=>news_own hT s0 0 Z Z Z Z) (Cells.single (R:=tTree) (x:=Tree.mk xr xt xk) hcv) Z (by decide) zom (fun a3 c3 B3 hB3=>?_)
   have he:ks.take (s.j+1)=ks.take s.j++[Tree.mk xr xt xk]:=by rw[List.take_add_one,hx];rfl
   have hl2:(ks.take (s.j+1)).length=(ks.take s.j).length+1:=by rw[he];simp
   rw[←he,←hl2] at hB3
   rw[←hl2]
   refine zB6 ?_
   refine⟨zrC,?_⟩
   exact⟨⟨s.j+1,a3,c3,B3⟩,sM,zow,rfl,hB3⟩
  ·intro s F1 hF1 hP
   obtain⟨rfl,hb⟩:=hP
   rw[List.take_of_length_le zo] at hb ⊢
   refine AW.freezeAll 0 Z Z (fun F2 hF2 hB2=>?_)
   have hx:=hb.frozen hF2 hB2
   refine zB6 ?_
   refine AW.ret ⟨_,[],⟨_,_,⟨_,rfl,fun G h0 s0=>loadA_cells (s0.has (p:=2) Z me) (readT_ok hT rfl)⟩,rfl,rfl⟩,zsb,rfl,_,rfl,tTree_mk hx hkb⟩
structure NoLoop(g:Gram)(M:List (List Bool))(E:List Bool)(Fi:List (List Bool)):Prop where
 tab:TabOk g.nons g.nons M
 first:FirstClosed g E Fi
 direct:∀r∈g.rules,DirectIn E M r
 trans:∀x y z,y<g.nons→tget M x y=some true→tget M y z=some true→tget M x z=some true
 irr:∀i,i<g.nons→tget M i i≠some true
theorem loops_spec(F:Frz)(g:Gram)(hg:Valid g){a:Option Addr}{m c:Nat}(hr:Arr tRule F a m c g.rules) :
  Abs.Spec CC 37 [.agg ⟨gramCells g a m c⟩] F [] fun F' v o=>o=[]∧∃b,v=.bool b∧(b=false→∃M E Fi,NoLoop g M E Fi):=by
 unfold gramCells
 have hgn:=hg.range.nons
 refine Abs.Spec.fn (n:=18) Tryz.func37 rfl rfl fun own=>?_
 refine AW.seq (AW.reg ?_)
 refine WT.boxT Z Z Z Z Z Z (fun i1 hi1=>?_)
 refine zB4 ?_
 refine WT.callF0 Tryz.func63 Z Z Z Z Z Z (left_spec _ g hg hr) (fun F1 v hF1 hv=>?_)
 obtain⟨ma,mc,M,E,Fi,rfl,hM,hMt,hFC,hD,hT'⟩:=hv
 have hMl:=hM.len
 refine zB4 ?_
 refine AW.range (S:=Unit) (fun _=>[]) (fun _=>[(i1,.cells false (gramCells g a m c))]::own) (fun j _ G=>∀i,i<j→tget M i i≠some true) g.nons ()
  Z Z Z Z Z Z Z Z Z zo rfl rfl (fun _=>rfl) (fun _=>rfl) sM oR zo ?_ ?_
 ·intro j _ F2 hF2 hj hP
  have hM2:=hM.mono hF2
  refine zB4 ?_
  refine WT.idxL hT hM2 Z Z Z Z Z Z Z Z Z zo (fun row hrow b1 off ro cs lx hb hp1 hrel=>?_)
  obtain⟨ra,rn,rc,rfl,hra⟩:=hrel
  have hrl:=hMt.row row (gM hrow)
  have hran:=hra.len
  refine zB4 ?_
  refine WT.idxL hT hra Z Z Z Z Z Z Z Z Z zo (fun x hx b2 off2 ro2 cs2 lx2 hb2 hp2 hrel2=>?_)
  obtain rfl:lx2=_:=hrel2
  have ht:tget M j j=some x:=by unfold tget;rw[hrow];exact hx
  refine zB4 ?_
  refine AW.cond Z (fun h=>?_) (fun h=>?_)
  ·refine zB4 ?_
   exact AW.ret ⟨_,[],⟨_,_,rfl,rfl,rfl⟩,zsb,rfl,true,rfl,fun h=>by cases h⟩
  ·refine zB4 ?_
   have h:x=false:=h
   subst h
   refine⟨(),sM,zow,fun i hi=>?_⟩
   rcases Nat.lt_or_ge i j with h1 | h1
   ·exact hP i h1
   ·obtain rfl:i=j:=by omega
    rw[ht];simp
 ·intro _ F2 hF2 hP
  refine zB4 ?_
  exact AW.ret ⟨_,[],⟨_,_,rfl,rfl,rfl⟩,zsb,rfl,false,rfl,fun _=>⟨M,E,Fi,hMt,hFC,hD,hT',hP⟩⟩
mutual
inductive TreeOf(g:Gram)(w:List Nat):Sym→Tree→Nat→Nat→Prop
 | leaf {t i:Nat} (h:w[i]?=some t):TreeOf g w ⟨true,t⟩ (.mk (-1) t []) i (i+1)
 | node {k:Nat} {r:Rule} {kids:List Tree} {i j:Nat} (h:g.rules[k]?=some r) (h2:TreesOf g w r.right kids i j):TreeOf g w ⟨false,r.left⟩ (.mk k 0 kids) i j
inductive TreesOf(g:Gram)(w:List Nat):List Sym→List Tree→Nat→Nat→Prop
 | nil {i:Nat}:TreesOf g w [] [] i i
 | cons {s:Sym} {l:List Sym} {t:Tree} {ts:List Tree} {i m j:Nat} (h:TreeOf g w s t i m) (h2:TreesOf g w l ts m j):TreesOf g w (s::l) (t::ts) i j
end
theorem TreesOf.snoc{g:Gram}{w:List Nat}{s:Sym}{t:Tree}{m j:Nat}(h:TreeOf g w s t m j):∀{l:List Sym} {ts:List Tree} {i:Nat},TreesOf g w l ts i m→TreesOf g w (l++[s]) (ts++[t]) i j
 | [],_,_,.nil=>.cons h .nil
 | _::_,_,_,.cons h1 h2=>.cons h1 (TreesOf.snoc h h2)
mutual
theorem TreeOf.le{g:Gram}{w:List Nat}:∀{t:Tree} {s:Sym} {i j:Nat},TreeOf g w s t i j→i≤j∧(i≤w.length→j≤w.length)
 | .mk _ _ _,_,_,_,.leaf h=>⟨by omega,fun _=>by have:=(gS h).1;omega⟩
 | .mk _ _ ks,_,_,_,.node h h2=>TreesOf.le h2
theorem TreesOf.le{g:Gram}{w:List Nat}:∀{ts:List Tree} {l:List Sym} {i j:Nat},TreesOf g w l ts i j→i≤j∧(i≤w.length→j≤w.length)
 | [],_,_,_,.nil=>⟨Nat.le_refl _,id⟩
 | t::ts,_,_,_,.cons h h2=>by
  have h3:=TreeOf.le h
  have h4:=TreesOf.le h2
  exact⟨by omega,fun h5=>h4.2 (h3.2 h5)⟩
end
theorem TreesOf.len{g:Gram}{w:List Nat}:∀{ts:List Tree} {l:List Sym} {i j:Nat},TreesOf g w l ts i j→ts.length=l.length
 | [],_,_,_,.nil=>rfl
 | t::ts,_,_,_,.cons h h2=>by simp[TreesOf.len h2]
theorem ofRow_all{E:List Bool}{Fi:List (List Bool)}:∀(l:List Sym) (out:List Bool),(∀y∈l,y.term=false∧E.getD y.n false=true)→(ofRow E Fi out l).2=true
 | [],_,_=>rfl
 | s::l,out,h=>by
  have h1:=h s me
  unfold ofRow
  rw[if_neg (by simp[h1.1]),if_pos h1.2]
  exact ofRow_all l _ fun y hy=>h y (List.mem_cons_of_mem _ hy)
mutual
theorem TreeOf.empty{g:Gram}{w:List Nat}{E:List Bool}{Fi:List (List Bool)}(hc:FirstClosed g E Fi):∀{t:Tree} {s:Sym} {i j:Nat},TreeOf g w s t i j→i=j→s.term=false∧E.getD s.n false=true
 | .mk _ _ _,_,_,_,.leaf h,e=>by omega
 | .mk _ _ ks,_,_,_,.node h h2,e=>⟨rfl,(hc _ (gM h)).2 (ofRow_all _ _ (TreesOf.empty hc h2 e))⟩
theorem TreesOf.empty{g:Gram}{w:List Nat}{E:List Bool}{Fi:List (List Bool)}(hc:FirstClosed g E Fi):∀{ts:List Tree} {l:List Sym} {i j:Nat},TreesOf g w l ts i j→i=j→∀y∈l,y.term=false∧E.getD y.n false=true
 | [],_,_,_,.nil,_=>fun y hy=>by simp at hy
 | t::ts,_,_,_,.cons h h2,e=>fun y hy=>by
  have h3:=h.le.1
  have h4:=h2.le.1
  rcases List.mem_cons.1 hy with rfl | hy
  ·exact TreeOf.empty hc h zo
  ·exact TreesOf.empty hc h2 zo y hy
end
theorem count_lt{p q:Nat→Bool}(h:∀x,p x=true→q x=true){y:Nat}(hq:q y=true)(hp:p y=false):∀l:List Nat,y∈l→l.countP p<l.countP q
 | [],hy=>by simp at hy
 | x::l,hy=>by
  have hle:l.countP p≤l.countP q:=List.countP_mono_left fun z _=>h z
  simp only[List.countP_cons]
  rcases List.mem_cons.1 hy with rfl | hy
  ·rw[hp,hq];simp;omega
  ·have ih:=count_lt h hq hp l hy
   cases h1:p x with
   | true=>rw[h x h1];simp;omega
   | false=>simp;cases q x<;>simp<;>omega
def rank(n:Nat)(M:List (List Bool))(i:Nat):Nat:=(List.range n).countP fun j=>decide (tget M i j=some true)
theorem rank_le(n:Nat)(M:List (List Bool))(i:Nat):rank n M i≤n:=by
 have:=List.countP_le_length (p:=fun j=>decide (tget M i j=some true)) (l:=List.range n)
 rw[List.length_range] at this
 exact this
theorem NoLoop.rank_lt{g:Gram}{M:List (List Bool)}{E:List Bool}{Fi:List (List Bool)}(h:NoLoop g M E Fi){x y:Nat}(hy:y<g.nons)(hxy:tget M x y=some true):rank g.nons M y<rank g.nons M x:=
 count_lt (fun z hz=>by
  have hz:=of_decide_eq_true hz
  exact decide_eq_true (h.trans x y z hy hxy hz)) (decide_eq_true hxy) (decide_eq_false (h.irr y hy)) _ (List.mem_range.2 hy)
def meas(g:Gram)(M:List (List Bool))(len n i:Nat):Nat:=(len-i)*(g.nons+1)+rank g.nons M n
theorem NoLoop.next{g:Gram}{w:List Nat}{M:List (List Bool)}{E:List Bool}{Fi:List (List Bool)}(h:NoLoop g M E Fi){r:Rule}(hr:r∈g.rules){pre post:List Sym}{n:Nat}(he:r.right=pre++⟨false,n⟩::post)(hn:n<g.nons)
  {ts:List Tree} {i m:Nat} (hm:TreesOf g w pre ts i m) (hi:i≤w.length):meas g M w.length n m<meas g M w.length r.left i:=by
 have h1:=hm.le
 have h2:=h1.2 hi
 unfold meas
 by_cases e:i=m
 ·subst e
  have:=h.rank_lt hn (h.direct r hr pre n post he (hm.empty h.first rfl))
  omega
 ·have h3:=rank_le g.nons M n
  have h4:(w.length-m+1)*(g.nons+1)≤(w.length-i)*(g.nons+1):=Nat.mul_le_mul_right _ zo
  rw[Nat.add_mul] at h4
  omega
def joinQ{S:Type}(chg:S→Kno)(k:Kno)(ow:S→Own)(P:S→Frz→Prop)(A:Ex→Kno→Frz→Own→Prop):Ex→Kno→Frz→Own→Prop
 | .normal,k',F',own'=>∃s,SubK (chg s++k) k'∧OwnLe (ow s) own'∧P s F'
 | x,k',F',own'=>A x k' F' own'
theorem key_eq(a b c d:Nat):((((a:Int)==(c:Int))&&(((b:Int)==(d:Int))&&true))=decide ((a,b)=(c,d))):=by
 rw[Bool.eq_iff_iff]
 simp only[Bool.and_eq_true,beq_iff_eq,decide_eq_true_eq,Prod.mk.injEq,and_true]
 omega
def keyP:KeyTy CC 140 (Nat×Nat) where
 key:=fun p=>.agg ⟨[.int .i64 p.1,.int .i64 p.2]⟩
 ok:=fun p=>keyT_ok hT 8 _ _ rfl
 eq:=fun p q=>by
  have h:eqA CC 8 140 (.agg ⟨[.int .i64 p.1,.int .i64 p.2]⟩) (.agg ⟨[.int .i64 q.1,.int .i64 q.2]⟩)=some (decide (p=q)):=by
   rw[←key_eq]
   exact eqT_ok hT 8 _ _ _ _ rfl
  by_cases e:p=q
  ·exact .inl ⟨e,by rw[h];simp[e]⟩
  ·exact .inr ⟨e,by rw[h];simp[e]⟩
mutual
def Tree.pre:Tree→List Int
 | .mk r _ ks=>r::preL ks
def preL:List Tree→List Int
 | []=>[]
 | t::ts=>t.pre++preL ts
end
def lexLt:List Int→List Int→Prop
 | [],[]=>False
 | [],_::_=>True
 | _::_,[]=>False
 | a::l,b::m=>a<b∨(a=b∧lexLt l m)
theorem lexLt_irrefl:∀(l:List Int),¬lexLt l l
 | [],h=>h
 | a::l,h=>by
  rcases h with h | h
  ·omega
  ·exact lexLt_irrefl l h.2
theorem lexLt_trans:∀{l m n:List Int},lexLt l m→lexLt m n→lexLt l n
 | [],[],_,h,_=>h.elim
 | [],_::_,[],_,h=>h.elim
 | [],_::_,_::_,_,_=>trivial
 | _::_,[],_,h,_=>h.elim
 | _::_,_::_,[],_,h=>h.elim
 | a::l,b::m,c::n,h1,h2=>by
  rcases h1 with h1 | ⟨rfl,h1⟩<;>rcases h2 with h2 | ⟨rfl,h2⟩
  ·exact .inl zo
  ·exact .inl h1
  ·exact .inl h2
  ·exact .inr ⟨rfl,lexLt_trans h1 h2⟩
theorem lexLt_total:∀(l m:List Int),lexLt l m∨l=m∨lexLt m l
 | [],[]=>.inr (.inl rfl)
 | [],_::_=>.inl trivial
 | _::_,[]=>.inr (.inr trivial)
 | a::l,b::m=>by
  rcases Int.lt_trichotomy a b with h | rfl | h
  ·exact .inl (.inl h)
  ·rcases lexLt_total l m with h | rfl | h
   ·exact .inl (.inr ⟨rfl,h⟩)
   ·exact .inr (.inl rfl)
   ·exact .inr (.inr (.inr ⟨rfl,h⟩))
  ·exact .inr (.inr (.inl h))
theorem lexLt_app:∀{l m:List Int} (x y:List Int),l.length=m.length→lexLt l m→lexLt (l++x) (m++y)
 | [],[],_,_,_,h=>h.elim
 | [],_::_,_,_,h,_=>by simp at h
 | _::_,[],_,_,h,_=>by simp at h
 | a::l,b::m,x,y,h,h2=>by
  rcases h2 with h2 | ⟨rfl,h2⟩
  ·exact .inl h2
  ·exact .inr ⟨rfl,lexLt_app x y (by simpa using h) h2⟩
theorem lexLt_pre:∀(a:List Int) {x y:List Int},lexLt x y→lexLt (a++x) (a++y)
 | [],_,_,h=>h
 | _::a,_,_,h=>.inr ⟨rfl,lexLt_pre a h⟩
def wlt(l m:List Int):Prop:=l.length<m.length∨(l.length=m.length∧lexLt l m)
def wle(l m:List Int):Prop:=wlt l m∨l=m
theorem wlt_irrefl(l:List Int):¬wlt l l:=fun h=>by
 rcases h with h | h
 ·omega
 ·exact lexLt_irrefl l h.2
theorem wlt_trans{l m n:List Int}(h1:wlt l m)(h2:wlt m n):wlt l n:=by
 rcases h1 with h1 | ⟨e1,h1⟩<;>rcases h2 with h2 | ⟨e2,h2⟩
 ·exact .inl zo
 ·exact .inl zo
 ·exact .inl zo
 ·exact .inr ⟨by omega,lexLt_trans h1 h2⟩
theorem wlt_total(l m:List Int):wlt l m∨l=m∨wlt m l:=by
 rcases Nat.lt_trichotomy l.length m.length with h | h | h
 ·exact .inl (.inl h)
 ·rcases lexLt_total l m with h2 | rfl | h2
  ·exact .inl (.inr ⟨h,h2⟩)
  ·exact .inr (.inl rfl)
  ·exact .inr (.inr (.inr ⟨h.symm,h2⟩))
 ·exact .inr (.inr (.inl h))
theorem wle_refl(l:List Int):wle l l:=.inr rfl
theorem wle_trans{l m n:List Int}(h1:wle l m)(h2:wle m n):wle l n:=by
 rcases h1 with h1 | rfl
 ·rcases h2 with h2 | rfl
  ·exact .inl (wlt_trans h1 h2)
  ·exact .inl h1
 ·exact h2
theorem wlt_wle{l m n:List Int}(h1:wlt l m)(h2:wle m n):wlt l n:=by
 rcases h2 with h2 | rfl
 ·exact wlt_trans h1 h2
 ·exact h1
theorem wle_wlt{l m n:List Int}(h1:wle l m)(h2:wlt m n):wlt l n:=by
 rcases h1 with h1 | rfl
 ·exact wlt_trans h1 h2
 ·exact h2
theorem wle_total(l m:List Int):wle l m∨wlt m l:=by
 rcases wlt_total l m with h | h | h
 ·exact .inl (.inl h)
 ·exact .inl (.inr h)
 ·exact .inr h
theorem wle_len{l m:List Int}(h:wle l m):l.length≤m.length:=by
 rcases h with (h | h) | rfl<;>omega
theorem wlt_appL{a b:List Int}(x y:List Int)(h:wlt a b)(h2:wle x y):wlt (a++x) (b++y):=by
 have hl:=wle_len h2
 rcases h with h | ⟨e,h⟩
 ·exact .inl (by simp;omega)
 ·by_cases e2:x.length=y.length
  ·exact .inr ⟨by simp;omega,lexLt_app x y e h⟩
  ·exact .inl (by simp;omega)
theorem wlt_appR(a:List Int){x y:List Int}(h:wlt x y):wlt (a++x) (a++y):=by
 rcases h with h | ⟨e,h⟩
 ·exact .inl (by simp;omega)
 ·exact .inr ⟨by simp;omega,lexLt_pre a h⟩
theorem wle_app{a b x y:List Int}(h:wle a b)(h2:wle x y):wle (a++x) (b++y):=by
 rcases h with h | rfl
 ·exact .inl (wlt_appL x y h h2)
 ·rcases h2 with h2 | rfl
  ·exact .inl (wlt_appR a h2)
  ·exact .inr rfl
theorem wle_cons(a:Int){x y:List Int}(h:wle x y):wle (a::x) (a::y):=wle_app (wle_refl [a]) h
theorem wlt_cons(a:Int){x y:List Int}(h:wlt x y):wlt (a::x) (a::y):=wlt_appR [a] h
def tlt(a b:Tree):Prop:=wlt a.pre b.pre
def tle(a b:Tree):Prop:=wle a.pre b.pre
def allLe:List Tree→List Tree→Prop
 | [],[]=>True
 | a::l,b::m=>tle a b∧allLe l m
 | _,_=>False
theorem preL_le:∀{l m:List Tree},allLe l m→wle (preL l) (preL m)
 | [],[],_=>wle_refl _
 | a::l,b::m,h=>wle_app h.1 (preL_le h.2)
 | [],_::_,h=>h.elim
 | _::_,[],h=>h.elim
theorem preL_set:∀{l:List Tree} {i:Nat} {u t:Tree},l[i]?=some u→tlt t u→wlt (preL (l.set i t)) (preL l)
 | [],_,_,_,h,_=>by simp at h
 | a::l,0,u,t,h,h2=>by
  obtain rfl:a=u:=by simpa using h
  exact wlt_appL _ _ h2 (wle_refl _)
 | a::l,i+1,u,t,h,h2=>wlt_appR _ (preL_set (i:=i) (by simpa using h) h2)
theorem preL_set':∀{l:List Tree} {i:Nat} {u t:Tree},l[i]?=some u→tlt u t→wlt (preL l) (preL (l.set i t))
 | [],_,_,_,h,_=>by simp at h
 | a::l,0,u,t,h,h2=>by
  obtain rfl:a=u:=by simpa using h
  exact wlt_appL _ _ h2 (wle_refl _)
 | a::l,i+1,u,t,h,h2=>wlt_appR _ (preL_set' (i:=i) (by simpa using h) h2)
theorem preL_mem:∀{l:List Tree} {t:Tree},t∈l→t.pre.length≤(preL l).length
 | a::l,t,h=>by
  show _≤(a.pre++preL l).length
  rw[List.length_append]
  rcases List.mem_cons.1 h with rfl | h
  ·omega
  ·have:=preL_mem h;omega
theorem kid_lt{r:Int}{t:Nat}{ks:List Tree}{k:Tree}(h:k∈ks):tlt k (.mk r t ks):=by
 refine .inl ?_
 show _<(r::preL ks).length
 have:=preL_mem h
 simp only[List.length_cons];omega
structure Fo where
 n:Nat
 leaf:Nat→Option Nat
 packs:Nat→List NPack
mutual
inductive NT(f:Fo):Nat→Tree→Prop
 | leaf {v t:Nat}:v<f.n→f.leaf v=some t→NT f v (.mk (-1) t [])
 | node {v:Nat} {p:NPack} {ts:List Tree}:v<f.n→f.leaf v=none→p∈f.packs v→NTs f p.kids ts→NT f v (.mk p.rule 0 ts)
inductive NTs(f:Fo):List Nat→List Tree→Prop
 | nil:NTs f [] []
 | cons {k:Nat} {t:Tree} {ks:List Nat} {ts:List Tree}:NT f k t→NTs f ks ts→NTs f (k::ks) (t::ts)
end
structure Fo.Good(f:Fo):Prop where
 kids:∀v,v<f.n→∀p∈f.packs v,p.kids.length≤4∧∀k∈p.kids,k<f.n
 dec:∀v T T',NT f v T→NT f v T'→T.pre=T'.pre→T=T'
 uniq:∀v,v<f.n→f.leaf v=none→∀(a b:Nat) (p q:NPack),(f.packs v)[a]?=some p→(f.packs v)[b]?=some q→p.rule=q.rule→∀ts,NTs f p.kids ts→NTs f q.kids ts→a=b
theorem NTs.len{f:Fo}:∀{ks:List Nat} {ts:List Tree},NTs f ks ts→ts.length=ks.length
 | [],[],_=>rfl
 | _::_,_::_,.cons _ h=>by simp[NTs.len h]
theorem NTs.at_{f:Fo}:∀{ks:List Nat} {ts:List Tree},NTs f ks ts→∀{i k:Nat} {t:Tree},ks[i]?=some k→ts[i]?=some t→NT f k t
 | _::_,_::_,.cons h h2,0,k,t,h3,h4=>by simp at h3 h4;subst h3 h4;exact h
 | _::_,_::_,.cons h h2,i+1,k,t,h3,h4=>NTs.at_ h2 (by simpa using h3) (by simpa using h4)
 | [],[],_,i,k,t,h3,_=>by simp at h3
theorem NTs.of_at{f:Fo}:∀{ks:List Nat} {ts:List Tree},ts.length=ks.length→(∀(i k:Nat) (t:Tree),ks[i]?=some k→ts[i]?=some t→NT f k t)→NTs f ks ts
 | [],[],_,_=>.nil
 | [],_::_,h,_=>by simp at h
 | _::_,[],h,_=>by simp at h
 | k::ks,t::ts,h,h2=>.cons (h2 0 k t rfl rfl) (NTs.of_at (by simpa using h) fun i k t h3 h4=>h2 (i+1) k t (by simpa using h3) (by simpa using h4))
theorem NTs.set{f:Fo}{ks:List Nat}{ts:List Tree}(h:NTs f ks ts){i k:Nat}{t:Tree}(hk:ks[i]?=some k)(ht:NT f k t):NTs f ks (ts.set i t):=by
 refine NTs.of_at (by rw[List.length_set];exact h.len) fun j k' t' h1 h2=>?_
 rw[List.getElem?_set] at h2
 split at h2
 ·rename_i e
  subst e
  rw[hk] at h1
  cases h1
  split at h2
  ·cases h2;exact ht
  ·cases h2
 ·exact h.at_ h1 h2
structure Cand where
 node:Nat
 pack:Nat
 r0:Nat
 r1:Nat
 r2:Nat
 r3:Nat
deriving DecidableEq
def Cand.ranks(c:Cand):List Nat:=[c.r0,c.r1,c.r2,c.r3]
def Cand.inc(c:Cand):Nat→Cand
 | 0=>{ c with r0:=c.r0+1 }
 | 1=>{ c with r1:=c.r1+1 }
 | 2=>{ c with r2:=c.r2+1 }
 | 3=>{ c with r3:=c.r3+1 }
 | _=>c
theorem Cand.inc_ranks(c:Cand){i r:Nat}(h:c.ranks[i]?=some r):(c.inc i).ranks=c.ranks.set i (r+1):=by
 match i,h with
 | 0,h=>simp[Cand.ranks] at h;subst h;rfl
 | 1,h=>simp[Cand.ranks] at h;subst h;rfl
 | 2,h=>simp[Cand.ranks] at h;subst h;rfl
 | 3,h=>simp[Cand.ranks] at h;subst h;rfl
 | _+4,h=>simp[Cand.ranks] at h
theorem Cand.inc_node(c:Cand)(i:Nat):(c.inc i).node=c.node∧(c.inc i).pack=c.pack:=by
 match i with
 | 0 | 1 | 2 | 3=>exact⟨rfl,rfl⟩
 | _+4=>exact⟨rfl,rfl⟩
theorem Cand.ext_{c d:Cand}(h1:c.node=d.node)(h2:c.pack=d.pack)(h3:c.ranks=d.ranks):c=d:=by
 cases c;cases d
 simp[Cand.ranks] at h3
 simp_all
def pick(L:Nat→List Tree):List Nat→List Nat→Option (List Tree)
 | [],_=>some []
 | k::ks,r::rs=>match (L k)[r]? with
  | some t=>match pick L ks rs with
   | some ts=>some (t::ts)
   | none=>none
  | none=>none
 | _::_,[]=>none
def miss(L:Nat→List Tree):List Nat→List Nat→Option (Nat×Nat)
 | k::ks,r::rs=>match (L k)[r]? with
  | some _=>miss L ks rs
  | none=>some (k,r)
 | _,_=>none
theorem pick_some{L:Nat→List Tree}:∀{ks rs:List Nat} {ts:List Tree},pick L ks rs=some ts→ts.length=ks.length∧∀(i k:Nat),ks[i]?=some k→∃(r:Nat) (t:Tree),rs[i]?=some r∧(L k)[r]?=some t∧ts[i]?=some t
 | [],_,ts,h=>by
  cases h
  exact⟨rfl,fun i k h=>by simp at h⟩
 | k::ks,[],_,h=>by cases h
 | k::ks,r::rs,ts,h=>by
  unfold pick at h
  split at h
  ·rename_i t ht
   split at h
   ·rename_i ts' hts
    cases h
    obtain⟨h1,h2⟩:=pick_some hts
    refine⟨by simp[h1],fun i k' hk=>?_⟩
    cases i with
    | zero=>
     obtain rfl:k=k':=by simpa using hk
     exact⟨r,t,rfl,ht,rfl⟩
    | succ i=>
     obtain⟨r',t',e1,e2,e3⟩:=h2 i k' (by simpa using hk)
     exact⟨r',t',by simpa using e1,e2,by simpa using e3⟩
   ·cases h
  ·cases h
theorem pick_of{L:Nat→List Tree}:∀{ks rs:List Nat} {ts:List Tree},ts.length=ks.length→(∀(i k:Nat),ks[i]?=some k→∃(r:Nat) (t:Tree),rs[i]?=some r∧(L k)[r]?=some t∧ts[i]?=some t)→pick L ks rs=some ts
 | [],_,ts,h,_=>by
  obtain rfl:ts=[]:=List.eq_nil_of_length_eq_zero h
  rfl
 | k::ks,rs,[],h,_=>by simp at h
 | k::ks,rs,t::ts,h,h2=>by
  obtain⟨r,t',e1,e2,e3⟩:=h2 0 k rfl
  obtain rfl:t=t':=by simpa using e3
  cases rs with
  | nil=>simp at e1
  | cons r' rs=>
   obtain rfl:r'=r:=by simpa using e1
   have ih:=pick_of (L:=L) (ks:=ks) (rs:=rs) (ts:=ts) (by simpa using h) (fun i k hk=>by
    obtain⟨r,t,g1,g2,g3⟩:=h2 (i+1) k (by simpa using hk)
    exact⟨r,t,by simpa using g1,g2,by simpa using g3⟩)
   unfold pick
   simp only[e2,ih]
theorem miss_none{L:Nat→List Tree}:∀{ks rs:List Nat},ks.length≤rs.length→miss L ks rs=none→∃ts,pick L ks rs=some ts
 | [],_,_,_=>⟨[],rfl⟩
 | k::ks,[],h,_=>by simp at h
 | k::ks,r::rs,h,h2=>by
  unfold miss at h2
  split at h2
  ·rename_i t ht
   obtain⟨ts,hts⟩:=miss_none (by simpa using h) h2
   exact⟨t::ts,by unfold pick;simp only[ht,hts]⟩
  ·cases h2
theorem miss_some{L:Nat→List Tree}:∀{ks rs:List Nat} {k r:Nat},miss L ks rs=some (k,r)→∃i:Nat,ks[i]?=some k∧rs[i]?=some r∧(L k)[r]?=none
 | [],_,_,_,h=>by cases h
 | _::_,[],_,_,h=>by cases h
 | k0::ks,r0::rs,k,r,h=>by
  unfold miss at h
  split at h
  ·obtain⟨i,h1,h2,h3⟩:=miss_some h
   exact⟨i+1,by simpa using h1,by simpa using h2,h3⟩
  ·rename_i hn
   cases h
   exact⟨0,rfl,rfl,hn⟩
def Grew(L L':Nat→List Tree):Prop:=∀v,∃x,L' v=L v++x
theorem Grew.at_{L L':Nat→List Tree}(h:Grew L L'){v r:Nat}{t:Tree}(ht:(L v)[r]?=some t):(L' v)[r]?=some t:=by
 obtain⟨x,hx⟩:=h v
 rw[hx,List.getElem?_append_left (gS ht).1]
 exact ht
theorem pick_grew{L L':Nat→List Tree}(h:Grew L L'){ks rs:List Nat}{ts:List Tree}(hp:pick L ks rs=some ts):pick L' ks rs=some ts:=by
 obtain⟨h1,h2⟩:=pick_some hp
 exact pick_of h1 fun i k hk=>by
  obtain⟨r,t,e1,e2,e3⟩:=h2 i k hk
  exact⟨r,t,e1,h.at_ e2,e3⟩
theorem miss_grew{L L':Nat→List Tree}(h:Grew L L'):∀{ks rs:List Nat} {k r:Nat},miss L ks rs=some (k,r)→(L' k)[r]?=none→miss L' ks rs=some (k,r)
 | [],_,_,_,h2,_=>by cases h2
 | _::_,[],_,_,h2,_=>by cases h2
 | k0::ks,r0::rs,k,r,h2,h3=>by
  unfold miss at h2
  split at h2
  ·rename_i t ht
   have:=h.at_ ht
   unfold miss
   simp only[this]
   exact miss_grew h h2 h3
  ·cases h2
   unfold miss
   simp only[h3]
structure Lst where
 lists:Nat→List Tree
 seen:List Cand
 waits:Nat×Nat→List Cand
 q:List (Cand×Tree)
def packAt(f:Fo)(c:Cand):Option NPack:=(f.packs c.node)[c.pack]?
def candTree(f:Fo)(L:Nat→List Tree)(c:Cand):Option Tree:=match packAt f c with
 | some p=>match pick L p.kids c.ranks with
  | some ts=>some (.mk p.rule 0 ts)
  | none=>none
 | none=>none
theorem candTree_some{f:Fo}{L:Nat→List Tree}{c:Cand}{T:Tree}(h:candTree f L c=some T):∃p ts,packAt f c=some p∧pick L p.kids c.ranks=some ts∧T=.mk p.rule 0 ts:=by
 unfold candTree at h
 split at h
 ·rename_i p hp
  split at h
  ·rename_i ts hts
   cases h
   exact⟨p,ts,hp,hts,rfl⟩
  ·cases h
 ·cases h
theorem candTree_of{f:Fo}{L:Nat→List Tree}{c:Cand}{p:NPack}{ts:List Tree}(h1:packAt f c=some p)(h2:pick L p.kids c.ranks=some ts):candTree f L c=some (.mk p.rule 0 ts):=by
 unfold candTree
 simp only[h1,h2]
theorem candTree_grew{f:Fo}{L L':Nat→List Tree}(h:Grew L L'){c:Cand}{T:Tree}(hc:candTree f L c=some T):candTree f L' c=some T:=by
 obtain⟨p,ts,h1,h2,rfl⟩:=candTree_some hc
 exact candTree_of h1 (pick_grew h h2)
structure CandOk(f:Fo)(most:Nat)(c:Cand):Prop where
 node:c.node<f.n
 nl:f.leaf c.node=none
 pack:∃p,packAt f c=some p
 rank:∀r∈c.ranks,r≤most
 zero:∀p,packAt f c=some p→∀(i r:Nat),p.kids.length≤i→c.ranks[i]?=some r→r=0
structure Inv(f:Fo)(most:Nat)(s:Lst)(done pend ex:List Cand):Prop where
 ok:∀c∈s.seen,CandOk f most c
 snd:s.seen.Nodup
 dsub:∀c∈done,c∈s.seen
 psub:∀c∈pend,c∈s.seen
 dnd:done.Nodup
 pnd:pend.Nodup
 qnd:(s.q.map (·.1)).Nodup
 wnd:∀w,(s.waits w).Nodup
 dq:∀c∈done,c∉s.q.map (·.1)∧c∉pend∧∀w,c∉s.waits w
 pq:∀c∈pend,c∉s.q.map (·.1)∧∀w,c∉s.waits w
 qw:∀c∈s.q.map (·.1),∀w,c∉s.waits w
 qok:∀x∈s.q,x.1∈s.seen∧candTree f s.lists x.1=some x.2
 wok:∀w,∀c∈s.waits w,c∈s.seen∧∃p,packAt f c=some p∧miss s.lists p.kids c.ranks=some w
 cover:∀c∈s.seen,c∈done∨c∈pend∨c∈s.q.map (·.1)∨∃w,c∈s.waits w
 next:∀c∈done,c∈ex∨(s.lists c.node).length=most∨((∃T∈s.lists c.node,candTree f s.lists c=some T)∧∀p,packAt f c=some p→∀i,i<p.kids.length→c.inc i∈s.seen)
 leafs:∀v t,v<f.n→f.leaf v=some t→s.lists v=[.mk (-1) t []]
 from_:∀v,f.leaf v=none→∀T∈s.lists v,∃c∈done,c.node=v∧candTree f s.lists c=some T
 len:∀v,(s.lists v).length≤most
 sorted:∀v,(s.lists v).Pairwise tlt
 ord:∀v,f.leaf v=none→∀x∈s.lists v,∀y∈s.q,tle x y.2
 valid:∀v,∀T∈s.lists v,NT f v T
 full:∀v,f.leaf v=none→(s.lists v).length=most→∀T,NT f v T→T∉s.lists v→∀x∈s.lists v,tlt x T
 small:∀v,∀T∈s.lists v,T.pre.length≤5000
def BaseIn(f:Fo)(s:Lst):Prop:=∀v,v<f.n→f.leaf v=none→∀p,p<(f.packs v).length→(⟨v,p,0,0,0,0⟩:Cand)∈s.seen
theorem pick_valid{f:Fo}{L:Nat→List Tree}(hv:∀v,∀T∈L v,NT f v T){ks rs:List Nat}{ts:List Tree}(h:pick L ks rs=some ts):NTs f ks ts:=by
 obtain⟨h1,h2⟩:=pick_some h
 exact NTs.of_at h1 fun i k t hk ht=>by
  obtain⟨r,t',e1,e2,e3⟩:=h2 i k hk
  rw[e3] at ht;cases ht
  exact hv _ _ (gM e2)
theorem cand_valid{f:Fo}{most:Nat}{L:Nat→List Tree}(hv:∀v,∀T∈L v,NT f v T){c:Cand}(hc:CandOk f most c){T:Tree}(h:candTree f L c=some T):NT f c.node T:=by
 obtain⟨p,ts,h1,h2,rfl⟩:=candTree_some h
 exact .node hc.node hc.nl (gM h1) (pick_valid hv h2)
theorem tlt_nodup{l:List Tree}(h:l.Pairwise tlt):l.Nodup:=by
 rw[List.nodup_iff_pairwise_ne]
 refine h.imp ?_
 rintro a b hab rfl
 exact wlt_irrefl _ hab
theorem nodup_at{α:Type}{l:List α}(h:l.Nodup){i j:Nat}{x:α}(hi:l[i]?=some x)(hj:l[j]?=some x):i=j:=by
 obtain⟨h1,h2⟩:=gS hi
 obtain⟨h3,h4⟩:=gS hj
 exact(List.getElem_inj h).1 (h2.trans h4.symm)
theorem cand_inj{f:Fo}(hf:f.Good){most:Nat}{L:Nat→List Tree}(hv:∀v,∀T∈L v,NT f v T)(hs:∀v,(L v).Pairwise tlt){c d:Cand}(hc:CandOk f most c)(hd:CandOk f most d)(hn:c.node=d.node){T:Tree}(h1:candTree f L c=some T)(h2:candTree f L d=some T):c=d:=by
 obtain⟨p,ts,e1,e2,rfl⟩:=candTree_some h1
 obtain⟨q,us,g1,g2,g3⟩:=candTree_some h2
 injection g3 with g3 _ g4
 subst g4
 have hr:p.rule=q.rule:=by omega
 unfold packAt at e1 g1
 rw[←hn] at g1
 have hp:=hf.uniq c.node hc.node hc.nl c.pack d.pack p q e1 g1 hr ts (pick_valid hv e2) (pick_valid hv g2)
 rw[←hp,e1] at g1
 cases g1
 refine Cand.ext_ hn hp (List.ext_getElem (by rfl) fun i hi hj=>?_)
 have r1:c.ranks[i]?=some c.ranks[i]:=gE hi
 have r2:d.ranks[i]?=some d.ranks[i]:=gE hj
 rcases Nat.lt_or_ge i p.kids.length with hk | hk
 ·obtain⟨k,hk⟩:∃k,p.kids[i]?=some k:=⟨_,gE hk⟩
  obtain⟨_,f1⟩:=pick_some e2
  obtain⟨_,f2⟩:=pick_some g2
  obtain⟨r,t,a1,a2,a3⟩:=f1 i k hk
  obtain⟨r',t',b1,b2,b3⟩:=f2 i k hk
  rw[a3] at b3;cases b3
  rw[r1] at a1;cases a1
  rw[r2] at b1;cases b1
  exact nodup_at (tlt_nodup (hs k)) a2 b2
 ·have z1:=hc.zero p (by unfold packAt;exact e1) i _ hk r1
  have z2:=hd.zero p (by unfold packAt;rw[←hn,←hp];exact e1) i _ hk r2
  omega
def tryS(f:Fo)(s:Lst)(c:Cand):Lst:=match packAt f c with
 | none=>s
 | some p=>match miss s.lists p.kids c.ranks with
  | some w=>{ s with waits:=fun x=>if x=w then s.waits w++[c] else s.waits x }
  | none=>match pick s.lists p.kids c.ranks with
   | some ts=>{ s with q:=s.q++[(c,.mk p.rule 0 ts)] }
   | none=>s
theorem try_lists(f:Fo)(s:Lst)(c:Cand):(tryS f s c).lists=s.lists∧(tryS f s c).seen=s.seen:=by
 unfold tryS
 split
 ·exact⟨rfl,rfl⟩
 ·split
  ·exact⟨rfl,rfl⟩
  ·split<;>exact⟨rfl,rfl⟩
theorem Inv.try_{f:Fo}(hf:f.Good){most:Nat}{s:Lst}{done pend ex:List Cand}{c:Cand}(h:Inv f most s done (c::pend) ex)(hT:∀T,candTree f s.lists c=some T→∀v,f.leaf v=none→∀x∈s.lists v,tle x T):Inv f most (tryS f s c) done pend ex:=by
 have hcs:=h.psub c me
 have hok:=h.ok c hcs
 obtain⟨p,hp⟩:=hok.pack
 have hkl:p.kids.length≤4:=(hf.kids _ hok.node p (gM hp)).1
 obtain⟨hcp,hpnd⟩:=List.nodup_cons.1 h.pnd
 have hcq:=h.pq c me
 have dq':∀d∈done,d≠c:=fun d hd e=>(h.dq d hd).2.1 (by rw[e];exact List.mem_cons_self ..)
 unfold tryS
 simp only[hp]
 cases hm:miss s.lists p.kids c.ranks with
 | some w=>
  simp only
  have wcase:∀x d,d∈(if x=w then s.waits w++[c] else s.waits x)→d∈s.waits x∨(x=w∧d=c):=by
   intro x d hd
   split at hd
   ·rename_i e
    subst e
    rcases List.mem_append.1 hd with hd | hd
    ·exact .inl hd
    ·exact .inr ⟨rfl,List.mem_singleton.1 hd⟩
   ·exact .inl hd
  exact
  {ok:=h.ok
   snd:=h.snd
   dsub:=h.dsub
   psub:=fun d hd=>h.psub d (List.mem_cons_of_mem _ hd)
   dnd:=h.dnd
   pnd:=hpnd
   qnd:=h.qnd
   wnd:=fun x=>by
    show (if x=w then s.waits w++[c] else s.waits x).Nodup
    split
    ·rw[List.nodup_append]
     refine⟨h.wnd w,by simp,fun a ha b hb e=>?_⟩
     rw[List.mem_singleton.1 hb] at e
     subst e
     exact hcq.2 w ha
    ·exact h.wnd x
   dq:=fun d hd=>⟨(h.dq d hd).1,fun hm=>(h.dq d hd).2.1 (List.mem_cons_of_mem _ hm),fun x hx=>by
    rcases wcase x d hx with hx | ⟨_,rfl⟩
    ·exact(h.dq d hd).2.2 x hx
    ·exact dq' d hd rfl⟩
   pq:=fun d hd=>⟨(h.pq d (List.mem_cons_of_mem _ hd)).1,fun x hx=>by
    rcases wcase x d hx with hx | ⟨_,rfl⟩
    ·exact(h.pq d (List.mem_cons_of_mem _ hd)).2 x hx
    ·exact hcp hd⟩
   qw:=fun d hd x hx=>by
    rcases wcase x d hx with hx | ⟨_,rfl⟩
    ·exact h.qw d hd x hx
    ·exact hcq.1 hd
   qok:=h.qok
   wok:=fun x d hd=>by
    rcases wcase x d hd with hx | ⟨rfl,rfl⟩
    ·exact h.wok x d hx
    ·exact⟨hcs,p,hp,hm⟩
   cover:=fun d hd=>by
    rcases h.cover d hd with hx | hx | hx | ⟨x,hx⟩
    ·exact .inl hx
    ·rcases List.mem_cons.1 hx with rfl | hx
     ·exact .inr (.inr (.inr ⟨w,by show d∈(if w=w then s.waits w++[d] else s.waits w);simp⟩))
     ·exact .inr (.inl hx)
    ·exact .inr (.inr (.inl hx))
    ·refine .inr (.inr (.inr ⟨x,?_⟩))
     show d∈(if x=w then s.waits w++[c] else s.waits x)
     split
     ·rename_i e;subst e;exact List.mem_append_left _ hx
     ·exact hx
   next:=h.next
   leafs:=h.leafs
   from_:=h.from_
   len:=h.len
   sorted:=h.sorted
   ord:=h.ord
   valid:=h.valid
   full:=h.full
   small:=h.small }
 | none=>
  simp only
  obtain⟨ts,hts⟩:=miss_none (by show p.kids.length≤4;exact hkl) hm
  have hct:=candTree_of hp hts
  simp only[hts]
  exact
  {ok:=h.ok
   snd:=h.snd
   dsub:=h.dsub
   psub:=fun d hd=>h.psub d (List.mem_cons_of_mem _ hd)
   dnd:=h.dnd
   pnd:=hpnd
   qnd:=by
    rw[List.map_append,List.nodup_append]
    refine⟨h.qnd,by simp,fun a ha b hb e=>?_⟩
    simp at hb
    subst hb e
    exact hcq.1 ha
   wnd:=h.wnd
   dq:=fun d hd=>⟨fun hx=>by
    rw[List.map_append] at hx
    rcases List.mem_append.1 hx with hx | hx
    ·exact(h.dq d hd).1 hx
    ·exact dq' d hd (by simpa using hx),fun hm=>(h.dq d hd).2.1 (List.mem_cons_of_mem _ hm),(h.dq d hd).2.2⟩
   pq:=fun d hd=>⟨fun hx=>by
    rw[List.map_append] at hx
    rcases List.mem_append.1 hx with hx | hx
    ·exact(h.pq d (List.mem_cons_of_mem _ hd)).1 hx
    ·have:d=c:=by simpa using hx
     subst this
     exact hcp hd,(h.pq d (List.mem_cons_of_mem _ hd)).2⟩
   qw:=fun d hx x hw=>by
    rw[List.map_append] at hx
    rcases List.mem_append.1 hx with hx | hx
    ·exact h.qw d hx x hw
    ·have:d=c:=by simpa using hx
     subst this
     exact hcq.2 x hw
   qok:=fun x hx=>by
    rcases List.mem_append.1 hx with hx | hx
    ·exact h.qok x hx
    ·rw[List.mem_singleton.1 hx];exact⟨hcs,hct⟩
   wok:=h.wok
   cover:=fun d hd=>by
    rcases h.cover d hd with hx | hx | hx | hx
    ·exact .inl hx
    ·rcases List.mem_cons.1 hx with rfl | hx
     ·exact .inr (.inr (.inl (by rw[List.map_append];simp)))
     ·exact .inr (.inl hx)
    ·exact .inr (.inr (.inl (by rw[List.map_append];exact List.mem_append_left _ hx)))
    ·exact .inr (.inr (.inr hx))
   next:=h.next
   leafs:=h.leafs
   from_:=h.from_
   len:=h.len
   sorted:=h.sorted
   ord:=fun v hv x hx y hy=>by
    rcases List.mem_append.1 hy with hy | hy
    ·exact h.ord v hv x hx y hy
    ·rw[List.mem_singleton.1 hy];exact hT _ hct v hv x hx
   valid:=h.valid
   full:=h.full
   small:=h.small }
def firstS(f:Fo)(s:Lst)(c:Cand):Lst:=if c∈s.seen then s else tryS f { s with seen:=s.seen++[c] } c
theorem first_lists(f:Fo)(s:Lst)(c:Cand):(firstS f s c).lists=s.lists∧(∀d∈s.seen,d∈(firstS f s c).seen)∧c∈(firstS f s c).seen∧(firstS f s c).seen.length≤s.seen.length+1:=by
 unfold firstS
 split
 ·rename_i h
  exact⟨rfl,fun d hd=>hd,h,by omega⟩
 ·obtain⟨h1,h2⟩:=try_lists f { s with seen:=s.seen++[c] } c
  rw[h2]
  exact⟨h1,fun d hd=>List.mem_append_left _ hd,by simp,by simp⟩
theorem Inv.pre_{f:Fo}{most:Nat}{s:Lst}{done ex:List Cand}{c:Cand}(h:Inv f most s done [] ex)(hc:CandOk f most c)(hn:c∉s.seen):Inv f most { s with seen:=s.seen++[c] } done [c] ex:=by
 have nw:∀{d:Cand},d∈s.seen→d∈s.seen++[c]:=fun h=>List.mem_append_left _ h
 have hq0:c∉s.q.map (·.1):=fun hx=>by
  obtain⟨y,hy,rfl⟩:=List.mem_map.1 hx
  exact hn (h.qok y hy).1
 exact
 {ok:=fun d hd=>by
   rcases List.mem_append.1 hd with hd | hd
   ·exact h.ok d hd
   ·rw[List.mem_singleton.1 hd];exact hc
  snd:=by
   show (s.seen++[c]).Nodup
   rw[List.nodup_append]
   refine⟨h.snd,by simp,fun a ha b hb e=>?_⟩
   rw[List.mem_singleton.1 hb] at e
   subst e
   exact hn ha
  dsub:=fun d hd=>nw (h.dsub d hd)
  psub:=fun d hd=>by rw[List.mem_singleton.1 hd];simp
  dnd:=h.dnd
  pnd:=by simp
  qnd:=h.qnd
  wnd:=h.wnd
  dq:=fun d hd=>⟨(h.dq d hd).1,fun hx=>by rw[List.mem_singleton.1 hx] at hd;exact hn (h.dsub c hd),(h.dq d hd).2.2⟩
  pq:=fun d hd=>by
   rw[List.mem_singleton.1 hd]
   exact⟨hq0,fun w hw=>hn (h.wok w c hw).1⟩
  qw:=h.qw
  qok:=fun x hx=>⟨nw (h.qok x hx).1,(h.qok x hx).2⟩
  wok:=fun w d hd=>⟨nw (h.wok w d hd).1,(h.wok w d hd).2⟩
  cover:=fun d hd=>by
   rcases List.mem_append.1 hd with hd | hd
   ·rcases h.cover d hd with hx | hx | hx
    ·exact .inl hx
    ·cases hx
    ·exact .inr (.inr hx)
   ·exact .inr (.inl hd)
  next:=fun d hd=>(h.next d hd).imp id fun hx=>hx.imp id fun hx=>⟨hx.1,fun p hp i hi=>nw (hx.2 p hp i hi)⟩
  leafs:=h.leafs
  from_:=h.from_
  len:=h.len
  sorted:=h.sorted
  ord:=h.ord
  valid:=h.valid
  full:=h.full
  small:=h.small }
theorem Inv.first_{f:Fo}(hf:f.Good){most:Nat}{s:Lst}{done ex:List Cand}{c:Cand}(h:Inv f most s done [] ex)(hc:CandOk f most c)(hT:∀T,candTree f s.lists c=some T→∀v,f.leaf v=none→∀x∈s.lists v,tle x T):Inv f most (firstS f s c) done [] ex:=by
 unfold firstS
 split
 ·exact h
 ·rename_i hn
  exact Inv.try_ hf (s:={ s with seen:=s.seen++[c] }) (h.pre_ hc hn) hT
theorem sub_all{α:Type}[DecidableEq α]:∀(A B:List α),A.Nodup→(∀x∈A,x∈B)→B.length≤A.length→∀x∈B,x∈A
 | [],B,_,_,h,x,hx=>by
  obtain rfl:B=[]:=List.eq_nil_of_length_eq_zero (by simpa using h)
  cases hx
 | a::A,B,hn,hs,hl,x,hx=>by
  obtain⟨h1,h2⟩:=List.nodup_cons.1 hn
  have ha:=hs a me
  have hle:=List.length_erase_of_mem ha
  have hpos:=List.length_pos_of_mem ha
  by_cases e:x=a
  ·subst e;exact List.mem_cons_self ..
  ·have hx':x∈B.erase a:=(List.mem_erase_of_ne e).2 hx
   refine List.mem_cons_of_mem _ (sub_all A (B.erase a) h2 (fun y hy=>?_) (by simp at hl;omega) x hx')
   exact(List.mem_erase_of_ne (by rintro rfl;exact h1 hy)).2 (hs y (List.mem_cons_of_mem _ hy))
theorem sub_len{α:Type}[DecidableEq α]:∀(A B:List α),A.Nodup→(∀x∈A,x∈B)→A.length≤B.length
 | [],_,_,_=>Nat.zero_le _
 | a::A,B,hn,hs=>by
  obtain⟨h1,h2⟩:=List.nodup_cons.1 hn
  have ha:=hs a me
  have hle:=List.length_erase_of_mem ha
  have hpos:=List.length_pos_of_mem ha
  have:=sub_len A (B.erase a) h2 fun y hy=>(List.mem_erase_of_ne (by rintro rfl;exact h1 hy)).2 (hs y (List.mem_cons_of_mem _ hy))
  simp only[List.length_cons];omega
open Classical in
noncomputable def unL(L:Nat→List Tree):List Nat→List Tree→Nat
 | k::ks,t::ts=>(if t∈L k then 0 else 1)+unL L ks ts
 | _,_=>0
theorem unL_le(L:Nat→List Tree):∀(ks:List Nat) (ts:List Tree),unL L ks ts≤ks.length
 | [],_=>Nat.le_refl _
 | _::_,[]=>Nat.zero_le _
 | k::ks,t::ts=>by
  have:=unL_le L ks ts
  unfold unL
  simp only[List.length_cons]
  split<;>omega
theorem unL_set{L:Nat→List Tree}:∀{ks:List Nat} {ts:List Tree} {i k:Nat} {t x:Tree},ks[i]?=some k→ts[i]?=some t→t∉L k→x∈L k→unL L ks (ts.set i x)<unL L ks ts
 | [],_,_,_,_,_,h,_,_,_=>by simp at h
 | _::_,[],_,_,_,_,_,h,_,_=>by simp at h
 | k0::ks,t0::ts,0,k,t,x,h1,h2,h3,h4=>by
  obtain rfl:k0=k:=by simpa using h1
  obtain rfl:t0=t:=by simpa using h2
  show unL L (k0::ks) (x::ts)<_
  unfold unL
  rw[if_pos h4,if_neg h3];omega
 | k0::ks,t0::ts,i+1,k,t,x,h1,h2,h3,h4=>by
  have:=unL_set (L:=L) (ks:=ks) (ts:=ts) (i:=i) (by simpa using h1) (by simpa using h2) h3 h4
  show unL L (k0::ks) (t0::ts.set i x)<_
  unfold unL
  omega
def Behind(s:Lst)(most:Nat)(v:Nat)(T:Tree):Prop:=T∈s.lists v∨(∃y∈s.q,tle y.2 T)∨((s.lists v).length=most∧∀x∈s.lists v,tlt x T)
theorem allLe_of:∀{l m:List Tree},l.length=m.length→(∀(i:Nat) (a b:Tree),l[i]?=some a→m[i]?=some b→tle a b)→allLe l m
 | [],[],_,_=>trivial
 | [],_::_,h,_=>by simp at h
 | _::_,[],h,_=>by simp at h
 | a::l,b::m,h,h2=>⟨h2 0 a b rfl rfl,allLe_of (by simpa using h) fun i a b h3 h4=>h2 (i+1) a b (by simpa using h3) (by simpa using h4)⟩
theorem sorted_le{l:List Tree}(h:l.Pairwise tlt){i j:Nat}{a b:Tree}(hij:i≤j)(ha:l[i]?=some a)(hb:l[j]?=some b):tle a b:=by
 rcases Nat.lt_or_ge i j with h1 | h1
 ·obtain⟨h2,rfl⟩:=gS ha
  obtain⟨h3,rfl⟩:=gS hb
  exact .inl (List.pairwise_iff_getElem.1 h i j h2 h3 h1)
 ·obtain rfl:i=j:=by omega
  rw[ha] at hb;cases hb
  exact wle_refl _
theorem ranks_ex{L:Nat→List Tree}:∀{ks:List Nat} {ts:List Tree},ts.length=ks.length→(∀(i k:Nat) (t:Tree),ks[i]?=some k→ts[i]?=some t→t∈L k)→
  ∃rs:List Nat,rs.length=ks.length∧∀(i k:Nat) (t:Tree),ks[i]?=some k→ts[i]?=some t→∃r,rs[i]?=some r∧(L k)[r]?=some t
 | [],_,_,_=>⟨[],rfl,fun i k t h=>by simp at h⟩
 | _::_,[],h,_=>by simp at h
 | k::ks,t::ts,h,h2=>by
  obtain⟨rs,h3,h4⟩:=ranks_ex (L:=L) (ks:=ks) (ts:=ts) (by simpa using h) fun i k t h5 h6=>h2 (i+1) k t (by simpa using h5) (by simpa using h6)
  obtain⟨r,hr⟩:=List.mem_iff_getElem?.1 (h2 0 k t rfl rfl)
  refine⟨r::rs,by simp[h3],fun i k' t' h5 h6=>?_⟩
  cases i with
  | zero=>
   obtain rfl:k=k':=by simpa using h5
   obtain rfl:t=t':=by simpa using h6
   exact⟨r,rfl,hr⟩
  | succ i=>
   obtain⟨r',e1,e2⟩:=h4 i k' t' (by simpa using h5) (by simpa using h6)
   exact⟨r',by simpa using e1,e2⟩
theorem pad_four:∀(rs:List Nat),rs.length≤4→∃c:Nat×Nat×Nat×Nat,(∀(i r:Nat),rs[i]?=some r→[c.1,c.2.1,c.2.2.1,c.2.2.2][i]?=some r)∧∀(i r:Nat),rs.length≤i→[c.1,c.2.1,c.2.2.1,c.2.2.2][i]?=some r→r=0
 | [],_=>⟨(0,0,0,0),fun i r h=>by simp at h,fun i r _ h=>by
   match i with
   | 0 | 1 | 2 | 3=>simpa using h.symm
   | _+4=>simp at h⟩
 | [a],_=>⟨(a,0,0,0),fun i r h=>by
   match i with
   | 0=>simpa using h
   | _+1=>simp at h,fun i r h0 h=>by
   match i with
   | 0=>simp at h0
   | 1 | 2 | 3=>simpa using h.symm
   | _+4=>simp at h⟩
 | [a,b],_=>⟨(a,b,0,0),fun i r h=>by
   match i with
   | 0 | 1=>simpa using h
   | _+2=>simp at h,fun i r h0 h=>by
   match i with
   | 0 | 1=>simp at h0
   | 2 | 3=>simpa using h.symm
   | _+4=>simp at h⟩
 | [a,b,c],_=>⟨(a,b,c,0),fun i r h=>by
   match i with
   | 0 | 1 | 2=>simpa using h
   | _+3=>simp at h,fun i r h0 h=>by
   match i with
   | 0 | 1 | 2=>simp at h0
   | 3=>simpa using h.symm
   | _+4=>simp at h⟩
 | [a,b,c,d],_=>⟨(a,b,c,d),fun i r h=>h,fun i r h0 h=>by
   match i with
   | 0 | 1 | 2 | 3=>simp at h0
   | _+4=>simp at h⟩
 | _::_::_::_::_::_,h=>by simp at h
theorem Inv.climb{f:Fo}(hf:f.Good){most:Nat}{s:Lst}{done:List Cand}(h:Inv f most s done [] []){z:Cand}{p:NPack}{ts:List Tree}(hz:packAt f z=some p)(hzt:pick s.lists p.kids z.ranks=some ts)
  (hz0:∀(i r:Nat),p.kids.length≤i→z.ranks[i]?=some r→r=0) (hv:NT f z.node (.mk p.rule 0 ts)) (hk4:p.kids.length≤4) :
  ∀(D:Nat) (c:Cand),c∈s.seen→c.node=z.node→c.pack=z.pack→c.r0≤z.r0→c.r1≤z.r1→c.r2≤z.r2→c.r3≤z.r3→z.r0+z.r1+z.r2+z.r3-(c.r0+c.r1+c.r2+c.r3)≤D→Behind s most z.node (.mk p.rule 0 ts):=by
 intro D
 induction D with
 | zero=>
  intro c hc hn hp h0 h1 h2 h3 hD
  obtain rfl:c=z:=by
   cases c;cases z
   simp only at hn hp h0 h1 h2 h3 hD
   simp only[Cand.mk.injEq]
   exact⟨hn,hp,by omega,by omega,by omega,by omega⟩
  have hct:=candTree_of hz hzt
  rcases h.cover c hc with hx | hx | hx | ⟨w,hx⟩
  ·rcases h.next c hx with hy | hy | ⟨⟨T,hy,hy2⟩,_⟩
   ·cases hy
   ·by_cases hm:Tree.mk p.rule 0 ts∈s.lists c.node
    ·exact .inl hm
    ·exact .inr (.inr ⟨hy,h.full _ (h.ok c hc).nl hy _ hv hm⟩)
   ·rw[hct] at hy2;cases hy2;exact .inl hy
  ·cases hx
  ·obtain⟨y,hy,rfl⟩:=List.mem_map.1 hx
   have:=(h.qok y hy).2
   rw[hct] at this
   exact .inr (.inl ⟨y,hy,by rw[←Option.some.inj this];exact wle_refl _⟩)
  ·obtain⟨_,p',hp',hm⟩:=h.wok w c hx
   rw[hz] at hp';cases hp'
   obtain⟨i,e1,e2,e3⟩:=miss_some (k:=w.1) (r:=w.2) hm
   obtain⟨r,t,g1,g2,_⟩:=(pick_some hzt).2 i _ e1
   rw[e2] at g1;cases g1
   rw[e3] at g2;cases g2
 | succ D ih=>
  intro c hc hn hp h0 h1 h2 h3 hD
  have hpc:packAt f c=some p:=by unfold packAt at hz ⊢;rw[hn,hp];exact hz
  by_cases e:c=z
  ·exact ih c hc hn hp h0 h1 h2 h3 (by subst e;omega)
  have hle:∀(i a b:Nat),c.ranks[i]?=some a→z.ranks[i]?=some b→a≤b:=fun i a b ha hb=>by
   match i with
   | 0 | 1 | 2 | 3=>simp[Cand.ranks] at ha hb;omega
   | _+4=>simp[Cand.ranks] at ha
  rcases h.cover c hc with hx | hx | hx | ⟨w,hx⟩
  ·rcases h.next c hx with hy | hy | ⟨_,hy⟩
   ·cases hy
   ·rw[hn] at hy
    by_cases hm:Tree.mk p.rule 0 ts∈s.lists z.node
    ·exact .inl hm
    ·exact .inr (.inr ⟨hy,h.full _ (hn▸(h.ok c hc).nl) hy _ hv hm⟩)
   ·have hy:=hy p hpc
    have lt:∀(i a b:Nat),c.ranks[i]?=some a→z.ranks[i]?=some b→a<b→i<p.kids.length:=fun i a b ha hb hab=>by
     rcases Nat.lt_or_ge i p.kids.length with h5 | h5
     ·exact h5
     ·have:=hz0 i b h5 hb;omega
    by_cases g0:c.r0<z.r0
    ·have hi:=hy 0 (lt 0 _ _ rfl rfl g0)
     exact ih (c.inc 0) hi hn hp g0 h1 h2 h3 (by show _-(c.r0+1+c.r1+c.r2+c.r3)≤D;omega)
    by_cases g1:c.r1<z.r1
    ·have hi:=hy 1 (lt 1 _ _ rfl rfl g1)
     exact ih (c.inc 1) hi hn hp h0 g1 h2 h3 (by show _-(c.r0+(c.r1+1)+c.r2+c.r3)≤D;omega)
    by_cases g2:c.r2<z.r2
    ·have hi:=hy 2 (lt 2 _ _ rfl rfl g2)
     exact ih (c.inc 2) hi hn hp h0 h1 g2 h3 (by show _-(c.r0+c.r1+(c.r2+1)+c.r3)≤D;omega)
    by_cases g3:c.r3<z.r3
    ·have hi:=hy 3 (lt 3 _ _ rfl rfl g3)
     exact ih (c.inc 3) hi hn hp h0 h1 h2 g3 (by show _-(c.r0+c.r1+c.r2+(c.r3+1))≤D;omega)
    exfalso
    apply e
    cases c;cases z
    simp only at hn hp h0 h1 h2 h3 g0 g1 g2 g3
    simp only[Cand.mk.injEq]
    exact⟨hn,hp,by omega,by omega,by omega,by omega⟩
  ·cases hx
  ·obtain⟨y,hy,rfl⟩:=List.mem_map.1 hx
   obtain⟨q,us,e1,e2,e3⟩:=candTree_some (h.qok y hy).2
   rw[hpc] at e1;cases e1
   refine .inr (.inl ⟨y,hy,?_⟩)
   rw[e3]
   refine wle_cons _ (preL_le (allLe_of (by rw[(pick_some e2).1,(pick_some hzt).1]) fun i a b ha hb=>?_))
   have hi:=(gS ha).1
   rw[(pick_some e2).1] at hi
   obtain⟨k,hk⟩:∃k,p.kids[i]?=some k:=⟨_,gE hi⟩
   obtain⟨r,t,a1,a2,a3⟩:=(pick_some e2).2 i k hk
   obtain⟨r',t',b1,b2,b3⟩:=(pick_some hzt).2 i k hk
   rw[ha] at a3;cases a3
   rw[hb] at b3;cases b3
   exact sorted_le (h.sorted k) (hle i _ _ a1 b1) a2 b2
  ·obtain⟨_,p',hp',hm⟩:=h.wok w c hx
   rw[hpc] at hp';cases hp'
   obtain⟨i,e1,e2,e3⟩:=miss_some (k:=w.1) (r:=w.2) hm
   obtain⟨r,t,g1,g2,_⟩:=(pick_some hzt).2 i _ e1
   have:=hle i _ _ e2 g1
   have h5:=(gS g2).1
   rw[gE (show w.2<_ by omega)] at e3
   cases e3
theorem set_inj{α:Type}{l:List α}{i:Nat}{a b:α}(h:i<l.length)(e:l.set i a=l.set i b):a=b:=by
 have h1:=congrArg (fun m=>m[i]?) e
 simpa [h] using h1
theorem Inv.behindN{f:Fo}(hf:f.Good){most:Nat}{s:Lst}{done:List Cand}(h:Inv f most s done [] [])(hb:BaseIn f s):∀(N v:Nat) (p:NPack) (ts:List Tree),v<f.n→f.leaf v=none→p∈f.packs v→NTs f p.kids ts→
  (Tree.mk p.rule 0 ts).pre.length*5+unL s.lists p.kids ts<N→Behind s most v (.mk p.rule 0 ts):=by
 intro N
 induction N with
 | zero=>intro v p ts _ _ _ _ hN;omega
 | succ N ih=>
  intro v p ts hv hl hp hts hN
  have hk4:=(hf.kids v hv p hp).1
  have hlen:=hts.len
  have hval:NT f v (.mk p.rule 0 ts):=.node hv hl hp hts
  by_cases hall:∀(i k:Nat) (t:Tree),p.kids[i]?=some k→ts[i]?=some t→t∈s.lists k
  ·obtain⟨rs,h1,h2⟩:=ranks_ex hlen hall
   obtain⟨⟨a0,a1,a2,a3⟩,h3,h4⟩:=pad_four rs zo
   obtain⟨j,hj⟩:=List.mem_iff_getElem?.1 hp
   have hjl:=(gS hj).1
   have hpk:pick s.lists p.kids [a0,a1,a2,a3]=some ts:=pick_of hlen fun i k hk=>by
    have hi:=(gS hk).1
    obtain⟨t,ht⟩:∃t,ts[i]?=some t:=⟨_,gE zo⟩
    obtain⟨r,e1,e2⟩:=h2 i k t hk ht
    exact⟨r,t,h3 i r e1,e2,ht⟩
   exact h.climb hf (z:=⟨v,j,a0,a1,a2,a3⟩) hj hpk (fun i r hi hr=>h4 i r zo hr) hval hk4 _ ⟨v,j,0,0,0,0⟩ (hb v hv hl j hjl) rfl rfl (Nat.zero_le _) (Nat.zero_le _) (Nat.zero_le _) (Nat.zero_le _) (Nat.le_refl _)
  ·have ⟨i,hall⟩:=Classical.not_forall.1 hall
   have ⟨k,hall⟩:=Classical.not_forall.1 hall
   have ⟨t,hall⟩:=Classical.not_forall.1 hall
   have ⟨hk,hall⟩:=Classical.not_imp.1 hall
   have ⟨ht,hnl⟩:=Classical.not_imp.1 hall
   have hkt:=hts.at_ hk ht
   have htm:=gM ht
   have hlt:=kid_lt (r:=p.rule) (t:=0) htm
   have hu:=unL_le s.lists p.kids ts
   have hB:Behind s most k t:=by
    cases hkt with
    | leaf h5 h6=>exact .inl (by rw[h.leafs k _ h5 h6];exact List.mem_cons_self ..)
    | @node _ q us h5 h6 h7 h8=>
     refine ih k q us h5 h6 h7 h8 ?_
     have h9:=unL_le s.lists q.kids us
     have h10:=(hf.kids k h5 q h7).1
     have h11:(Tree.mk (q.rule:Int) 0 us).pre.length<(Tree.mk (p.rule:Int) 0 ts).pre.length:=by
      show _<(_::preL ts).length
      have:=preL_mem htm
      simp only[List.length_cons];omega
     omega
   rcases hB with hB | ⟨y,hy,hB⟩ | ⟨hB1,hB2⟩
   ·exact absurd hB hnl
   ·exact .inr (.inl ⟨y,hy,.inl (wle_wlt hB hlt)⟩)
   ·have hil:i<ts.length:=(gS ht).1
    have small:∀x∈s.lists k,tlt (.mk p.rule 0 (ts.set i x)) (.mk p.rule 0 ts):=fun x hx=>wlt_cons _ (preL_set ht (hB2 x hx))
    have each:∀x∈s.lists k,Behind s most v (.mk p.rule 0 (ts.set i x)):=fun x hx=>by
     refine ih v p (ts.set i x) hv hl hp (hts.set hk (h.valid k x hx)) ?_
     have h1:=unL_set (L:=s.lists) hk ht hnl hx
     have h2:=wle_len (.inl (small x hx))
     omega
    by_cases hq:∃y∈s.q,tle y.2 (.mk p.rule 0 ts)
    ·exact .inr (.inl hq)
    by_cases hfull:(s.lists v).length=most∧∀z∈s.lists v,tlt z (.mk p.rule 0 ts)
    ·exact .inr (.inr hfull)
    have inl:∀x∈s.lists k,Tree.mk p.rule 0 (ts.set i x)∈s.lists v:=fun x hx=>by
     rcases each x hx with h1 | ⟨y,hy,h1⟩ | ⟨h1,h2⟩
     ·exact h1
     ·exact absurd ⟨y,hy,.inl (wle_wlt h1 (small x hx))⟩ hq
     ·exact absurd ⟨h1,fun z hz=>wlt_trans (h2 z hz) (small x hx)⟩ hfull
    exfalso
    apply hfull
    classical
    have hnd:((s.lists k).map fun x=>Tree.mk p.rule 0 (ts.set i x)).Nodup:=by
     rw[List.nodup_iff_pairwise_ne,List.pairwise_map]
     refine(List.nodup_iff_pairwise_ne.1 (tlt_nodup (h.sorted k))).imp fun hne e=>hne ?_
     injection e with _ _ e
     exact set_inj hil e
    have hsub:∀z∈(s.lists k).map (fun x=>Tree.mk p.rule 0 (ts.set i x)),z∈s.lists v:=fun z hz=>by
     obtain⟨x,hx,rfl⟩:=List.mem_map.1 hz
     exact inl x hx
    have hl1:=sub_len _ _ hnd hsub
    have hl2:=h.len v
    rw[List.length_map] at hl1
    refine⟨by omega,fun z hz=>?_⟩
    have:=sub_all _ _ hnd hsub (by rw[List.length_map];omega) z hz
    obtain⟨x,hx,rfl⟩:=List.mem_map.1 this
    exact small x hx
theorem Inv.behind{f:Fo}(hf:f.Good){most:Nat}{s:Lst}{done:List Cand}(h:Inv f most s done [] [])(hb:BaseIn f s){v:Nat}{T:Tree}(hT:NT f v T):Behind s most v T:=by
 cases hT with
 | leaf h5 h6=>exact .inl (by rw[h.leafs v _ h5 h6];exact List.mem_cons_self ..)
 | node h5 h6 h7 h8=>exact h.behindN hf hb _ _ _ _ h5 h6 h7 h8 (Nat.lt_succ_self _)
def updL(L:Nat→List Tree)(v:Nat)(T:Tree):Nat→List Tree:=fun x=>if x=v then L v++[T] else L x
theorem updL_grew(L:Nat→List Tree)(v:Nat)(T:Tree):Grew L (updL L v T):=fun x=>by
 unfold updL
 by_cases e:x=v
 ·subst e;exact⟨[T],by rw[if_pos rfl]⟩
 ·exact⟨[],by rw[if_neg e,List.append_nil]⟩
theorem updL_same(L:Nat→List Tree)(v:Nat)(T:Tree):updL L v T v=L v++[T]:=if_pos rfl
theorem updL_ne(L:Nat→List Tree){v x:Nat}(T:Tree)(h:x≠v):updL L v T x=L x:=if_neg h
theorem updL_mem{L:Nat→List Tree}{v x:Nat}{T t:Tree}(h:t∈updL L v T x):t∈L x∨(x=v∧t=T):=by
 unfold updL at h
 split at h
 ·rename_i e
  subst e
  rcases List.mem_append.1 h with h | h
  ·exact .inl h
  ·exact .inr ⟨rfl,List.mem_singleton.1 h⟩
 ·exact .inl h
theorem Inv.perm{f:Fo}{most:Nat}{s:Lst}{q:List (Cand×Tree)}{done pend ex:List Cand}(h:Inv f most s done pend ex)(hp:s.q.Perm q):Inv f most { s with q:=q } done pend ex where
 ok:=h.ok
 snd:=h.snd
 dsub:=h.dsub
 psub:=h.psub
 dnd:=h.dnd
 pnd:=h.pnd
 qnd:=(hp.map _).nodup_iff.1 h.qnd
 wnd:=h.wnd
 dq:=fun c hc=>⟨fun hx=>(h.dq c hc).1 ((hp.map _).mem_iff.2 hx),(h.dq c hc).2⟩
 pq:=fun c hc=>⟨fun hx=>(h.pq c hc).1 ((hp.map _).mem_iff.2 hx),(h.pq c hc).2⟩
 qw:=fun c hc=>h.qw c ((hp.map _).mem_iff.2 hc)
 qok:=fun x hx=>h.qok x (hp.mem_iff.2 hx)
 wok:=h.wok
 cover:=fun c hc=>(h.cover c hc).imp id fun hx=>hx.imp id fun hx=>hx.imp (fun hx=>(hp.map _).mem_iff.1 hx) id
 next:=h.next
 leafs:=h.leafs
 from_:=h.from_
 len:=h.len
 sorted:=h.sorted
 ord:=fun v hv x hx y hy=>h.ord v hv x hx y (hp.mem_iff.2 hy)
 valid:=h.valid
 full:=h.full
 small:=h.small
theorem Inv.drop{f:Fo}{most:Nat}{s:Lst}{q:List (Cand×Tree)}{done:List Cand}{c:Cand}{T:Tree}(h:Inv f most { s with q:=(c,T)::q } done [] [])(hfull:(s.lists c.node).length=most):Inv f most { s with q:=q } (c::done) [] []:=by
 have hc:=h.qok (c,T) me
 obtain⟨hcq,hqn⟩:=List.nodup_cons.1 (show (c::q.map (·.1)).Nodup from h.qnd)
 have hcd:c∉done:=fun hd=>(h.dq c hd).1 me
 exact
 {ok:=h.ok
  snd:=h.snd
  dsub:=fun d hd=>by
   rcases List.mem_cons.1 hd with rfl | hd
   ·exact hc.1
   ·exact h.dsub d hd
  psub:=h.psub
  dnd:=List.nodup_cons.2 ⟨hcd,h.dnd⟩
  pnd:=h.pnd
  qnd:=hqn
  wnd:=h.wnd
  dq:=fun d hd=>by
   rcases List.mem_cons.1 hd with rfl | hd
   ·exact⟨hcq,by simp,h.qw d me⟩
   ·exact⟨fun hx=>(h.dq d hd).1 (List.mem_cons_of_mem _ hx),(h.dq d hd).2⟩
  pq:=fun d hd=>by cases hd
  qw:=fun d hd=>h.qw d (List.mem_cons_of_mem _ hd)
  qok:=fun x hx=>h.qok x (List.mem_cons_of_mem _ hx)
  wok:=h.wok
  cover:=fun d hd=>by
   rcases h.cover d hd with hx | hx | hx | hx
   ·exact .inl (List.mem_cons_of_mem _ hx)
   ·cases hx
   ·rcases List.mem_cons.1 (show d∈c::q.map (·.1) from hx) with rfl | hx
    ·exact .inl me
    ·exact .inr (.inr (.inl hx))
   ·exact .inr (.inr (.inr hx))
  next:=fun d hd=>by
   rcases List.mem_cons.1 hd with rfl | hd
   ·exact .inr (.inl hfull)
   ·exact h.next d hd
  leafs:=h.leafs
  from_:=fun v hv T hT=>by
   obtain⟨d,h1,h2⟩:=h.from_ v hv T hT
   exact⟨d,List.mem_cons_of_mem _ h1,h2⟩
  len:=h.len
  sorted:=h.sorted
  ord:=fun v hv x hx y hy=>h.ord v hv x hx y (List.mem_cons_of_mem _ hy)
  valid:=h.valid
  full:=h.full
  small:=h.small }
def tookS(s:Lst)(c:Cand)(T:Tree)(q:List (Cand×Tree)):Lst:=
 ⟨updL s.lists c.node T,s.seen,fun w=>if w=(c.node,(s.lists c.node).length) then [] else s.waits w,q⟩
theorem miss_pick{L L':Nat→List Tree}{ks rs:List Nat}{k r:Nat}{ts:List Tree}{t:Tree}(hm:miss L ks rs=some (k,r))(hp:pick L' ks rs=some ts)(ht:(L' k)[r]?=some t):t∈ts:=by
 obtain⟨i,h1,h2,_⟩:=miss_some hm
 obtain⟨r',t',e1,e2,e3⟩:=(pick_some hp).2 i k h1
 rw[h2] at e1;cases e1
 rw[ht] at e2;cases e2
 exact gM e3
structure Took(f:Fo)(most:Nat)(s:Lst)(done:List Cand)(c:Cand)(T:Tree)(q:List (Cand×Tree)):Prop where
 inv:Inv f most (tookS s c T q) (c::done) (s.waits (c.node,(s.lists c.node).length)) [c]
 top:∀v,f.leaf v=none→∀x∈(tookS s c T q).lists v,tle x T
 wait:∀d∈s.waits (c.node,(s.lists c.node).length),∀U,candTree f (tookS s c T q).lists d=some U→tlt T U
 inc:∀p,packAt f c=some p→∀i,i<p.kids.length→CandOk f most (c.inc i)∧∀U,candTree f (tookS s c T q).lists (c.inc i)=some U→tlt T U
 mine:T∈(tookS s c T q).lists c.node∧candTree f (tookS s c T q).lists c=some T
theorem Inv.take{f:Fo}(hf:f.Good){most:Nat}{s:Lst}{q:List (Cand×Tree)}{done:List Cand}{c:Cand}{T:Tree}(h:Inv f most { s with q:=(c,T)::q } done [] [])(hb:BaseIn f s)(hmin:∀y∈q,tle T y.2)(hn:(s.lists c.node).length<most)(hsm:T.pre.length≤5000):Took f most s done c T q:=by
 obtain⟨hcs,hct⟩:=h.qok (c,T) me
 have hcs:c∈s.seen:=hcs
 have hct:candTree f s.lists c=some T:=hct
 have hok:=h.ok c hcs
 obtain⟨hcq,hqn⟩:=List.nodup_cons.1 (show (c::q.map (·.1)).Nodup from h.qnd)
 have hcd:c∉done:=fun hd=>(h.dq c hd).1 me
 have hg:=updL_grew s.lists c.node T
 have hval:∀v,∀t∈s.lists v,NT f v t:=h.valid
 have hsort:∀v,(s.lists v).Pairwise tlt:=h.sorted
 have hT:NT f c.node T:=cand_valid hval hok hct
 have hleT:∀v,f.leaf v=none→∀x∈s.lists v,tle x T:=fun v hv x hx=>h.ord v hv x hx (c,T) me
 have hnew:∀x∈s.lists c.node,tlt x T:=fun x hx=>by
  rcases hleT c.node hok.nl x hx with h1 | h1
  ·exact h1
  ·exfalso
   have e:=hf.dec c.node x T (hval _ x hx) hT h1
   subst e
   obtain⟨d,h2,h3,h4⟩:=h.from_ c.node hok.nl x hx
   have:=cand_inj hf hval hsort (h.ok d (h.dsub d h2)) hok h3 h4 hct
   subst this
   exact hcd h2
 have hTn:T∉s.lists c.node:=fun hx=>wlt_irrefl _ (hnew T hx)
 have hval':∀v,∀t∈updL s.lists c.node T v,NT f v t:=fun v t ht=>by
  rcases updL_mem ht with ht | ⟨rfl,rfl⟩
  ·exact hval v t ht
  ·exact hT
 have htop:∀v,f.leaf v=none→∀x∈updL s.lists c.node T v,tle x T:=fun v hv x hx=>by
  rcases updL_mem hx with hx | ⟨_,rfl⟩
  ·exact hleT v hv x hx
  ·exact wle_refl _
 have hsort':∀v,(updL s.lists c.node T v).Pairwise tlt:=fun v=>by
  unfold updL
  split
  ·rw[List.pairwise_append]
   refine⟨hsort _,by simp,fun a ha b hb=>?_⟩
   rw[List.mem_singleton.1 hb];exact hnew a ha
  ·exact hsort v
 have hlast:(updL s.lists c.node T c.node)[(s.lists c.node).length]?=some T:=by
  rw[updL_same,List.getElem?_append_right (Nat.le_refl _),Nat.sub_self];rfl
 have hbase:BaseIn f { s with q:=(c,T)::q }:=hb
 have hct':=candTree_grew hg hct
 have wsub:∀w,∀d∈(if w=(c.node,(s.lists c.node).length) then [] else s.waits w),d∈s.waits w:=fun w d hd=>by
  split at hd
  ·cases hd
  ·exact hd
 refine⟨?_,htop,fun d hd U hU=>?_,fun p hp i hi=>?_,?_,hct'⟩
 ·exact
  {ok:=h.ok
   snd:=h.snd
   dsub:=fun d hd=>by
    rcases List.mem_cons.1 hd with rfl | hd
    ·exact hcs
    ·exact h.dsub d hd
   psub:=fun d hd=>(h.wok _ d hd).1
   dnd:=List.nodup_cons.2 ⟨hcd,h.dnd⟩
   pnd:=h.wnd _
   qnd:=hqn
   wnd:=fun w=>by
    show (if w=(c.node,(s.lists c.node).length) then [] else s.waits w).Nodup
    split
    ·exact List.nodup_nil
    ·exact h.wnd w
   dq:=fun d hd=>by
    rcases List.mem_cons.1 hd with rfl | hd
    ·exact⟨hcq,h.qw d me _,fun w hw=>h.qw d me w (wsub w d hw)⟩
    ·exact⟨fun hx=>(h.dq d hd).1 (List.mem_cons_of_mem _ hx),(h.dq d hd).2.2 _,fun w hw=>(h.dq d hd).2.2 w (wsub w d hw)⟩
   pq:=fun d hd=>⟨fun hx=>h.qw d (List.mem_cons_of_mem _ hx) _ hd,fun w hw=>by
    have h1:=wsub w d hw
    obtain⟨_,p,hp,hm⟩:=h.wok w d h1
    obtain⟨_,p',hp',hm'⟩:=h.wok _ d hd
    rw[hp] at hp';cases hp'
    have e:w=(c.node,(s.lists c.node).length):=Option.some.inj (hm.symm.trans hm')
    have hw:d∈(if w=(c.node,(s.lists c.node).length) then [] else s.waits w):=hw
    rw[if_pos e] at hw
    cases hw⟩
   qw:=fun d hd w hw=>h.qw d (List.mem_cons_of_mem _ hd) w (wsub w d hw)
   qok:=fun x hx=>⟨(h.qok x (List.mem_cons_of_mem _ hx)).1,candTree_grew hg (h.qok x (List.mem_cons_of_mem _ hx)).2⟩
   wok:=fun w d hd=>by
    have h1:=wsub w d hd
    have hd:d∈(if w=(c.node,(s.lists c.node).length) then [] else s.waits w):=hd
    have hne:w≠(c.node,(s.lists c.node).length):=fun e=>by rw[if_pos e] at hd;cases hd
    obtain⟨h2,p,hp,hm⟩:=h.wok w d h1
    refine⟨h2,p,hp,miss_grew hg hm ?_⟩
    obtain⟨i,_,_,h3⟩:=miss_some (k:=w.1) (r:=w.2) hm
    have h3:(s.lists w.1)[w.2]?=none:=h3
    by_cases e:w.1=c.node
    ·rw[e] at h3
     rw[e,updL_same]
     rw[List.getElem?_eq_none_iff] at h3 ⊢
     rw[List.length_append,List.length_singleton]
     have:w.2≠(s.lists c.node).length:=fun e2=>hne (Prod.ext e e2)
     omega
    ·rw[updL_ne _ _ e];exact h3
   cover:=fun d hd=>by
    rcases h.cover d hd with hx | hx | hx | ⟨w,hx⟩
    ·exact .inl (List.mem_cons_of_mem _ hx)
    ·cases hx
    ·rcases List.mem_cons.1 (show d∈c::q.map (·.1) from hx) with rfl | hx
     ·exact .inl me
     ·exact .inr (.inr (.inl hx))
    ·by_cases e:w=(c.node,(s.lists c.node).length)
     ·subst e;exact .inr (.inl hx)
     ·exact .inr (.inr (.inr ⟨w,by show d∈(if w=(c.node,(s.lists c.node).length) then [] else s.waits w);rw[if_neg e];exact hx⟩))
   next:=fun d hd=>by
    rcases List.mem_cons.1 hd with rfl | hd
    ·exact .inl me
    ·rcases h.next d hd with hx | hx | ⟨⟨U,h1,h2⟩,h3⟩
     ·cases hx
     ·have hx:(s.lists d.node).length=most:=hx
      refine .inr (.inl ?_)
      show (updL s.lists c.node T d.node).length=most
      rw[updL_ne _ _ (fun e=>by rw[e] at hx;omega)];exact hx
     ·refine .inr (.inr ⟨⟨U,?_,candTree_grew hg h2⟩,h3⟩)
      obtain⟨x,hx⟩:=hg d.node
      show U∈updL s.lists c.node T d.node
      rw[hx];exact List.mem_append_left _ h1
   leafs:=fun v t hv ht=>by
    show updL s.lists c.node T v=_
    rw[updL_ne _ _ (fun e=>by rw[e,hok.nl] at ht;cases ht)]
    exact h.leafs v t hv ht
   from_:=fun v hv U hU=>by
    rcases updL_mem hU with hU | ⟨rfl,rfl⟩
    ·obtain⟨d,h1,h2,h3⟩:=h.from_ v hv U hU
     exact⟨d,List.mem_cons_of_mem _ h1,h2,candTree_grew hg h3⟩
    ·exact⟨c,List.mem_cons_self ..,rfl,hct'⟩
   len:=fun v=>by
    show (updL s.lists c.node T v).length≤most
    unfold updL
    split
    ·rw[List.length_append,List.length_singleton];omega
    ·exact h.len v
   sorted:=hsort'
   ord:=fun v hv x hx y hy=>wle_trans (htop v hv x hx) (hmin y hy)
   valid:=hval'
   full:=fun v hv hl U hU hUn x hx=>by
    by_cases e:v=c.node
    ·subst e
     have hUn:U∉updL s.lists c.node T c.node:=hUn
     rw[updL_same] at hUn
     have hU1:U∉s.lists c.node:=fun h1=>hUn (List.mem_append_left _ h1)
     have hU2:U≠T:=fun h1=>hUn (by rw[h1];simp)
     have hTU:tlt T U:=by
      have key:tle T U:=by
       rcases h.behind hf hbase hU with h1 | ⟨y,hy,h1⟩ | ⟨h1,_⟩
       ·exact absurd h1 hU1
       ·rcases List.mem_cons.1 hy with rfl | hy
        ·exact h1
        ·exact wle_trans (hmin y hy) h1
       ·have h1:(s.lists c.node).length=most:=h1
        omega
      rcases key with h1 | h1
      ·exact h1
      ·exact absurd (hf.dec c.node T U hT hU h1).symm hU2
     rcases updL_mem hx with hx | ⟨_,rfl⟩
     ·exact wlt_trans (hnew x hx) hTU
     ·exact hTU
    ·have hl:(updL s.lists c.node T v).length=most:=hl
     have hUn:U∉updL s.lists c.node T v:=hUn
     have hx:x∈updL s.lists c.node T v:=hx
     rw[updL_ne _ _ e] at hl hUn hx
     exact h.full v hv hl U hU hUn x hx
   small:=fun v U hU=>by
    rcases updL_mem hU with hU | ⟨rfl,rfl⟩
    ·exact h.small v U hU
    ·exact hsm }
 ·obtain⟨_,p,hp,hm⟩:=h.wok _ d hd
  obtain⟨p',ts,e1,e2,rfl⟩:=candTree_some hU
  rw[hp] at e1;cases e1
  exact kid_lt (miss_pick hm e2 hlast)
 ·obtain⟨p',ts,e1,e2,e3⟩:=candTree_some hct'
  rw[hp] at e1;cases e1
  obtain⟨k,hk⟩:∃k,p.kids[i]?=some k:=⟨_,gE hi⟩
  obtain⟨r,t,a1,a2,a3⟩:=(pick_some e2).2 i k hk
  have hir:=c.inc_ranks a1
  have hnp:=c.inc_node i
  have hpa:packAt f (c.inc i)=some p:=by unfold packAt at hp ⊢;rw[hnp.1,hnp.2];exact hp
  have hlen4:i<c.ranks.length:=(gS a1).1
  refine⟨⟨by rw[hnp.1];exact hok.node,by rw[hnp.1];exact hok.nl,⟨p,hpa⟩,fun x hx=>?_,fun p2 hp2 j x hj hx=>?_⟩,fun U hU=>?_⟩
  ·rw[hir] at hx
   rcases List.mem_or_eq_of_mem_set hx with hx | rfl
   ·exact hok.rank x hx
   ·obtain⟨p3,ts3,g1,g2,_⟩:=candTree_some hct
    rw[hp] at g1;cases g1
    obtain⟨r3,t3,b1,b2,_⟩:=(pick_some g2).2 i k hk
    rw[a1] at b1;cases b1
    have h1:=(gS b2).1
    have h2:(s.lists k).length≤most:=h.len k
    omega
  ·rw[hpa] at hp2;cases hp2
   rw[hir,List.getElem?_set_ne zo] at hx
   exact hok.zero p hp j x hj hx
  ·obtain⟨p3,us,g1,g2,rfl⟩:=candTree_some hU
   rw[hpa] at g1;cases g1
   rw[hir] at g2
   have h1:=pick_some g2
   have h2:=pick_some e2
   obtain⟨r',u,b1,b2,b3⟩:=h1.2 i k hk
   rw[List.getElem?_set_self hlen4] at b1
   obtain rfl:=Option.some.inj b1
   have e:us=ts.set i u:=by
    refine List.ext_getElem? fun j=>?_
    by_cases hij:i=j
    ·subst hij
     rw[b3,List.getElem?_set_self (by rw[h2.1];exact hi)]
    ·rw[List.getElem?_set_ne hij]
     by_cases hj:j<p.kids.length
     ·obtain⟨k2,hk2⟩:∃k,p.kids[j]?=some k:=⟨_,gE hj⟩
      obtain⟨r1,t1,c1,c2,c3⟩:=h1.2 j k2 hk2
      obtain⟨r2,t2,d1,d2,d3⟩:=h2.2 j k2 hk2
      rw[List.getElem?_set_ne hij,d1] at c1
      cases c1
      have c2:(updL s.lists c.node T k2)[r1]?=some t1:=c2
      rw[d2] at c2;cases c2
      rw[c3,d3]
     ·rw[List.getElem?_eq_none (by rw[h1.1];omega),List.getElem?_eq_none (by rw[h2.1];omega)]
   rw[e3,e]
   refine wlt_cons _ (preL_set' a3 ?_)
   have hs:=hsort' k
   obtain⟨q1,rfl⟩:=gS a2
   obtain⟨q2,rfl⟩:=gS b2
   exact List.pairwise_iff_getElem.1 hs _ _ q1 q2 (Nat.lt_succ_self _)
 ·show T∈updL s.lists c.node T c.node
  rw[updL_same];simp
theorem Inv.close{f:Fo}{most:Nat}{s:Lst}{done:List Cand}{c:Cand}{T:Tree}(h:Inv f most s (c::done) [] [c])(h1:T∈s.lists c.node)(h2:candTree f s.lists c=some T)(h3:∀p,packAt f c=some p→∀i,i<p.kids.length→c.inc i∈s.seen):Inv f most s (c::done) [] []:=
 {h with
  next:=fun d hd=>by
   rcases h.next d hd with hx | hx
   ·rw[List.mem_singleton.1 hx]
    exact .inr (.inr ⟨⟨T,h1,h2⟩,h3⟩)
   ·exact .inr hx }
structure Firsts(f:Fo)(v most:Nat)(l:List Tree):Prop where
 sorted:l.Pairwise tlt
 valid:∀T∈l,NT f v T
 len:l.length≤most
 small:∀T∈l,T.pre.length≤5000
 rest:∀T,NT f v T→T∉l→(∀x∈l,tlt x T)∧(l.length=most∨5000<T.pre.length)
theorem Inv.firsts{f:Fo}(hf:f.Good){most:Nat}{s:Lst}{done:List Cand}(h:Inv f most s done [] [])(hb:BaseIn f s){v:Nat}(hl:f.leaf v=none)(hend:(s.lists v).length=most∨∀y∈s.q,5000<y.2.pre.length):Firsts f v most (s.lists v):=by
 refine⟨h.sorted v,h.valid v,h.len v,h.small v,fun T hT hn=>?_⟩
 rcases hend with he | he
 ·exact⟨h.full v hl he T hT hn,.inl he⟩
 ·rcases h.behind hf hb hT with h1 | ⟨y,hy,h1⟩ | ⟨h1,h2⟩
  ·exact absurd h1 hn
  ·have h3:=he y hy
   have h4:=wle_len h1
   exact⟨fun x hx=>.inl (by have:=h.small v x hx;omega),.inr zo⟩
  ·exact⟨h2,.inl h1⟩
end Go.Proofs.D