/-
  Walks: what functions of the program do, over the abstract machine.
-/
import Derived.Test.YtpoochgjdeefdaaGreatDoorWk0
set_option linter.unusedVariables false
set_option maxRecDepth 20000
set_option maxHeartbeats 0
open Go Go.Abs Go.Proofs Go.Proofs.D
namespace Go.Proofs.D
structure NPack where
 rule:Nat
 kids:List Nat
deriving DecidableEq
def tNPack:Ty NPack where
 size:=2
 rel:=fun F l x=>∃a n c,l=[.int .i64 x.rule,.slice a n c]∧Arr tNat F a n c x.kids∧x.kids.length≤1000000
 len:=fun _ _ _ h=>by obtain⟨a,n,c,rfl,_⟩:=h;rfl
 one:=fun _ _ _ h=>by obtain⟨a,n,c,rfl,_⟩:=h;rfl
 mono:=fun _ _ _ _ hF h=>by obtain⟨a,n,c,e,h,hb⟩:=h;exact⟨a,n,c,e,h.mono hF,hb⟩
def cmpNPack(x y:NPack):Int:=orInt [cmpInt x.rule y.rule,cmpNats x.kids y.kids]
theorem npackCmp_spec(F:Frz){lx ly:List Value}(x y:NPack)(hx:tNPack.rel F lx x)(hy:tNPack.rel F ly y):Abs.Spec CC 107 [.agg ⟨lx⟩,.agg ⟨ly⟩] F [] fun _ v o=>o=[]∧v=.int .i64 (cmpNPack x y):=by
 obtain⟨xa,xn,xc,rfl,hxa,hxb⟩:=hx
 obtain⟨ya,yn,yc,rfl,hya,hyb⟩:=hy
 have hxl:=hxa.len
 have hyl:=hya.len
 refine Abs.Spec.fn (n:=17) Tryz.func107 rfl rfl fun own=>?_
 refine AW.seq (AW.reg ?_)
 refine WT.boxT Z Z Z Z Z Z (fun i2 hi2=>?_)
 refine WT.boxT Z Z Z Z Z Z (fun i3 hi3=>?_)
 refine zB4 ?_
 refine AW.draw (ps:=[(6,4),(8,4)]) Z Z ?_
 refine zB4 ?_
 refine WT.callV Tryz.func48 Z Z Z Z Z Z (compare_spec _ _ _) (fun v hv=>?_)
 subst hv
 refine zB4 ?_
 refine WT.callV Tryz.func12 Z Z Z Z Z Z (numCompare_spec _ hxa hya zo zo) (fun v hv=>?_)
 subst hv
 skip
 refine WT.buildT hT Z Z Z Z Z Z Z Z Z Z Z Z Z Z (fun i9 hi9=>?_)
 refine WT.callLend 0 Tryz.func108 Z Z Z Z Z Z Z (fun G hG hBG=>or_spec G (l:=[cmpInt x.rule y.rule,cmpNats x.kids y.kids]) (Bld.frozen (F:=F) (B:=[(i9,.cells false [.int .i64 (cmpInt x.rule y.rule),.int .i64 (cmpNats x.kids y.kids)])]) ⟨rfl,.inr ⟨i9,_,rfl,rfl,rfl,Cells.cons (l:=[_]) Z (Cells.single (x:=cmpNats x.kids y.kids) rfl),by decide⟩⟩ hG hBG) (by decide)) (fun v hv=>?_)
 subst hv
 refine zB4 ?_
 refine⟨zrC,?_⟩
 skip
 exact AW.ret ⟨_,[],⟨_,_,rfl,rfl,rfl⟩,zsb,rfl,rfl⟩
def PSorted(xs:List NPack):Prop:=∀(i j:Nat) (x y:NPack),i<j→xs[i]?=some x→xs[j]?=some y→¬cmpNPack y x<0
theorem insP_spec(F:Frz){a0:Option Addr}{m c:Nat}{xs:List NPack}(hv:Arr tNPack F a0 m c xs)(hs:PSorted xs)(a b:Nat)(ha:a≤1000000)(hb:b≤m)(hm:m≤1000000) :
  Abs.Spec CC 144 [.slice a0 m c,.int .i64 a,.int .i64 b,.func (.func 107) ⟨[]⟩ ⟨[]⟩] F [] fun F' v o=>o=[]∧v=.tuple ⟨[]⟩:=by
 have hvl:=hv.len
 refine Abs.Spec.fn (n:=53) Tryz.func144 rfl rfl fun own=>?_
 refine zC4 ?_
 refine AW.block ?_
 refine AW.loopR (S:=Nat) (fun s=>[(8,.int .i64 (s:Nat))]) (fun s=>own) (fun s G=>a+1≤s) (fun s=>b-s) (a+1)
  sM oR (Nat.le_refl _) ?_
 intro s F1 hF1 hP
 have hv1:=hv.mono hF1
 refine zC4 ?_
 refine AW.cond Z (fun h=>?_) (fun h=>?_)
 ·have h:s<b:=by simpa using h
  refine zC4 ?_
  refine AW.block ?_
  refine zC4 ?_
  refine AW.block ?_
  refine AW.loopR (S:=Unit) (fun u=>[]) (fun u=>own) (fun u G=>True) (fun u=>0) ()
   sM oR trivial ?_
  intro u F2 hF2 _
  have hv2:=hv1.mono hF2
  refine zC4 ?_
  refine WT.split 21 Z (fun hja=>?_) (fun hja=>absurd hja (by simp;omega))
  refine zC4 ?_
  refine WT.idxL hT hv2 Z Z Z Z Z Z Z Z Z zo (fun y hy b1 off ro cs ly hb1 hp1 hrel1=>?_)
  obtain⟨ya,yn,yc,hly,hya⟩:=id hrel1
  subst hly
  refine zC4 ?_
  refine WT.idxL hT hv2 Z Z Z Z Z Z Z Z Z zo (fun x hx b2 off2 ro2 cs2 lx hb2 hp2 hrel2=>?_)
  obtain⟨xa,xn,xc,hlx,hxa⟩:=id hrel2
  subst hlx
  refine zC4 ?_
  refine WT.callC Tryz.func107 Z Z Z Z Z Z Z Z (npackCmp_spec _ y x hrel1 hrel2) (fun v hv=>?_)
  subst hv
  have hno:=hs (s-1) s x y zo hx hy
  refine zC4 ?_
  refine AW.cond Z (fun h=>absurd h (by simpa using hno)) (fun _=>?_)
  refine AW.exit ?_
  refine zC4 ?_
  exact⟨s+1,by omega,sM,OwnLe.refl _,by omega⟩
 ·have h:¬s<b:=by simpa using h
  refine AW.exit ?_
  skip
  refine⟨_,[],rfl,zsb,rfl,rfl⟩
theorem symP_spec{xs:List NPack}(hs:PSorted xs):∀(N:Nat) (F:Frz) {a0:Option Addr} {len cc:Nat} (hv:Arr tNPack F a0 len cc xs) (a m b:Nat) (hN:b-a<N) (ham:a<m) (hmb:m<b) (hb:b≤len) (hm:len≤1000000),
  Abs.Spec CC 145 [.slice a0 len cc,.int .i64 a,.int .i64 m,.int .i64 b,.func (.func 107) ⟨[]⟩ ⟨[]⟩] F [] fun F' v o=>o=[]∧v=.tuple ⟨[]⟩
 | 0,F,a0,len,cc,hv,a,m,b,hN,_,_,_,_=>absurd hN (Nat.not_lt_zero _)
 | N+1,F,a0,len,cc,hv,a,m,b,hN,ham,hmb,hb,hm=>by
  have hvl:=hv.len
  refine Abs.Spec.fn (n:=220) Tryz.func145 rfl rfl fun own=>?_
  refine zC4 ?_
  refine AW.cond Z (fun h=>?_) (fun h=>?_)
  ·have h:m=a+1:=by simp at h;omega
   refine zC4 ?_
   refine AW.block ?_
   refine AW.loopR (S:=Nat) (fun s=>[(11,.int .i64 (s:Nat))]) (fun s=>own) (fun s G=>m≤s∧s≤b) (fun s=>s) b
    sM oR ⟨by omega,Nat.le_refl _⟩ ?_
   intro s F1 hF1 hP
   have hv1:=hv.mono hF1
   obtain⟨hms,hsb⟩:=hP
   refine zC4 ?_
   refine AW.cond Z (fun h2=>?_) (fun h2=>?_)
   ·have h2:m<s:=by simpa using h2
    refine zC4 ?_
    refine AW.block ?_
    refine zC4 ?_
    refine WT.conv hT (k2:=.u64) Z Z Z Z Z Z Z Z (wrapU64 zo) ?_
    refine WT.shV Z Z Z Z Z Z (by decide) (shr64 (x:=m+s) (y:=1) (by decide)) ?_
    refine WT.conv hT (k2:=.i64) Z Z Z Z Z Z Z Z (wrap64 zo) ?_
    rw[Nat.pow_one]
    refine zC4 ?_
    refine WT.idxL hT hv1 Z Z Z Z Z Z Z Z Z zo (fun y hy b1 off ro cs ly hb1 hp1 hrel1=>?_)
    obtain⟨ya,yn,yc,hly,hya⟩:=id hrel1
    subst hly
    refine zC4 ?_
    refine WT.idxL hT hv1 Z Z Z Z Z Z Z Z Z zo (fun x hx b2 off2 ro2 cs2 lx hb2 hp2 hrel2=>?_)
    obtain⟨xa,xn,xc,hlx,hxa⟩:=id hrel2
    subst hlx
    refine zC4 ?_
    refine WT.callC Tryz.func107 Z Z Z Z Z Z Z Z (npackCmp_spec _ y x hrel1 hrel2) (fun v hv=>?_)
    subst hv
    have hno:=hs a ((m+s) / 2) x y zo hx hy
    refine zC4 ?_
    refine AW.cond Z (fun h=>absurd h (by simpa using hno)) (fun _=>?_)
    refine zC4 ?_
    exact⟨(m+s) / 2,by omega,sM,OwnLe.refl _,by omega,by omega⟩
   ·have h2:s=m:=by simp at h2;omega
    refine AW.exit ?_
    refine zC4 ?_
    refine AW.block ?_
    refine AW.loopR (S:=Unit) (fun s=>[]) (fun s=>own) (fun s G=>True) (fun s=>0) ()
     sM oR trivial ?_
    intro u F2 hF2 _
    refine zC4 ?_
    refine AW.cond Z (fun h3=>(by simp at h3;omega)) (fun _=>?_)
    refine AW.exit ?_
    skip
    exact AW.ret ⟨_,[],rfl,zsb,rfl,rfl⟩
  ·have h:m≠a+1:=by intro e;subst e;simp at h
   refine zC4 ?_
   refine AW.cond Z (fun h'=>?_) (fun h'=>?_)
   ·have h':b=m+1:=by simp at h';omega
    refine zC4 ?_
    refine AW.block ?_
    refine AW.loopR (S:=Nat) (fun s=>[(14,.int .i64 (s:Nat))]) (fun s=>own) (fun s G=>a≤s∧s≤m) (fun s=>m-s) a
     sM oR ⟨Nat.le_refl _,by omega⟩ ?_
    intro s F1 hF1 hP
    have hv1:=hv.mono hF1
    obtain⟨hms,hsb⟩:=hP
    refine zC4 ?_
    refine AW.cond Z (fun h2=>?_) (fun h2=>?_)
    ·have h2:s<m:=by simpa using h2
     refine zC4 ?_
     refine AW.block ?_
     refine zC4 ?_
     refine WT.conv hT (k2:=.u64) Z Z Z Z Z Z Z Z (wrapU64 zo) ?_
     refine WT.shV Z Z Z Z Z Z (by decide) (shr64 (x:=s+m) (y:=1) (by decide)) ?_
     refine WT.conv hT (k2:=.i64) Z Z Z Z Z Z Z Z (wrap64 zo) ?_
     rw[Nat.pow_one]
     refine zC4 ?_
     refine WT.idxL hT hv1 Z Z Z Z Z Z Z Z Z zo (fun y hy b1 off ro cs ly hb1 hp1 hrel1=>?_)
     obtain⟨ya,yn,yc,hly,hya⟩:=id hrel1
     subst hly
     refine zC4 ?_
     refine WT.idxL hT hv1 Z Z Z Z Z Z Z Z Z zo (fun x hx b2 off2 ro2 cs2 lx hb2 hp2 hrel2=>?_)
     obtain⟨xa,xn,xc,hlx,hxa⟩:=id hrel2
     subst hlx
     refine zC4 ?_
     refine WT.callC Tryz.func107 Z Z Z Z Z Z Z Z (npackCmp_spec _ y x hrel1 hrel2) (fun v hv=>?_)
     subst hv
     have hno:=hs ((s+m) / 2) m x y zo hx hy
     refine zC4 ?_
     refine AW.cond Z (fun _=>?_) (fun h=>absurd h (by simpa using hno))
     refine zC4 ?_
     exact⟨(s+m) / 2+1,by omega,sM,OwnLe.refl _,by omega,by omega⟩
    ·have h2:s=m:=by simp at h2;omega
     subst h2
     refine AW.exit ?_
     refine zC4 ?_
     refine AW.block ?_
     refine AW.loopR (S:=Unit) (fun s=>[]) (fun s=>own) (fun s G=>True) (fun s=>0) ()
      sM oR trivial ?_
     intro u F2 hF2 _
     refine zC4 ?_
     refine AW.cond Z (fun h3=>(by simp at h3)) (fun _=>?_)
     refine AW.exit ?_
     skip
     exact AW.ret ⟨_,[],rfl,zsb,rfl,rfl⟩
   ·have h':b≠m+1:=by intro e;subst e;simp at h'
    refine zC4 ?_
    refine WT.conv hT (k2:=.u64) Z Z Z Z Z Z Z Z (wrapU64 zo) ?_
    refine WT.shV Z Z Z Z Z Z (by decide) (shr64 (x:=a+b) (y:=1) (by decide)) ?_
    refine WT.conv hT (k2:=.i64) Z Z Z Z Z Z Z Z (wrap64 zo) ?_
    rw[Nat.pow_one]
    obtain⟨mid,hmid⟩:∃mid,(a+b) / 2=mid:=⟨_,rfl⟩
    rw[hmid]
    refine zC4 ?_
    refine AW.jnT (S:=Nat×Nat) (fun s=>[(20,.int .i64 (s.1:Nat)),(21,.int .i64 (s.2:Nat))]) (fun s=>own) (fun s G=>(mid<m∧s.1=mid+m-b∧s.2=mid)∨(m≤mid∧s.1=a∧s.2=m)) ?_ (fun s F1 hF1 hP=>?_)
    ·refine AW.cond Z (fun h2=>?_) (fun h2=>?_)
     ·have h2:mid<m:=by simp at h2;omega
      refine zC4 ?_
      exact⟨(mid+m-b,mid),sM,OwnLe.refl _,.inl ⟨h2,rfl,rfl⟩⟩
     ·have h2:m≤mid:=by simp at h2;omega
      refine zC4 ?_
      exact⟨(a,m),sM,OwnLe.refl _,.inr ⟨h2,rfl,rfl⟩⟩
    ·obtain⟨st,r⟩:=s
     dsimp only at hP ⊢
     have hv1:=hv.mono hF1
     have hst:st≤r:=by omega
     have hrm:r≤m∧r≤mid:=by omega
     refine zC4 ?_
     refine AW.block ?_
     refine AW.loopR (S:=Nat) (fun s=>[(20,.int .i64 (s:Nat))]) (fun s=>own) (fun s G=>st≤s∧s≤r) (fun s=>r-s) st
      sM oR ⟨Nat.le_refl _,hst⟩ ?_
     intro u F2 hF2 hP2
     obtain⟨hu1,hu2⟩:=hP2
     have hv2:=hv1.mono hF2
     refine zC4 ?_
     refine AW.cond Z (fun h2=>?_) (fun h2=>?_)
     ·have h2:u<r:=by simpa using h2
      refine zC4 ?_
      refine AW.block ?_
      refine zC4 ?_
      refine WT.conv hT (k2:=.u64) Z Z Z Z Z Z Z Z (wrapU64 zo) ?_
      refine WT.shV Z Z Z Z Z Z (by decide) (shr64 (x:=u+r) (y:=1) (by decide)) ?_
      refine WT.conv hT (k2:=.i64) Z Z Z Z Z Z Z Z (wrap64 zo) ?_
      rw[Nat.pow_one]
      obtain⟨cx,hcx⟩:∃cx,(u+r) / 2=cx:=⟨_,rfl⟩
      rw[hcx]
      have hc1:u≤cx∧cx<r:=by omega
      refine zC4 ?_
      refine WT.idxL hT hv2 Z Z Z Z Z Z Z Z Z zo (fun y hy b1 off ro cs ly hb1 hp1 hrel1=>?_)
      obtain⟨ya,yn,yc,hly,hya⟩:=id hrel1
      subst hly
      refine zC4 ?_
      refine WT.idxL hT hv2 Z Z Z Z Z Z Z Z Z zo (fun x hx b2 off2 ro2 cs2 lx hb2 hp2 hrel2=>?_)
      obtain⟨xa,xn,xc,hlx,hxa⟩:=id hrel2
      subst hlx
      refine zC4 ?_
      refine WT.callC Tryz.func107 Z Z Z Z Z Z Z Z (npackCmp_spec _ y x hrel1 hrel2) (fun v hv=>?_)
      subst hv
      have hno:=hs cx _ x y zo hx hy
      refine zC4 ?_
      refine AW.cond Z (fun _=>?_) (fun h=>absurd h (by simpa using hno))
      refine zC4 ?_
      exact⟨cx+1,by omega,sM,OwnLe.refl _,by omega,by omega⟩
     ·have h2:u=r:=by simp at h2;omega
      subst h2
      refine AW.exit ?_
      refine zC4 ?_
      rcases hP with ⟨hq,_,hu⟩ | ⟨hq,_,hu⟩
      ·subst hu
       have he:u+m-u=m:=by omega
       refine WT.split 181 Z (fun e=>?_) (fun e=>absurd e (by simp;omega))
       refine zC4 ?_
       refine AW.cond Z (fun e=>absurd e (by simp)) (fun _=>?_)
       refine zC4 ?_
       refine WT.split 195 Z (fun e=>?_) (fun e=>absurd e (by simp;omega))
       refine zC4 ?_
       refine AW.cond Z (fun e=>absurd e (by simp)) (fun _=>?_)
       refine zC4 ?_
       refine WT.split 209 Z (fun e=>?_) (fun e=>absurd e (by simp;omega))
       refine zC4 ?_
       refine AW.cond Z (fun _=>?_) (fun e=>absurd e (by simp;omega))
       rw[he]
       refine zC4 ?_
       refine WT.callV Tryz.func145 Z Z Z Z Z Z (symP_spec hs N _ hv2 u m b zo zo hmb hb hm) (fun v hv=>?_)
       refine zC4 ?_
       refine⟨_,[],rfl,zsb,rfl,rfl⟩
      ·subst hu
       have he:mid+u-u=mid:=by omega
       refine WT.split 181 Z (fun e=>absurd e (by simp)) (fun e=>?_)
       refine zC4 ?_
       refine AW.cond Z (fun e=>absurd e (by simp)) (fun _=>?_)
       refine zC4 ?_
       refine WT.split 195 Z (fun e=>?_) (fun e=>absurd e (by simp;omega))
       refine zC4 ?_
       rw[he]
       refine AW.cond Z (fun e=>?_) (fun e=>?_)
       ·have e:u<mid:=by simpa using e
        refine zC4 ?_
        refine WT.callV Tryz.func145 Z Z Z Z Z Z (symP_spec hs N _ hv2 a u mid zo ham e zo hm) (fun v hv=>?_)
        refine zC4 ?_
        refine WT.split 209 Z (fun e=>absurd e (by simp)) (fun e=>?_)
        refine zC4 ?_
        refine AW.cond Z (fun e=>absurd e (by simp)) (fun _=>?_)
        refine zC4 ?_
        refine⟨_,[],rfl,zsb,rfl,rfl⟩
       ·refine zC4 ?_
        refine WT.split 209 Z (fun e=>absurd e (by simp)) (fun e=>?_)
        refine zC4 ?_
        refine AW.cond Z (fun e=>absurd e (by simp)) (fun _=>?_)
        refine zC4 ?_
        refine⟨_,[],rfl,zsb,rfl,rfl⟩
theorem stableP_spec(F:Frz){a0:Option Addr}{m c:Nat}{xs:List NPack}(hv:Arr tNPack F a0 m c xs)(hs:PSorted xs)(hm:m≤1000000) :
  Abs.Spec CC 125 [.slice a0 m c,.int .i64 m,.func (.func 107) ⟨[]⟩ ⟨[]⟩] F [] fun F' v o=>o=[]∧v=.tuple ⟨[]⟩:=by
 have hvl:=hv.len
 refine Abs.Spec.fn (n:=63) Tryz.func125 rfl rfl fun own=>?_
 refine zC4 ?_
 refine AW.block ?_
 refine AW.loopR (S:=Nat) (fun s=>[(7,.int .i64 (s:Nat)),(8,.int .i64 ((s+20:Nat):Int))]) (fun s=>own) (fun s G=>s≤m) (fun s=>m-s) 0
  sM oR (Nat.zero_le _) ?_
 intro s F1 hF1 hP
 have hv1:=hv.mono hF1
 refine zC4 ?_
 refine AW.cond Z (fun h2=>?_) (fun h2=>?_)
 ·have h2:s+20≤m:=by simp at h2;omega
  refine zC4 ?_
  refine AW.block ?_
  refine zC4 ?_
  refine WT.callV Tryz.func144 Z Z Z Z Z Z (insP_spec _ hv1 hs s (s+20) zo h2 hm) (fun v hv'=>?_)
  refine zC4 ?_
  exact⟨s+20,by omega,sM,OwnLe.refl _,h2⟩
 ·refine AW.exit ?_
  refine zC4 ?_
  refine WT.callV Tryz.func144 Z Z Z Z Z Z (insP_spec _ hv1 hs s m zo (Nat.le_refl _) hm) (fun v hv'=>?_)
  refine zC4 ?_
  refine AW.block ?_
  refine AW.loopR (S:=Nat×Nat×Nat) (fun s=>[(6,.int .i64 (s.1:Nat)),(7,.int .i64 (s.2.1:Nat)),(8,.int .i64 (s.2.2:Nat))]) (fun s=>own) (fun s G=>0<s.1) (fun s=>m-s.1) (20,s,s+20)
   sM oR (show 0<20 by decide) ?_
  intro u F2 hF2 hP2
  have hv2:=hv1.mono hF2
  obtain⟨bs,ua,ub⟩:=u
  dsimp only at hP2 ⊢
  refine zC4 ?_
  refine AW.cond Z (fun h3=>?_) (fun h3=>?_)
  ·have h3:bs<m:=by simpa using h3
   refine zC4 ?_
   refine AW.block ?_
   refine zC4 ?_
   refine AW.block ?_
   refine AW.loopR (S:=Nat×Nat) (fun s=>[(7,.int .i64 (s.1:Nat)),(8,.int .i64 (s.2:Nat))]) (fun s=>own) (fun s G=>s.1≤m∧s.2=s.1+2*bs) (fun s=>m-s.1) (0,2*bs)
    sM oR ⟨Nat.zero_le _,by omega⟩ ?_
   intro z F3 hF3 hP3
   have hv3:=hv2.mono hF3
   obtain⟨za,zb⟩:=z
   dsimp only at hP3 ⊢
   obtain⟨hz1,hz2⟩:=hP3
   subst hz2
   refine zC4 ?_
   refine AW.cond Z (fun h4=>?_) (fun h4=>?_)
   ·have h4:za+2*bs≤m:=by simp at h4;omega
    refine zC4 ?_
    refine AW.block ?_
    refine zC4 ?_
    refine WT.callV Tryz.func145 Z Z Z Z Z Z (symP_spec hs _ _ hv3 za (za+bs) (za+2*bs) (Nat.lt_succ_self _) zo zo h4 hm) (fun v hv'=>?_)
    refine zC4 ?_
    exact⟨(za+2*bs,za+2*bs+2*bs),by dsimp only;omega,sM,OwnLe.refl _,h4,rfl⟩
   ·have h4:m<za+2*bs:=by simp at h4;omega
    refine AW.exit ?_
    refine zC4 ?_
    refine AW.cond Z (fun h5=>?_) (fun h5=>?_)
    ·have h5:za+bs<m:=by simp at h5;omega
     refine zC4 ?_
     refine WT.callV Tryz.func145 Z Z Z Z Z Z (symP_spec hs _ _ hv3 za (za+bs) m (Nat.lt_succ_self _) zo h5 (Nat.le_refl _) hm) (fun v hv'=>?_)
     refine zC4 ?_
     refine WT.mulL 2 Z Z Z Z Z Z zo ?_
     refine zC4 ?_
     exact⟨(bs*2,za,za+2*bs),by dsimp only;omega,sM,OwnLe.refl _,by dsimp only;omega⟩
    ·refine zC4 ?_
     refine WT.mulL 2 Z Z Z Z Z Z zo ?_
     refine zC4 ?_
     exact⟨(bs*2,za,za+2*bs),by dsimp only;omega,sM,OwnLe.refl _,by dsimp only;omega⟩
  ·refine AW.exit ?_
   skip
   refine⟨_,[],rfl,zsb,rfl,rfl⟩
theorem sortStableP_spec(F:Frz){a0:Option Addr}{m c:Nat}{xs:List NPack}(hv:Arr tNPack F a0 m c xs)(hs:PSorted xs)(hm:m≤1000000) :
  Abs.Spec CC 106 [.slice a0 m c,.func (.func 107) ⟨[]⟩ ⟨[]⟩] F [] fun F' v o=>o=[]∧v=.tuple ⟨[]⟩:=by
 refine Abs.Spec.fn (n:=9) Tryz.func106 rfl rfl fun own=>?_
 refine zC4 ?_
 refine WT.callV Tryz.func125 Z Z Z Z Z Z (stableP_spec _ hv hs hm) (fun v hv'=>?_)
 refine zC4 ?_
 refine⟨_,[],rfl,zsb,rfl,rfl⟩
inductive Reachable(g:Gram)(w:List Nat)(E:List (List Nat))(root:Key):Key→Prop
 | root:Reachable g w E root root
 | kid {k q:Key} {p:KPack}:Reachable g w E root k→p∈packsOf g w E k→q∈p.kids→Reachable g w E root q
def GoodKey(g:Gram)(w:List Nat)(k:Key):Prop:=SymOk g.terms g.nons k.sym∧k.frm≤w.length∧k.to≤w.length
theorem splits_mem{w:List Nat}{E:List (List Nat)}{to:Nat}:∀{l:List Sym} {i:Nat} {ks:List Key},ks∈splits w E to l i→i≤w.length→to≤w.length→∀q∈ks,q.sym∈l∧q.frm≤w.length∧q.to≤w.length
 | [],i,ks,h,_,_,q,hq=>by
  unfold splits at h
  split at h
  ·rw[List.mem_singleton.1 h] at hq;cases hq
  ·cases h
 | s::l,i,ks,h,hi,hto,q,hq=>by
  unfold splits at h
  obtain⟨m,hm1,hm⟩:=List.mem_flatMap.1 h
  have hm1:=List.mem_range.1 hm1
  split at hm
  ·obtain⟨ks',h2,rfl⟩:=List.mem_map.1 hm
   rcases List.mem_cons.1 hq with rfl | hq
   ·exact⟨List.mem_cons_self ..,hi,by show m≤_;omega⟩
   ·have:=splits_mem h2 zo hto q hq
    exact⟨List.mem_cons_of_mem _ this.1,this.2⟩
  ·cases hm
theorem mem_packsOf{g:Gram}{w:List Nat}{E:List (List Nat)}{k:Key}{p:KPack}:p∈packsOf g w E k↔∃r,g.rules[p.rule]?=some r∧r.left=k.sym.n∧k.sym.term=false∧p.kids∈splits w E k.to r.right k.frm:=by
 unfold packsOf
 rw[List.mem_flatMap]
 constructor
 ·rintro⟨i,hi,hp⟩
  unfold packsAt at hp
  split at hp
  ·rename_i r hr
   split at hp
   ·rename_i hc
    obtain⟨ks,hks,rfl⟩:=List.mem_map.1 hp
    exact⟨r,hr,hc.1,hc.2,hks⟩
   ·cases hp
  ·cases hp
 ·rintro⟨r,hr,h1,h2,h3⟩
  refine⟨p.rule,List.mem_range.2 (gS hr).1,?_⟩
  unfold packsAt
  rw[hr]
  simp only
  rw[if_pos ⟨h1,h2⟩]
  exact List.mem_map.2 ⟨p.kids,h3,by cases p;rfl⟩
theorem good_kid{g:Gram}(hg:Valid g){w:List Nat}{E:List (List Nat)}{k q:Key}{p:KPack}(hk:GoodKey g w k)(hp:p∈packsOf g w E k)(hq:q∈p.kids):GoodKey g w q:=by
 obtain⟨r,hr,_,_,h3⟩:=mem_packsOf.1 hp
 obtain⟨h4,h5,h6⟩:=splits_mem h3 hk.2.1 hk.2.2 q hq
 exact⟨(hg.right r (gM hr)).2.2 _ h4,h5,h6⟩
theorem Reachable.good{g:Gram}(hg:Valid g){w:List Nat}{E:List (List Nat)}{root k:Key}(h:Reachable g w E root k)(hr:GoodKey g w root):GoodKey g w k:=by
 induction h with
 | root=>exact hr
 | kid _ hp hq ih=>exact good_kid hg ih hp hq
def keyCode(k:Key):Nat:=(if k.sym.term=true then 100 else 0)*961+k.sym.n*961+k.frm*31+k.to
theorem good_few{g:Gram}(hg:Valid g){w:List Nat}(hw:w.length≤30){L:List Key}(hL:∀k∈L,GoodKey g w k)(hn:L.Nodup):L.length≤200000:=by
 have hgr:=hg.range
 have bd:∀k∈L,k.sym.n<10∧k.frm≤30∧k.to≤30:=fun k hk=>by
  obtain⟨h1,h2,h3⟩:=hL k hk
  unfold SymOk at h1
  have:=hgr.terms
  have:=hgr.nons
  split at h1<;>exact⟨by omega,by omega,by omega⟩
 have h:=nodup_lt 200000 (L.map keyCode) ?_ ?_
 ·rwa [List.length_map] at h
 ·rw[List.nodup_iff_pairwise_ne,List.pairwise_map]
  refine(List.nodup_iff_pairwise_ne.1 hn).imp_of_mem ?_
  intro a b ha hb hne he
  apply hne
  have h1:=bd a ha
  have h2:=bd b hb
  obtain⟨⟨at_,an⟩,af,ao⟩:=a
  obtain⟨⟨bt,bn⟩,bf,bo⟩:=b
  unfold keyCode at he
  simp only at he h1 h2
  simp only[Key.mk.injEq,Sym.mk.injEq]
  cases at_<;>cases bt<;>simp at he ⊢<;>omega
 ·intro x hx
  obtain⟨k,hk,rfl⟩:=List.mem_map.1 hx
  have h1:=bd k hk
  unfold keyCode
  split<;>omega
inductive KLt:List Key→List Key→Prop
 | here {a b:Key} {l m:List Key}:a.sym=b.sym→a.frm=b.frm→a.to<b.to→KLt (a::l) (b::m)
 | next {a:Key} {l m:List Key}:KLt l m→KLt (a::l) (a::m)
theorem splits_sorted{w:List Nat}{E:List (List Nat)}{to:Nat}:∀(l:List Sym) (i:Nat),(splits w E to l i).Pairwise KLt
 | [],i=>by unfold splits;split<;>simp
 | s::l,i=>by
  unfold splits
  rw[List.pairwise_flatMap]
  constructor
  ·intro m _
   split
   ·rw[List.pairwise_map]
    exact(splits_sorted l m).imp .next
   ·exact .nil
  ·refine List.pairwise_lt_range.imp ?_
   intro m m' hm x hx y hy
   split at hx
   ·split at hy
    ·obtain⟨x',_,rfl⟩:=List.mem_map.1 hx
     obtain⟨y',_,rfl⟩:=List.mem_map.1 hy
     exact .here rfl rfl hm
    ·cases hy
   ·cases hx
def PLt(p q:KPack):Prop:=p.rule<q.rule∨(p.rule=q.rule∧KLt p.kids q.kids)
theorem packs_sorted(g:Gram)(w:List Nat)(E:List (List Nat))(k:Key):(packsOf g w E k).Pairwise PLt:=by
 unfold packsOf
 rw[List.pairwise_flatMap]
 constructor
 ·intro i _
  unfold packsAt
  split
  ·split
   ·rw[List.pairwise_map]
    exact(splits_sorted _ _).imp fun h=>.inr ⟨rfl,h⟩
   ·exact .nil
  ·exact .nil
 ·refine List.pairwise_lt_range.imp ?_
  intro i j hij x hx y hy
  have at_:∀{i:Nat} {x:KPack},x∈packsAt g w E k i→x.rule=i:=by
   intro i x hx
   unfold packsAt at hx
   split at hx
   ·split at hx
    ·obtain⟨_,_,rfl⟩:=List.mem_map.1 hx;rfl
    ·cases hx
   ·cases hx
  left
  rw[at_ hx,at_ hy];exact hij
structure Node where
 key:Key
 packs:List NPack
def tNode:Ty Node where
 size:=5
 rel:=fun F l x=>∃a n c,l=[.bool x.key.sym.term,.int .i64 x.key.sym.n,.int .i64 x.key.frm,.int .i64 x.key.to,.slice a n c]∧Arr tNPack F a n c x.packs
 len:=fun _ _ _ h=>by obtain⟨a,n,c,rfl,_⟩:=h;rfl
 one:=fun _ _ _ h=>by obtain⟨a,n,c,rfl,_⟩:=h;rfl
 mono:=fun _ _ _ _ hF h=>by obtain⟨a,n,c,e,h⟩:=h;exact⟨a,n,c,e,h.mono hF⟩
def place(S:List Key)(k:Key):Nat:=S.idxOf k
def numPack(S:List Key)(p:KPack):NPack:=⟨p.rule,p.kids.map (place S)⟩
def mkNode(g:Gram)(w:List Nat)(E:List (List Nat))(S:List Key)(k:Key):Node:=⟨k,(packsOf g w E k).map (numPack S)⟩
theorem place_at{S:List Key}{k:Key}(h:k∈S):S[place S k]?=some k:=by
 unfold place
 rw[gE (List.idxOf_lt_length_of_mem h),List.getElem_idxOf]
theorem place_of{S:List Key}(hn:S.Nodup){k:Key}{i:Nat}(h:S[i]?=some k):place S k=i:=by
 have h1:=place_at (gM h)
 obtain⟨h2,h3⟩:=gS h
 obtain⟨h4,h5⟩:=gS h1
 rcases Nat.lt_trichotomy (place S k) i with h6 | h6 | h6
 ·exact absurd (h5.trans h3.symm) (List.pairwise_iff_getElem.1 (List.nodup_iff_pairwise_ne.1 hn) _ _ h4 h2 h6)
 ·exact h6
 ·exact absurd (h3.trans h5.symm) (List.pairwise_iff_getElem.1 (List.nodup_iff_pairwise_ne.1 hn) _ _ h2 h4 h6)
theorem place_lt{S:List Key}(hs:S.Pairwise (fun x y=>ltKey x y=true)){a b:Key}(ha:a∈S)(hb:b∈S)(h:ltKey a b=true):place S a<place S b:=by
 have h1:=place_at ha
 have h2:=place_at hb
 obtain⟨h3,h4⟩:=gS h1
 obtain⟨h5,h6⟩:=gS h2
 rcases Nat.lt_trichotomy (place S a) (place S b) with h7 | h7 | h7
 ·exact h7
 ·have:a=b:=by rw[←h4,←h6];simp only[h7]
  subst this
  rw[ltKey_swo.irrefl] at h;cases h
 ·have:=List.pairwise_iff_getElem.1 hs _ _ h5 h3 h7
  rw[h4,h6] at this
  have h8:=ltKey_swo.trans _ _ _ h this
  rw[ltKey_swo.irrefl] at h8;cases h8
theorem klt_cmp{S:List Key}(hs:S.Pairwise (fun x y=>ltKey x y=true)):∀{l m:List Key},KLt l m→(∀q∈l,q∈S)→(∀q∈m,q∈S)→0<cmpNats (m.map (place S)) (l.map (place S))∧cmpNats (l.map (place S)) (m.map (place S))<0:=by
 intro l m h
 induction h with
 | @here a b l m h1 h2 h3=>
  intro hl hm
  have hlt:place S a<place S b:=place_lt hs (hl a me) (hm b me) (by rw[ltKey_iff];right;exact⟨h2,.inl h3⟩)
  simp only[List.map_cons,cmpNats]
  have e1:cmpInt (place S b:Nat) (place S a:Nat)=1:=by unfold cmpInt;rw[if_neg zo,if_pos zo]
  have e2:cmpInt (place S a:Nat) (place S b:Nat)=-1:=by unfold cmpInt;rw[if_pos zo]
  rw[e1,e2];simp
 | @next a l m _ ih=>
  intro hl hm
  have e:cmpInt (place S a:Nat) (place S a:Nat)=0:=by unfold cmpInt;rw[if_neg zo,if_neg zo]
  simp only[List.map_cons,cmpNats,e,if_true]
  exact ih (fun q hq=>hl q (List.mem_cons_of_mem _ hq)) (fun q hq=>hm q (List.mem_cons_of_mem _ hq))
structure Keys(g:Gram)(w:List Nat)(E:List (List Nat))(root:Key)(S:List Key):Prop where
 sorted:S.Pairwise (fun x y=>ltKey x y=true)
 reach:∀k∈S,Reachable g w E root k
 first:root∈S
 closed:∀k∈S,∀p∈packsOf g w E k,∀q∈p.kids,q∈S
theorem Keys.nodup{g:Gram}{w:List Nat}{E:List (List Nat)}{root:Key}{S:List Key}(h:Keys g w E root S):S.Nodup:=by
 rw[List.nodup_iff_pairwise_ne]
 refine h.sorted.imp ?_
 rintro a b hab rfl
 rw[ltKey_swo.irrefl] at hab;cases hab
theorem Keys.all{g:Gram}{w:List Nat}{E:List (List Nat)}{root:Key}{S:List Key}(h:Keys g w E root S){k:Key}(hk:Reachable g w E root k):k∈S:=by
 induction hk with
 | root=>exact h.first
 | kid _ hp hq ih=>exact h.closed _ ih _ hp _ hq
theorem plt_cmp{S:List Key}(hs:S.Pairwise (fun x y=>ltKey x y=true)){p q:KPack}(h:PLt p q)(hp:∀x∈p.kids,x∈S)(hq:∀x∈q.kids,x∈S):0<cmpNPack (numPack S q) (numPack S p)∧cmpNPack (numPack S p) (numPack S q)<0:=by
 unfold cmpNPack numPack
 simp only[orInt]
 rcases h with h | ⟨h1,h2⟩
 ·have e1:cmpInt (q.rule:Nat) (p.rule:Nat)=1:=by unfold cmpInt;rw[if_neg zo,if_pos zo]
  have e2:cmpInt (p.rule:Nat) (q.rule:Nat)=-1:=by unfold cmpInt;rw[if_pos zo]
  rw[e1,e2];simp
 ·have e1:cmpInt (q.rule:Nat) (p.rule:Nat)=0:=by unfold cmpInt;rw[if_neg zo,if_neg zo]
  have e2:cmpInt (p.rule:Nat) (q.rule:Nat)=0:=by unfold cmpInt;rw[if_neg zo,if_neg zo]
  obtain⟨h3,h4⟩:=klt_cmp hs h2 hp hq
  simp only[e1,e2,if_true]
  rw[if_neg zo,if_neg zo]
  exact⟨h3,h4⟩
theorem node_sorted{g:Gram}{w:List Nat}{E:List (List Nat)}{root:Key}{S:List Key}(h:Keys g w E root S){k:Key}(hk:k∈S):((packsOf g w E k).map (numPack S)).Pairwise fun x y=>0<cmpNPack y x∧cmpNPack x y<0:=by
 rw[List.pairwise_map]
 refine(packs_sorted g w E k).imp_of_mem ?_
 intro a b ha hb hab
 exact plt_cmp h.sorted hab (fun x hx=>h.closed k hk a ha x hx) (fun x hx=>h.closed k hk b hb x hx)
theorem node_psorted{g:Gram}{w:List Nat}{E:List (List Nat)}{root:Key}{S:List Key}(h:Keys g w E root S){k:Key}(hk:k∈S):PSorted ((packsOf g w E k).map (numPack S)):=by
 intro i j x y hij hx hy
 obtain⟨h1,h2⟩:=gS hx
 obtain⟨h3,h4⟩:=gS hy
 have:=List.pairwise_iff_getElem.1 (node_sorted h hk) i j h1 h3 hij
 rw[h2,h4] at this
 omega
theorem kkey_eq(x y:Key):(((x.sym.term==y.sym.term)&&(((x.sym.n:Int)==(y.sym.n:Int))&&true))&&(((x.frm:Int)==(y.frm:Int))&&(((x.to:Int)==(y.to:Int))&&true)))=decide (x=y):=by
 rw[Bool.eq_iff_iff]
 obtain⟨⟨xt,xn⟩,xf,xo⟩:=x
 obtain⟨⟨yt,yn⟩,yf,yo⟩:=y
 simp only[Bool.and_eq_true,beq_iff_eq,decide_eq_true_eq,Key.mk.injEq,Sym.mk.injEq,and_true]
 constructor
 ·rintro⟨⟨rfl,h1⟩,h2,h3⟩;exact⟨⟨rfl,by omega⟩,by omega,by omega⟩
 ·rintro⟨⟨rfl,rfl⟩,rfl,rfl⟩;exact⟨⟨rfl,rfl⟩,rfl,rfl⟩
noncomputable def keyK:KeyTy CC 86 Key where
 key:=fun x=>.agg ⟨[.bool x.sym.term,.int .i64 x.sym.n,.int .i64 x.frm,.int .i64 x.to]⟩
 ok:=fun p=>keyT_ok hT 8 _ _ rfl
 eq:=fun p q=>by
  have h:eqA CC 8 86 (.agg ⟨[.bool p.sym.term,.int .i64 p.sym.n,.int .i64 p.frm,.int .i64 p.to]⟩) (.agg ⟨[.bool q.sym.term,.int .i64 q.sym.n,.int .i64 q.frm,.int .i64 q.to]⟩)=some (decide (p=q)):=by
   rw[←kkey_eq]
   exact eqT_ok hT 8 _ _ _ _ rfl
  by_cases e:p=q
  ·exact .inl ⟨e,by rw[h];simp[e]⟩
  ·exact .inr ⟨e,by rw[h];simp[e]⟩
def packSum(g:Gram)(w:List Nat)(E:List (List Nat))(L:List Key):Nat:=(L.map fun k=>(packsOf g w E k).length).sum
structure IS where
 L:List Key
 a:Option Addr
 c:Nat
 B:List (Nat×Blk)
 se:Ents Key
structure KS where
 a:Option Addr
 n:Nat
 c:Nat
 B:List (Nat×Blk)
structure BS where
 i:Nat
 L:List Key
 a:Option Addr
 c:Nat
 B:List (Nat×Blk)
 pe:Ents Key
 se:Ents Key
 cnt:Nat
structure LInv(g:Gram)(w:List Nat)(E:List (List Nat))(root:Key)(L:List Key)(se:Ents Key):Prop where
 nd:L.Nodup
 first:root∈L
 reach:∀k∈L,Reachable g w E root k
 seen:∀k,Abs.look se k=if k∈L then some (.bool true) else none
structure BInv(g:Gram)(w:List Nat)(E:List (List Nat))(root:Key)(F:Frz)(s:BS):Prop where
 l:LInv g w E root s.L s.se
 packs:∀j k,j<s.i→s.L[j]?=some k→∃a n c,Abs.look s.pe k=some (.slice a n c)∧Arr tKPack F a n c (packsOf g w E k)
 closed:∀j k,j<s.i→s.L[j]?=some k→∀p∈packsOf g w E k,∀q∈p.kids,q∈s.L
 cnt:s.cnt=packSum g w E (s.L.take s.i)
 le:s.i≤s.L.length
theorem BInv.mono{g:Gram}{w:List Nat}{E:List (List Nat)}{root:Key}{F G:Frz}{s:BS}(h:BInv g w E root F s)(hF:Frz.le F G):BInv g w E root G s:=
 ⟨h.l,fun j k h1 h2=>by obtain⟨a,n,c,h3,h4⟩:=h.packs j k h1 h2;exact⟨a,n,c,h3,h4.mono hF⟩,h.closed,h.cnt,h.le⟩
theorem LInv.add{g:Gram}{w:List Nat}{E:List (List Nat)}{root:Key}{L:List Key}{se:Ents Key}(h:LInv g w E root L se){k:Key}(hk:k∉L)(hr:Reachable g w E root k):LInv g w E root (L++[k]) (mset se k (.bool true)) where
 nd:=by
  rw[List.nodup_append]
  exact⟨h.nd,by simp,fun a ha b hb e=>by rw[List.mem_singleton.1 hb] at e;exact hk (e▸ha)⟩
 first:=List.mem_append_left _ h.first
 reach:=fun q hq=>by
  rcases List.mem_append.1 hq with hq | hq
  ·exact h.reach q hq
  ·rw[List.mem_singleton.1 hq];exact hr
 seen:=fun q=>by
  rw[Abs.look_mset,h.seen]
  by_cases e:q=k
  ·subst e;simp
  ·simp[e]
theorem packsOf_len{g:Gram}(hg:Valid g){w:List Nat}{E:List (List Nat)}{k:Key}(hk:k.to≤30):(packsOf g w E k).length≤32*923521:=by
 unfold packsOf
 have:=flat_len (packsAt g w E k) 923521 (List.range g.rules.length) fun i _=>packsAt_len (fun r hr=>(hg.right r hr).2.1) hk i
 rw[List.length_range] at this
 exact Nat.le_trans this (Nat.mul_le_mul_right _ (hg.range.rules))
theorem packsOf_len12{g:Gram}(hg:Valid g){w:List Nat}{E:List (List Nat)}{k:Key}(hk:k.to≤12):(packsOf g w E k).length≤913952:=by
 unfold packsOf
 have:=flat_len (packsAt g w E k) 28561 (List.range g.rules.length) fun i _=>by
  unfold packsAt
  split
  ·rename_i r hr
   split
   ·rw[List.length_map]
    have h1:=splits_len (w:=w) (E:=E) (to:=k.to) (l:=r.right) (i:=k.frm)
    have h2:(k.to+1) ^ r.right.length≤13 ^ 4:=Nat.le_trans (Nat.pow_le_pow_left zo _) (Nat.pow_le_pow_right (by decide) (hg.right r (gM hr)).2.1)
    have h3:13 ^ 4=28561:=by decide
    omega
   ·simp
  ·simp
 rw[List.length_range] at this
 exact Nat.le_trans this (Nat.le_trans (Nat.mul_le_mul_right _ (hg.range.rules)) (by decide))
theorem packSum_take{g:Gram}{w:List Nat}{E:List (List Nat)}{L:List Key}{i:Nat}{k:Key}(h:L[i]?=some k):packSum g w E (L.take (i+1))=packSum g w E (L.take i)+(packsOf g w E k).length:=by
 unfold packSum
 rw[List.take_add_one,h]
 simp
theorem packSum_le{g:Gram}(hg:Valid g){w:List Nat}{E:List (List Nat)}:∀(L:List Key),(∀k∈L,k.to≤30)→packSum g w E L≤L.length*(32*923521)
 | [],_=>by simp[packSum]
 | k::L,h=>by
  have h1:=packSum_le hg (E:=E) (w:=w) L fun k hk=>h k (List.mem_cons_of_mem _ hk)
  have h2:=packsOf_len hg (E:=E) (w:=w) (h k me)
  unfold packSum at h1 ⊢
  rw[List.map_cons,List.sum_cons,List.length_cons,Nat.add_mul,Nat.one_mul]
  omega
def BuildRes(g:Gram)(w:List Nat)(E:List (List Nat))(root:Key)(most:Nat)(F:Frz)(v:Value):Prop:=
 (∃S a n c,v=.tuple ⟨[.agg ⟨[.slice a n c,.int .i64 (place S root:Nat)]⟩,.bool true]⟩∧Keys g w E root S∧Arr tNode F a n c (S.map (mkNode g w E S))∧packSum g w E S≤most)∨
 (v=.tuple ⟨[.agg ⟨[.slice none 0 0,.int .i64 0]⟩,.bool false]⟩∧∃L:List Key,L.Nodup∧(∀k∈L,Reachable g w E root k)∧most<packSum g w E L)
theorem build_spec(F:Frz)(hL:Laid F)(g:Gram)(hg:Valid g){ga:Option Addr}{gm gc:Nat}(hr:Arr tRule F ga gm gc g.rules){b:Option Addr}{n d:Nat}{w:List Nat}(hw:Arr tNat F b n d w)(hw12:w.length≤12)
  {a:Option Addr} {m c:Nat} {E:List (List Nat)} (hE:Arr (tList tU32) F a m c E) (hE2:EndsOk g.nons w.length E) (most:Nat) (hmost:most≤4611686018427387904) :
  Abs.Spec CC 75 [.agg ⟨gramCells g ga gm gc⟩,.slice b n d,.slice a m c,.int .i64 most] F [] fun F' v o=>o=[]∧
   ((stepB w E ⟨false,g.start⟩ 0 w.length=false∧v=.tuple ⟨[.agg ⟨[.slice none 0 0,.int .i64 (-1)]⟩,.bool true]⟩)∨
    (stepB w E ⟨false,g.start⟩ 0 w.length=true∧BuildRes g w E ⟨⟨false,g.start⟩,0,w.length⟩ most F' v)):=by
 unfold gramCells
 have hw1:w.length≤30:=by omega
 have hrl:=hr.len
 have hwl:=hw.len
 subst hwl
 have hgr:=hg.range
 have hgs:=hgr.start
 have hEl:=hE2.size
 refine Abs.Spec.fn (n:=187) Tryz.func75 rfl rfl fun own=>?_
 refine AW.seq (AW.reg ?_)
 refine WT.boxT Z Z Z Z Z Z (fun i4 hi4=>?_)
 refine WT.allocT hT Z Z Z Z Z Z (fun i8 hi8=>?_)
 refine zB4 ?_
 refine WT.callV Tryz.func41 Z Z Z Z Z Z (gN_spec _ _) (fun v hv=>?_)
 subst hv
 refine zB4 ?_
 refine WT.allocT hT Z Z Z Z Z Z (fun i10 hi10=>?_)
 refine zB4 ?_
 refine WT.idxL hT hE Z Z Z Z Z Z Z Z Z zo (fun row hrow b1 off ro cs lx hb1 hp1 hrel=>?_)
 obtain⟨a2,n2,c2,rfl,hrow2⟩:=hrel
 have hrwl:=hE2.row row (gM hrow)
 refine zB4 ?_
 refine WT.idxL (j:=0) hT hrow2 Z Z Z Z Z Z Z Z Z zo (fun x hx b3 off3 ro3 cs3 lx3 hb3 hp3 hrel3=>?_)
 obtain rfl:lx3=_:=hrel3
 have hxb:=hE2.bit row (gM hrow) x (gM hx)
 have pwl:2 ^ (w.length+1)≤4294967296:=Nat.pow_le_pow_right (j:=32) (by decide) zo
 have hstep:stepB w E ⟨false,g.start⟩ 0 w.length=x.testBit w.length:=by
  unfold stepB
  simp only[hrow,hx]
  simp
 refine zB4 ?_
 refine WT.shr32 (x:=x) (y:=w.length) Z Z Z Z Z Z zo ?_
 refine WT.and32 (x:=x / 2 ^ w.length) (y:=1) Z Z Z Z Z Z (Nat.lt_of_le_of_lt (Nat.div_le_self _ _) zo) (by decide) ?_
 rw[shift_bit,←hstep]
 refine zB4 ?_
 refine AW.cond Z (fun h=>?_) (fun h=>?_)
 ·have h0:stepB w E ⟨false,g.start⟩ 0 w.length=false:=by
   cases e:stepB w E ⟨false,g.start⟩ 0 w.length with
   | false=>rfl
   | true=>rw[e] at h;simp at h
  refine zB4 ?_
  exact AW.ret ⟨_,[],⟨_,_,⟨_,rfl,fun G h0 s0=>loadA_cells (s0.has (p:=1) rfl me) (readT_ok hT rfl)⟩,⟨_,_,rfl,rfl,rfl⟩,rfl⟩,zsb,rfl,.inl ⟨h0,rfl⟩⟩
 ·have h1:stepB w E ⟨false,g.start⟩ 0 w.length=true:=by
   cases e:stepB w E ⟨false,g.start⟩ 0 w.length with
   | false=>rw[e] at h;simp at h
   | true=>rfl
  have hroot:GoodKey g w ⟨⟨false,g.start⟩,0,w.length⟩:=⟨by unfold SymOk;simpa using hgs,Nat.zero_le _,Nat.le_refl _⟩
  generalize hrt:(⟨⟨false,g.start⟩,0,w.length⟩:Key)=root at hroot ⊢
  refine zB4 ?_
  refine WT.makeMap Z Z Z Z (fun im him=>?_)
  refine zB4 ?_
  refine WT.buildT hT Z Z Z Z Z Z Z Z Z Z Z Z Z Z (fun il hil=>?_)
  refine zB4 ?_
  refine WT.makeMap Z Z Z Z (fun is his=>?_)
  refine zB4 ?_
  refine WT.mapIns keyK (key:=⟨⟨false,g.start⟩,0,w.length⟩) (m:=[]) hT 0 0 Z Z Z Z Z Z Z Z Z Z Z Z ?_
  refine zB4 ?_
  refine AW.block ?_
  refine AW.loopR (S:=BS) (fun s=>[(12,.slice s.a s.L.length s.c),(14,.int .i64 (s.cnt:Nat)),(15,.int .i64 (s.i:Nat))])
   (fun s=>[(is,.map (entsV keyK s.se))]::s.B::[(im,.map (entsV keyK s.pe))]::[(i10,.cells false [.bool false,.int .i64 g.start,.int .i64 0,.int .i64 w.length])]::[(i8,.cells false [.slice none 0 0,.int .i64 0])]::[(i4,.cells false [.int .i64 g.terms,.int .i64 g.nons,.int .i64 g.start,.slice ga gm gc])]::own)
   (fun s G=>Bld tKey G s.a s.L.length s.c s.B s.L∧BInv g w E root G s∧s.cnt≤most) (fun s=>200001-s.i) ⟨0,[root],some ⟨il,0,none⟩,4,[(il,.cells false [.bool false,.int .i64 g.start,.int .i64 0,.int .i64 w.length])],[],mset [] root (.bool true),0⟩
   sM (OwnLe.flat (by rw[←hrt];exact List.Perm.refl _)) ⟨⟨rfl,.inr ⟨il,_,rfl,rfl,rfl,Cells.single (R:=tKey) (x:=root) (by rw[←hrt];rfl),by decide⟩⟩,?_⟩ ?_
  ·refine⟨⟨⟨by simp,List.mem_singleton.2 rfl,fun k hk=>by rw[List.mem_singleton.1 hk];exact .root,fun k=>?_⟩,fun j k hj _=>absurd hj (Nat.not_lt_zero _),fun j k hj _=>absurd hj (Nat.not_lt_zero _),rfl,Nat.zero_le _⟩,Nat.zero_le _⟩
   show Abs.look (mset [] root (.bool true)) k=_
   rw[Abs.look_mset]
   simp[Abs.look]
  ·intro s F1 hF1 hP
   obtain⟨hb,hI,hlim⟩:=hP
   have hgood:∀k∈s.L,GoodKey g w k:=fun k hk=>(hI.l.reach k hk).good hg hroot
   have hfew:=good_few hg hw1 hgood hI.l.nd
   have hr1:=hr.mono hF1
   have hw1':=hw.mono hF1
   have hE1:=hE.mono hF1
   have hL1:=hL.mono hF1
   refine zB8 ?_
   refine AW.cond Z (fun h2=>?_) (fun h2=>?_)
   ·have h2:s.i<s.L.length:=by simpa using h2
    obtain⟨k,hk⟩:∃k,s.L[s.i]?=some k:=⟨_,gE h2⟩
    have hkg:=hgood k (gM hk)
    have hkr:=hI.l.reach k (gM hk)
    have hpl:=packsOf_len hg (E:=E) (w:=w) (show k.to≤30 by have:=hkg.2.2;omega)
    have hsum:=packSum_le hg (E:=E) (w:=w) (s.L.take s.i) (fun q hq=>by have:=(hgood q (List.mem_of_mem_take hq)).2.2;omega)
    rw[List.length_take,←hI.cnt] at hsum
    have hcnt:s.cnt≤200000*29552672:=Nat.le_trans hsum (Nat.mul_le_mul zo (by decide))
    refine zB8 ?_
    refine AW.block ?_
    refine zB8 ?_
    refine WT.vidx hT hb.vec Z Z Z Z Z Z Z Z Z zo (fun b5 hb5=>?_)
    refine WT.vldS hT 1 hb.vec hb5 hk Z Z Z Z Z Z Z Z Z (fun l5 hl5=>?_)
    obtain rfl:l5=_:=hl5
    refine WT.callF0 Tryz.func66 Z Z Z Z Z Z (packs_spec _ hL1 g hg hr1 hw1' hw1 hE1 hE2 k hkg.2.1 (by have:=hkg.2.2;omega)) (fun F2 v hF2 hv=>?_)
    obtain⟨pa,pn,pc,rfl,hpk⟩:=hv
    have hpkl:=hpk.len
    have hb2:=hb.mono hF2
    have hI2:=hI.mono hF2
    refine zB8 ?_
    refine AW.cond Z (fun h3=>?_) (fun h3=>?_)
    ·have h3:most<s.cnt+pn:=by simp at h3;omega
     refine zB8 ?_
     refine AW.ret ⟨_,[],⟨_,_,⟨_,rfl,fun G h0 s0=>loadA_cells (s0.has (p:=4) Z me) (readT_ok hT rfl)⟩,⟨_,_,rfl,rfl,rfl⟩,rfl⟩,zsb,rfl,.inr ⟨h1,.inr ⟨rfl,s.L.take (s.i+1),?_,fun q hq=>hI.l.reach q (List.mem_of_mem_take hq),?_⟩⟩⟩
     ·exact(hI.l.nd).sublist (List.take_sublist ..)
     ·rw[packSum_take hk,←hI.cnt,←hpkl];exact h3
    ·have h3:s.cnt+pn≤most:=by simp at h3;omega
     refine zB8 ?_
     refine WT.vidx hT hb2.vec Z Z Z Z Z Z Z Z Z zo (fun b6 hb6=>?_)
     refine WT.vldS hT 1 hb2.vec hb6 hk Z Z Z Z Z Z Z Z Z (fun l6 hl6=>?_)
     obtain rfl:l6=_:=hl6
     refine zB8 ?_
     refine WT.mapSet keyK (key:=k) hT 2 0 Z Z Z Z Z Z Z Z Z Z Z Z ?_
     refine zB8 ?_
     refine AW.range (S:=IS) (fun u=>[(12,.slice u.a u.L.length u.c)]) (fun u=>[(is,.map (entsV keyK u.se))]::u.B::[(im,.map (entsV keyK (mset s.pe k (.slice pa pn pc))))]::[(i10,.cells false [.bool false,.int .i64 g.start,.int .i64 0,.int .i64 w.length])]::[(i8,.cells false [.slice none 0 0,.int .i64 0])]::[(i4,.cells false [.int .i64 g.terms,.int .i64 g.nons,.int .i64 g.start,.slice ga gm gc])]::own)
      (fun j u G=>Bld tKey G u.a u.L.length u.c u.B u.L∧LInv g w E root u.L u.se∧(∃x,u.L=s.L++x)∧∀p∈(packsOf g w E k).take j,∀q∈p.kids,q∈u.L) pn ⟨s.L,s.a,s.c,s.B,s.se⟩
      Z Z Z Z Z Z Z Z Z zo rfl rfl (fun _=>rfl) (fun _=>rfl) sM oR ⟨hb2,hI.l,⟨[],by simp⟩,by simp⟩ ?_ ?_
     ·intro j u F3 hF3 hj hP3
      obtain⟨hb3,hl3,hx3,hc3⟩:=hP3
      have hpk3:=hpk.mono hF3
      refine zB9 ?_
      refine WT.idxL hT hpk3 Z Z Z Z Z Z Z Z Z zo (fun p hpj b7 off7 ro7 cs7 lx7 hb7 hp7 hrel7=>?_)
      obtain⟨ka,kn,kc,rfl,hka⟩:=hrel7
      have hkal:=hka.len
      have hpm:=gM hpj
      have hkl4:p.kids.length≤4:=by
       obtain⟨r,hr0,_,_,h4⟩:=mem_packsOf.1 hpm
       rw[splits_kids h4]
       exact(hg.right r (gM hr0)).2.1
      refine zB9 ?_
      refine WT.allocT hT Z Z Z Z Z Z (fun i18 hi18=>?_)
      refine zB9 ?_
      refine AW.range (S:=IS) (fun u=>[(12,.slice u.a u.L.length u.c)]) (fun u=>[(i18,.cells false [.int .i64 p.rule,.slice ka kn kc])]::[(is,.map (entsV keyK u.se))]::u.B::[(im,.map (entsV keyK (mset s.pe k (.slice pa pn pc))))]::[(i10,.cells false [.bool false,.int .i64 g.start,.int .i64 0,.int .i64 w.length])]::[(i8,.cells false [.slice none 0 0,.int .i64 0])]::[(i4,.cells false [.int .i64 g.terms,.int .i64 g.nons,.int .i64 g.start,.slice ga gm gc])]::own)
       (fun q u G=>Bld tKey G u.a u.L.length u.c u.B u.L∧LInv g w E root u.L u.se∧(∃x,u.L=s.L++x)∧(∀p∈(packsOf g w E k).take j,∀q∈p.kids,q∈u.L)∧∀x∈p.kids.take q,x∈u.L) kn u
       Z Z Z Z Z Z Z Z Z zo rfl rfl (fun _=>rfl) (fun _=>rfl) sM oR ⟨hb3,hl3,hx3,hc3,by simp⟩ ?_ ?_
      ·intro q z F4 hF4 hq hP4
       obtain⟨hb4,hl4,hx4,hc4,hd4⟩:=hP4
       have hka4:=hka.mono hF4
       have hgz:∀k∈z.L,GoodKey g w k:=fun k hk=>(hl4.reach k hk).good hg hroot
       have hfz:=good_few hg hw1 hgz hl4.nd
       refine zB9 ?_
       refine WT.idxL hT hka4 Z Z Z Z Z Z Z Z Z zo (fun x hxq b8 off8 ro8 cs8 lx8 hb8 hp8 hrel8=>?_)
       obtain rfl:lx8=_:=hrel8
       have hxr:Reachable g w E root x:=.kid hkr hpm (gM hxq)
       refine zB9 ?_
       refine WT.allocT hT Z Z Z Z Z Z (fun i20 hi20=>?_)
       refine zB9 ?_
       refine WT.lookup1 keyK (key:=x) hT 2 Z Z Z Z Z Z Z me Z Z Z ?_
       refine WT.know (v':=.bool (decide (x∈z.L))) 101 Z ?_ ?_
       ·rw[hl4.seen]
        by_cases e:x∈z.L<;>simp[e]
       refine zB9 ?_
       refine AW.cond Z (fun h4=>?_) (fun h4=>?_)
       ·have h4:x∉z.L:=by simpa using h4
        refine zB9 ?_
        refine WT.mapSet keyK (key:=x) hT 2 0 Z Z Z Z Z Z Z Z Z Z Z Z ?_
        refine zB9 ?_
        refine WT.buildT hT Z Z Z Z Z Z Z Z Z Z Z Z Z Z (fun i9 hi9=>?_)
        refine WT.appendT (ys:=[x]) hT 4 hb4 Z (fun _=>rfl) Z Z Z Z Z Z Z Z Z Z Z (fun h0 s0=>news_own hT s0 0 Z Z Z Z) (Cells.single (R:=tKey) (x:=x) rfl) Z (by decide) zom (fun a5 c5 B5 hB5=>?_)
        refine zB9 ?_
        have hl1:z.L.length+1=(z.L++[x]).length:=by simp
        rw[hl1] at hB5 ⊢
        refine⟨⟨z.L++[x],a5,c5,B5,mset z.se x (.bool true)⟩,sM,OwnLe.skip _ (OwnLe.skip _ oR),hB5,hl4.add h4 hxr,?_,fun p' hp' q' hq'=>List.mem_append_left _ (hc4 p' hp' q' hq'),?_⟩
        ·obtain⟨y,hy⟩:=hx4
         exact⟨y++[x],by dsimp only;rw[hy,List.append_assoc]⟩
        ·intro x' hx'
         rw[List.take_add_one,hxq] at hx'
         rcases List.mem_append.1 hx' with hx' | hx'
         ·exact List.mem_append_left _ (hd4 x' hx')
         ·obtain rfl:=List.mem_singleton.1 hx'
          exact List.mem_append_right _ (List.mem_singleton.2 rfl)
       ·have h4:x∈z.L:=by simpa using h4
        refine zB9 ?_
        refine⟨z,sM,OwnLe.skip _ oR,hb4,hl4,hx4,hc4,?_⟩
        intro x' hx'
        rw[List.take_add_one,hxq] at hx'
        rcases List.mem_append.1 hx' with hx' | hx'
        ·exact hd4 x' hx'
        ·obtain rfl:=List.mem_singleton.1 hx'
         exact h4
      ·intro z F4 hF4 hP4
       obtain⟨hb4,hl4,hx4,hc4,hd4⟩:=hP4
       rw[List.take_of_length_le zo] at hd4
       skip
       refine⟨z,sM,zow,hb4,hl4,hx4,?_⟩
       rw[List.take_add_one,hpj]
       intro p' hp' q' hq'
       rcases List.mem_append.1 hp' with hp' | hp'
       ·exact hc4 p' hp' q' hq'
       ·obtain rfl:=List.mem_singleton.1 hp'
        exact hd4 q' hq'
     ·intro u F3 hF3 hP3
      obtain⟨hb3,hl3,⟨x3,hx3⟩,hc3⟩:=hP3
      rw[List.take_of_length_le zo] at hc3
      have hpre:∀(j:Nat) (q:Key),s.L[j]?=some q→u.L[j]?=some q:=fun j q hq=>by
       rw[hx3,List.getElem?_append_left (gS hq).1];exact hq
      have hpre2:∀(j:Nat) (q:Key),j<s.i+1→u.L[j]?=some q→s.L[j]?=some q:=fun j q hj hq=>by
       rw[hx3,List.getElem?_append_left zo] at hq;exact hq
      refine zB9 ?_
      refine⟨⟨s.i+1,u.L,u.a,u.c,u.B,mset s.pe k (.slice pa pn pc),u.se,s.cnt+pn⟩,?_,sM,OwnLe.refl _,hb3,?_⟩
      ·dsimp only;omega
      ·refine⟨⟨hl3,fun j q hj hq=>?_,fun j q hj hq=>?_,?_,?_⟩,h3⟩
       ·have hq:=hpre2 j q hj hq
        dsimp only
        rw[Abs.look_mset]
        by_cases e:q=k
        ·subst e
         exact⟨pa,pn,pc,by simp,hpk.mono hF3⟩
        ·rw[if_neg e]
         rcases Nat.lt_succ_iff_lt_or_eq.1 hj with hj | hj
         ·obtain⟨a9,n9,c9,h9,h10⟩:=hI2.packs j q hj hq
          exact⟨a9,n9,c9,h9,h10.mono hF3⟩
         ·subst hj
          rw[hk] at hq
          exact absurd (Option.some.inj hq).symm e
       ·have hq:=hpre2 j q hj hq
        intro p hp x hx
        dsimp only
        rcases Nat.lt_succ_iff_lt_or_eq.1 hj with hj | hj
        ·rw[hx3];exact List.mem_append_left _ (hI.closed j q hj hq p hp x hx)
        ·subst hj
         rw[hk] at hq
         obtain rfl:=Option.some.inj hq
         exact hc3 p hp x hx
       ·dsimp only
        have e:u.L.take (s.i+1)=s.L.take (s.i+1):=by
         rw[hx3,List.take_append_of_le_length zo]
        rw[e,packSum_take hk,←hI.cnt,←hpkl]
       ·dsimp only
        have:=(gS (hpre _ _ hk)).1
        omega
   ·have h2:s.i=s.L.length:=by
     have:=hI.le
     simp at h2;omega
    refine AW.exit ?_
    refine zB8 ?_
    refine WT.call1F 1 Tryz.func104 Z Z Z Z Z Z Z (fun _=>rfl) (kySort_spec _ (keyOrder_cmp _) hb.vec zo) (fun F2 v B2 hF2 hv=>?_)
    refine WT.freezeAll 1 Z Z (fun F3 hF3 hB3=>?_)
    have hSa:=hv.arr hF3 hB3
    obtain⟨hperm,hpw⟩:=sort_facts ltKey_swo s.L
    have hF13:=hF2.trans hF3
    generalize (Go.Sort.sort ltKey s.L.toArray).toList=S at hSa hperm hpw
    have hSl:S.length=s.L.length:=hperm.length_eq
    have hmem:∀k,k∈S↔k∈s.L:=fun k=>hperm.mem_iff
    have hK:Keys g w E root S:=by
     refine⟨?_,fun k hk=>hI.l.reach k ((hmem k).1 hk),(hmem _).2 hI.l.first,fun k hk p hp q hq=>?_⟩
     ·have hnd:S.Nodup:=hperm.nodup_iff.2 hI.l.nd
      have:=hpw.and (List.nodup_iff_pairwise_ne.1 hnd)
      refine this.imp ?_
      rintro x y ⟨h3,h4⟩
      cases h5:ltKey x y with
      | true=>rfl
      | false=>exact absurd (ltKey_anti x y h5 h3) h4
     ·obtain⟨j,hj⟩:=List.mem_iff_getElem?.1 ((hmem k).1 hk)
      have hjl:=(gS hj).1
      exact(hmem q).2 (hI.closed j k zo hj p hp q hq)
    have hpk:∀k∈S,∃a n c,Abs.look s.pe k=some (.slice a n c)∧Arr tKPack F3 a n c (packsOf g w E k):=fun k hk=>by
     obtain⟨j,hj⟩:=List.mem_iff_getElem?.1 ((hmem k).1 hk)
     have hjl:=(gS hj).1
     obtain⟨a9,n9,c9,h9,h10⟩:=hI.packs j k zo hj
     exact⟨a9,n9,c9,h9,h10.mono hF13⟩
    have hsumS:packSum g w E S≤most:=by
     have e1:packSum g w E S=packSum g w E s.L:=(hperm.map _).sum_nat
     have e2:=hI.cnt
     rw[h2,List.take_length] at e2
     omega
    refine zB8 ?_
    refine WT.makeMap Z Z Z Z (fun inn hinn=>?_)
    refine zB8 ?_
    refine AW.range (S:=Ents Key) (fun _=>[]) (fun ne=>[(inn,.map (entsV keyK ne))]::[(is,.map (entsV keyK s.se))]::[]::[(im,.map (entsV keyK s.pe))]::[(i10,.cells false [.bool false,.int .i64 g.start,.int .i64 0,.int .i64 w.length])]::[(i8,.cells false [.slice none 0 0,.int .i64 0])]::[(i4,.cells false [.int .i64 g.terms,.int .i64 g.nons,.int .i64 g.start,.slice ga gm gc])]::own)
     (fun j ne G=>∀k,Abs.look ne k=if k∈S.take j then some (.int .i64 (place S k:Nat)) else none) s.L.length []
     Z Z Z Z Z Z Z Z Z zo rfl rfl (fun _=>rfl) (fun _=>rfl) sM oR (fun k=>by simp[Abs.look]) ?_ ?_
    ·intro j ne F4 hF4 hj hne
     have hSa4:=hSa.mono hF4
     refine zB9 ?_
     refine WT.idxL hT hSa4 Z Z Z Z Z Z Z Z Z zo (fun k hkj b8 off8 ro8 cs8 lx8 hb8 hp8 hrel8=>?_)
     obtain rfl:lx8=_:=hrel8
     refine zB9 ?_
     refine WT.allocT hT Z Z Z Z Z Z (fun i23 hi23=>?_)
     refine zB9 ?_
     refine WT.mapSet keyK (key:=k) hT 1 0 Z Z Z Z Z Z Z Z Z Z Z Z ?_
     refine zB9 ?_
     refine⟨mset ne k (.int .i64 (j:Nat)),sM,OwnLe.skip _ oR,fun q=>?_⟩
     rw[Abs.look_mset,hne,List.take_add_one,hkj]
     by_cases e:q=k
     ·subst e
      rw[place_of hK.nodup hkj];simp
     ·simp[e]
    ·intro ne F4 hF4 hne
     rw[List.take_of_length_le zo] at hne
     have hSa4:=hSa.mono hF4
     have hpk4:∀k∈S,∃a n c,Abs.look s.pe k=some (.slice a n c)∧Arr tKPack F4 a n c (packsOf g w E k):=fun k hk=>by
      obtain⟨a9,n9,c9,h9,h10⟩:=hpk k hk
      exact⟨a9,n9,c9,h9,h10.mono hF4⟩
     refine zB9 ?_
     refine WT.lookup1 keyK (key:=⟨⟨false,g.start⟩,0,w.length⟩) hT 0 Z Z Z Z Z Z Z me Z Z Z ?_
     refine WT.know (v':=.int .i64 (place S root:Nat)) 127 Z (by rw[hrt,hne,if_pos hK.first];rfl) ?_
     refine zB9 ?_
     refine WT.allocT hT Z Z Z Z Z Z (fun i24 hi24=>?_)
     refine zB9 ?_
     refine AW.range (S:=KS) (fun _=>[]) (fun u=>u.B::[(i24,.cells false [.slice u.a u.n u.c,.int .i64 (place S root:Nat)])]::[(inn,.map (entsV keyK ne))]::[(is,.map (entsV keyK s.se))]::[]::[(im,.map (entsV keyK s.pe))]::[(i10,.cells false [.bool false,.int .i64 g.start,.int .i64 0,.int .i64 w.length])]::[(i8,.cells false [.slice none 0 0,.int .i64 0])]::[(i4,.cells false [.int .i64 g.terms,.int .i64 g.nons,.int .i64 g.start,.slice ga gm gc])]::own)
      (fun j u G=>Bld tNode G u.a u.n u.c u.B ((S.take j).map (mkNode g w E S))) s.L.length ⟨none,0,0,[]⟩
      Z Z Z Z Z Z Z Z Z zo rfl rfl (fun _=>rfl) (fun _=>rfl) sM (OwnLe.flat (List.Perm.refl _)) (by simpa using Bld.nil_ _ _) ?_ ?_
     ·intro j u F5 hF5 hj hu
      have hSa5:=hSa4.mono hF5
      have hul:=hu.len
      rw[List.length_map,List.length_take] at hul
      refine zB12 ?_
      refine WT.idxL hT hSa5 Z Z Z Z Z Z Z Z Z zo (fun k hkj b8 off8 ro8 cs8 lx8 hb8 hp8 hrel8=>?_)
      obtain rfl:lx8=_:=hrel8
      have hkS:=gM hkj
      obtain⟨pa,pn,pc,hlk,hpa⟩:=hpk4 k hkS
      have hpa5:=hpa.mono hF5
      have hpal:=hpa.len
      have hkg:=(hK.reach k hkS).good hg hroot
      have hpl:=packsOf_len12 hg (E:=E) (w:=w) (show k.to≤12 by have:=hkg.2.2;omega)
      refine zB12 ?_
      refine WT.allocT hT Z Z Z Z Z Z (fun i26 hi26=>?_)
      refine zB12 ?_
      refine WT.allocT hT Z Z Z Z Z Z (fun i27 hi27=>?_)
      refine zB12 ?_
      refine WT.lookup1 keyK (key:=k) hT 7 Z Z Z Z Z Z Z me Z Z Z ?_
      rw[hlk]
      refine WT.know (v':=.slice pa pn pc) 144 Z Z ?_
      refine zB12 ?_
      refine AW.range (S:=KS) (fun _=>[]) (fun z=>z.B::[(i27,.cells false [.bool k.sym.term,.int .i64 k.sym.n,.int .i64 k.frm,.int .i64 k.to,.slice z.a z.n z.c])]::[(i26,.cells false [.bool k.sym.term,.int .i64 k.sym.n,.int .i64 k.frm,.int .i64 k.to])]::u.B::[(i24,.cells false [.slice u.a u.n u.c,.int .i64 (place S root:Nat)])]::[(inn,.map (entsV keyK ne))]::[(is,.map (entsV keyK s.se))]::[]::[(im,.map (entsV keyK s.pe))]::[(i10,.cells false [.bool false,.int .i64 g.start,.int .i64 0,.int .i64 w.length])]::[(i8,.cells false [.slice none 0 0,.int .i64 0])]::[(i4,.cells false [.int .i64 g.terms,.int .i64 g.nons,.int .i64 g.start,.slice ga gm gc])]::own)
       (fun q z G=>Bld tNPack G z.a z.n z.c z.B (((packsOf g w E k).take q).map (numPack S))) pn ⟨none,0,0,[]⟩
       Z Z Z Z Z Z Z Z Z zo rfl rfl (fun _=>rfl) (fun _=>rfl) sM (OwnLe.flat (List.Perm.refl _)) (by simpa using Bld.nil_ _ _) ?_ ?_
      ·intro q z F6 hF6 hq hz
       have hpa6:=hpa5.mono hF6
       have hzl:=hz.len
       rw[List.length_map,List.length_take] at hzl
       refine zB14 ?_
       refine WT.idxL hT hpa6 Z Z Z Z Z Z Z Z Z zo (fun p hpq b9 off9 ro9 cs9 lx9 hb9 hp9 hrel9=>?_)
       obtain⟨ka,kn,kc,rfl,hka⟩:=hrel9
       have hkal:=hka.len
       have hpm:=gM hpq
       have hkl4:p.kids.length≤4:=by
        obtain⟨r,hr0,_,_,h4⟩:=mem_packsOf.1 hpm
        rw[splits_kids h4]
        exact(hg.right r (gM hr0)).2.1
       refine zB14 ?_
       refine WT.allocT hT Z Z Z Z Z Z (fun i29 hi29=>?_)
       refine zB14 ?_
       refine WT.allocT hT Z Z Z Z Z Z (fun i30 hi30=>?_)
       refine zB14 ?_
       refine AW.range (S:=KS) (fun _=>[]) (fun y=>y.B::[(i30,.cells false [.int .i64 p.rule,.slice y.a y.n y.c])]::[(i29,.cells false [.int .i64 p.rule,.slice ka kn kc])]::z.B::[(i27,.cells false [.bool k.sym.term,.int .i64 k.sym.n,.int .i64 k.frm,.int .i64 k.to,.slice z.a z.n z.c])]::[(i26,.cells false [.bool k.sym.term,.int .i64 k.sym.n,.int .i64 k.frm,.int .i64 k.to])]::u.B::[(i24,.cells false [.slice u.a u.n u.c,.int .i64 (place S root:Nat)])]::[(inn,.map (entsV keyK ne))]::[(is,.map (entsV keyK s.se))]::[]::[(im,.map (entsV keyK s.pe))]::[(i10,.cells false [.bool false,.int .i64 g.start,.int .i64 0,.int .i64 w.length])]::[(i8,.cells false [.slice none 0 0,.int .i64 0])]::[(i4,.cells false [.int .i64 g.terms,.int .i64 g.nons,.int .i64 g.start,.slice ga gm gc])]::own)
        (fun e y G=>Bld tNat G y.a y.n y.c y.B ((p.kids.take e).map (place S))) kn ⟨none,0,0,[]⟩
        Z Z Z Z Z Z Z Z Z zo rfl rfl (fun _=>rfl) (fun _=>rfl) sM (OwnLe.flat (List.Perm.refl _)) (by simpa using Bld.nil_ _ _) ?_ ?_
       ·intro e y F7 hF7 he hy
        have hka7:=hka.mono hF7
        have hyl:=hy.len
        rw[List.length_map,List.length_take] at hyl
        refine zB16 ?_
        refine WT.idxL hT hka7 Z Z Z Z Z Z Z Z Z zo (fun x hxe b10 off10 ro10 cs10 lx10 hb10 hp10 hrel10=>?_)
        obtain rfl:lx10=_:=hrel10
        have hxS:=hK.closed k hkS p hpm x (gM hxe)
        refine zB16 ?_
        refine WT.allocT hT Z Z Z Z Z Z (fun i32 hi32=>?_)
        refine zB16 ?_
        refine AW.draw (ps:=[(1,5)]) Z Z ?_
        refine zB16 ?_
        refine WT.lookup1 keyK (key:=x) hT 9 Z Z Z Z Z Z Z me Z Z Z ?_
        refine WT.know (v':=.int .i64 (place S x:Nat)) 164 Z (by rw[hne,if_pos hxS];rfl) ?_
        skip
        refine WT.buildT hT Z Z Z Z Z Z Z Z Z Z Z Z Z Z (fun i9 hi9=>?_)
        refine WT.appendT (ys:=[place S x]) hT 2 hy Z (fun _=>rfl) Z Z Z Z Z Z Z Z Z Z Z (fun h0 s0=>news_own hT s0 0 Z Z Z Z) (Cells.single (R:=tNat) (x:=place S x) rfl) Z (by decide) zom (fun a5 c5 B5 hB5=>?_)
        refine zB16 ?_
        refine⟨zrC,?_⟩
        refine⟨⟨a5,y.n+1,c5,B5⟩,sM,OwnLe.skip _ (OwnLe.skip _ oR),?_⟩
        dsimp only
        rw[List.take_add_one,hxe,List.map_append]
        exact hB5
       ·intro y F7 hF7 hy
        rw[List.take_of_length_le zo] at hy
        refine AW.freezeAll 0 Z Z (fun F8 hF8 hB8=>?_)
        have hyk:=hy.frozen hF8 hB8
        have hz8:=(hz.mono hF7).mono hF8
        refine zB16 ?_
        refine WT.buildT hT Z Z Z Z Z Z Z Z Z Z Z Z Z Z (fun i9 hi9=>?_)
        refine WT.appendT (ys:=[numPack S p]) hT 4 hz8 Z (fun _=>rfl) Z Z Z Z Z Z Z Z Z Z Z (fun h0 s0=>news_own hT s0 0 Z Z Z Z) (Cells.single (R:=tNPack) (x:=numPack S p) ⟨_,_,_,rfl,hyk,by show (p.kids.map (place S)).length≤_;rw[List.length_map];omega⟩) Z (by decide) zom (fun a5 c5 B5 hB5=>?_)
        refine zB16 ?_
        refine⟨⟨a5,z.n+1,c5,B5⟩,sM,OwnLe.skip _ (OwnLe.skip _ (OwnLe.skip _ (OwnLe.skip _ oR))),?_⟩
        dsimp only
        rw[List.take_add_one,hpq,List.map_append]
        exact hB5
      ·intro z F6 hF6 hz
       rw[List.take_of_length_le zo] at hz
       refine AW.freezeAll 0 Z Z (fun F7 hF7 hB7=>?_)
       have hzk:=hz.frozen hF7 hB7
       have hu7:=(hu.mono hF6).mono hF7
       have hzl:=hzk.len
       rw[List.length_map] at hzl
       refine zB14 ?_
       refine WT.callV Tryz.func106 Z Z Z Z Z Z (sortStableP_spec _ hzk (node_psorted hK hkS) zo) (fun v hv=>?_)
       refine zB14 ?_
       refine WT.buildT hT Z Z Z Z Z Z Z Z Z Z Z Z Z Z (fun i9 hi9=>?_)
       refine WT.appendT (ys:=[mkNode g w E S k]) hT 4 hu7 Z (fun _=>rfl) Z Z Z Z Z Z Z Z Z Z Z (fun h0 s0=>news_own hT s0 0 Z Z Z Z) (Cells.single (R:=tNode) (x:=mkNode g w E S k) ⟨_,_,_,rfl,hzk⟩) Z (by decide) zom (fun a5 c5 B5 hB5=>?_)
       refine zB14 ?_
       refine⟨⟨a5,u.n+1,c5,B5⟩,sM,OwnLe.skip _ (OwnLe.skip _ (OwnLe.skip _ (OwnLe.skip _ oR))),?_⟩
       dsimp only
       rw[List.take_add_one,hkj,List.map_append]
       exact hB5
     ·intro u F5 hF5 hu
      rw[List.take_of_length_le zo] at hu
      refine AW.freezeAll 0 Z Z (fun F6 hF6 hB6=>?_)
      have huk:=hu.frozen hF6 hB6
      refine zB14 ?_
      exact AW.ret ⟨_,[],⟨_,_,⟨_,rfl,fun G h0 s0=>loadA_cells (s0.has (p:=7) rfl me) (readT_ok hT rfl)⟩,⟨_,_,rfl,rfl,rfl⟩,rfl⟩,zsb,rfl,.inr ⟨h1,.inl ⟨S,u.a,u.n,u.c,rfl,hK,huk,hsumS⟩⟩⟩
def prodN:List Nat→Nat
 | []=>1
 | a::l=>a*prodN l
theorem prodN_le{α:Type}{f h:α→Nat}:∀(l:List α),(∀x∈l,f x≤h x)→prodN (l.map f)≤prodN (l.map h)
 | [],_=>Nat.le_refl _
 | a::l,hl=>Nat.mul_le_mul (hl a me) (prodN_le l fun x hx=>hl x (List.mem_cons_of_mem _ hx))
theorem sumN_le{α:Type}{f h:α→Nat}:∀(l:List α),(∀x∈l,f x≤h x)→(l.map f).sum≤(l.map h).sum
 | [],_=>Nat.le_refl _
 | a::l,hl=>by
  simp only[List.map_cons,List.sum_cons]
  exact Nat.add_le_add (hl a me) (sumN_le l fun x hx=>hl x (List.mem_cons_of_mem _ hx))
theorem prodN_pos{α:Type}{f:α→Nat}:∀(l:List α),(∀x∈l,1≤f x)→1≤prodN (l.map f)
 | [],_=>Nat.le_refl _
 | a::l,hl=>Nat.mul_le_mul (hl a me) (prodN_pos l fun x hx=>hl x (List.mem_cons_of_mem _ hx))
theorem prodN_app:∀(l m:List Nat),prodN (l++m)=prodN l*prodN m
 | [],m=>by simp[prodN]
 | a::l,m=>by simp only[List.cons_append,prodN,prodN_app l m,Nat.mul_assoc]
theorem prodN_zero{l:List Nat}(h:0∈l):prodN l=0:=by
 induction l with
 | nil=>cases h
 | cons a l ih=>
  rcases List.mem_cons.1 h with h | h
  ·simp[prodN,←h]
  ·simp[prodN,ih h]
theorem sumN_mem{α:Type}{f:α→Nat}:∀{l:List α} {x:α},x∈l→f x≤(l.map f).sum
 | a::l,x,h=>by
  simp only[List.map_cons,List.sum_cons]
  rcases List.mem_cons.1 h with rfl | h
  ·omega
  ·have:=sumN_mem (f:=f) h;omega
theorem prodN_ge{l:List Nat}{x:Nat}(h:x∈l)(hp:∀y∈l,1≤y):x≤prodN l:=by
 induction l with
 | nil=>cases h
 | cons a l ih=>
  have h1:1≤prodN l:=by
   have:=prodN_pos (f:=id) l fun y hy=>hp y (List.mem_cons_of_mem _ hy)
   simpa using this
  rcases List.mem_cons.1 h with rfl | h
  ·exact Nat.le_trans zo (Nat.mul_le_mul_left _ h1)
  ·have:=ih h fun y hy=>hp y (List.mem_cons_of_mem _ hy)
   have h2:=hp a me
   exact Nat.le_trans zo (Nat.mul_le_mul h2 this)
def leafN(x:Node):Nat:=if x.key.sym.term=true then 1 else 0
def packN(f:Nat→Nat)(p:NPack):Nat:=prodN (p.kids.map f)
def nodeT(Ns:List Node):Nat→Nat→Nat
 | 0,_=>0
 | d+1,v=>match Ns[v]? with
  | some x=>leafN x+(x.packs.map (packN (nodeT Ns d))).sum
  | none=>0
theorem nodeT_mono(Ns:List Node):∀(d v:Nat),nodeT Ns d v≤nodeT Ns (d+1) v
 | 0,v=>Nat.zero_le _
 | d+1,v=>by
  show nodeT Ns (d+1) v≤nodeT Ns (d+1+1) v
  unfold nodeT
  split
  ·exact Nat.add_le_add_left (sumN_le _ fun p _=>prodN_le _ fun u _=>nodeT_mono Ns d u) _
  ·exact Nat.le_refl _
theorem nodeT_le(Ns:List Node){d e:Nat}(h:d≤e)(v:Nat):nodeT Ns d v≤nodeT Ns e v:=by
 induction e with
 | zero => obtain rfl : d = 0 := by omega
           exact Nat.le_refl _
 | succ e ih=>
  rcases Nat.lt_or_ge d (e+1) with h2 | h2
  ·exact Nat.le_trans (ih zo) (nodeT_mono Ns e v)
  ·obtain rfl:d=e+1:=by omega
   exact Nat.le_refl _
def Still(T:Nat→Nat)(c:Nat):Prop:=∃D,∀d,D≤d→T d=c
theorem Still.uniq{T:Nat→Nat}{a b:Nat}(h:Still T a)(h2:Still T b):a=b:=by
 obtain⟨D,h⟩:=h
 obtain⟨D2,h2⟩:=h2
 rw[←h (max D D2) zo,h2 (max D D2) zo]
noncomputable def limN(T:Nat→Nat):Nat:=@dite _ (∃c,Still T c) (Classical.propDecidable _) (fun h=>h.choose) (fun _=>0)
theorem Still.lim{T:Nat→Nat}{c:Nat}(h:Still T c):Still T (limN T):=by
 unfold limN
 rw[dif_pos ⟨c,h⟩]
 exact(⟨c,h⟩:∃c,Still T c).choose_spec
theorem still_all{α:Type}{T:α→Nat→Nat}{c:α→Nat}:∀(l:List α),(∀x∈l,Still (T x) (c x))→∃D,∀d,D≤d→∀x∈l,T x d=c x
 | [],_=>⟨0,fun _ _ x hx=>by cases hx⟩
 | a::l,h=>by
  obtain⟨D1,h1⟩:=h a me
  obtain⟨D2,h2⟩:=still_all l fun x hx=>h x (List.mem_cons_of_mem _ hx)
  refine⟨max D1 D2,fun d hd x hx=>?_⟩
  rcases List.mem_cons.1 hx with rfl | hx
  ·exact h1 d zo
  ·exact h2 d zo x hx
def Kid(Ns:List Node)(u v:Nat):Prop:=∃x p,Ns[v]?=some x∧p∈x.packs∧u∈p.kids
theorem still_node{Ns:List Node}{v:Nat}{x:Node}(hx:Ns[v]?=some x)(c:Nat→Nat)(h:∀u,Kid Ns u v→Still (fun d=>nodeT Ns d u) (c u)) :
  Still (fun d=>nodeT Ns d v) (leafN x+(x.packs.map (packN c)).sum):=by
 obtain⟨D,hD⟩:=still_all (T:=fun u d=>nodeT Ns d u) (c:=c) (x.packs.flatMap (·.kids)) fun u hu=>by
  obtain⟨p,hp,hu⟩:=List.mem_flatMap.1 hu
  exact h u ⟨x,p,hx,hp,hu⟩
 refine⟨D+1,fun d hd=>?_⟩
 obtain⟨d,rfl⟩:∃d',d=d'+1:=⟨d-1,by omega⟩
 show nodeT Ns (d+1) v=_
 unfold nodeT
 rw[hx]
 simp only
 congr 2
 apply List.map_congr_left
 intro p hp
 unfold packN
 congr 1
 apply List.map_congr_left
 intro u hu
 exact hD d zo u (List.mem_flatMap.2 ⟨p,hp,hu⟩)
inductive Path(Ns:List Node):Nat→Nat→Prop
 | one {v u:Nat}:Kid Ns u v→Path Ns v u
 | step {v u z:Nat}:Path Ns v u→Kid Ns z u→Path Ns v z
theorem Path.trans{Ns:List Node}{a b c:Nat}(h:Path Ns a b)(h2:Path Ns b c):Path Ns a c:=by
 induction h2 with
 | one k=>exact .step h k
 | step _ k ih=>exact .step ih k
def Unbound(T:Nat→Nat):Prop:=∀B,∃d,B≤T d
section
variable {Ns:List Node}(hpr:∀v,v<Ns.length→∃d,1≤nodeT Ns d v)(hkid:∀u v,Kid Ns u v→u<Ns.length)
include hpr hkid
omit hkid in
theorem all_prod:∃D,∀d,D≤d→∀v,v<Ns.length→1≤nodeT Ns d v:=by
 have:∀n,n≤Ns.length→∃D,∀d,D≤d→∀v,v<n→1≤nodeT Ns d v:=by
  intro n
  induction n with
  | zero=>intro _;exact⟨0,fun _ _ v hv=>absurd hv (Nat.not_lt_zero _)⟩
  | succ n ih=>
   intro hn
   obtain⟨D,hD⟩:=ih zo
   obtain⟨e,he⟩:=hpr n zo
   refine⟨max D e,fun d hd v hv=>?_⟩
   rcases Nat.lt_or_ge v n with h | h
   ·exact hD d zo v h
   ·obtain rfl:v=n:=by omega
    exact Nat.le_trans he (nodeT_le Ns zo v)
 exact this _ (Nat.le_refl _)
omit hpr in
theorem kid_le{D:Nat}(hD:∀d,D≤d→∀v,v<Ns.length→1≤nodeT Ns d v){u v:Nat}(hk:Kid Ns u v){d:Nat}(hd:D≤d):nodeT Ns d u≤nodeT Ns (d+1) v:=by
 obtain⟨x,p,hx,hp,hu⟩:=hk
 show _≤nodeT Ns (d+1) v
 conv=>rhs;unfold nodeT
 rw[hx]
 simp only
 refine Nat.le_trans ?_ (Nat.le_trans (sumN_mem (f:=packN (nodeT Ns d)) hp) (Nat.le_add_left _ _))
 refine prodN_ge (List.mem_map_of_mem hu) ?_
 intro y hy
 obtain⟨z,hz,rfl⟩:=List.mem_map.1 hy
 exact hD d hd z (hkid z v ⟨x,p,hx,hp,hz⟩)
omit hpr in
theorem path_le{D:Nat}(hD:∀d,D≤d→∀v,v<Ns.length→1≤nodeT Ns d v){u v:Nat}(h:Path Ns v u):∃L,1≤L∧∀d,D≤d→nodeT Ns d u≤nodeT Ns (d+L) v:=by
 induction h with
 | one k=>exact⟨1,Nat.le_refl _,fun d hd=>kid_le hkid hD k hd⟩
 | @step u z _ k ih=>
  obtain⟨L,h1,h2⟩:=ih
  refine⟨L+1,by omega,fun d hd=>?_⟩
  have h3:=kid_le hkid hD k hd
  have h4:=h2 (d+1) zo
  rw[show d+1+L=d+(L+1) by omega] at h4
  exact Nat.le_trans h3 h4
omit hkid in
theorem least_depth{v:Nat}(hv:v<Ns.length):∃m,nodeT Ns m v=0∧1≤nodeT Ns (m+1) v:=by
 obtain⟨d,hd⟩:=hpr v hv
 induction d with
 | zero=>exact absurd hd (by simp[nodeT])
 | succ d ih=>
  by_cases h:1≤nodeT Ns d v
  ·exact ih h
  ·exact⟨d,by omega,hd⟩
omit hpr in
theorem kid_more{D:Nat}(hD:∀d,D≤d→∀v,v<Ns.length→1≤nodeT Ns d v){u v:Nat}(hk:Kid Ns u v){m:Nat}(hm:1≤nodeT Ns (m+1) v)(hu0:nodeT Ns m u=0){d:Nat}(hd:D≤d)(hdm:m≤d) :
  nodeT Ns d u+1≤nodeT Ns (d+1) v:=by
 obtain⟨x,p,hx,hp,hu⟩:=hk
 have hm':=hm
 unfold nodeT at hm'
 rw[hx] at hm'
 simp only at hm'
 have hnext:nodeT Ns (d+1) v=leafN x+(x.packs.map (packN (nodeT Ns d))).sum:=by
  show nodeT Ns (d+1) v=_
  conv=>lhs;unfold nodeT
  rw[hx]
 rw[hnext]
 obtain⟨l1,l2,hl⟩:=List.append_of_mem hp
 have hp0:packN (nodeT Ns m) p=0:=prodN_zero (by rw[←hu0];exact List.mem_map_of_mem hu)
 have hpd:nodeT Ns d u≤packN (nodeT Ns d) p:=by
  refine prodN_ge (List.mem_map_of_mem hu) ?_
  intro y hy
  obtain⟨z,hz,rfl⟩:=List.mem_map.1 hy
  exact hD d hd z (hkid z v ⟨x,p,hx,hp,hz⟩)
 have mono:∀l:List NPack,(l.map (packN (nodeT Ns m))).sum≤(l.map (packN (nodeT Ns d))).sum:=fun l=>sumN_le l fun q _=>prodN_le _ fun z _=>nodeT_le Ns hdm z
 have m1:=mono l1
 have m2:=mono l2
 rw[hl] at hm' ⊢
 simp only[List.map_append,List.map_cons,List.sum_append,List.sum_cons] at hm' ⊢
 omega
theorem cycle_unbound{u:Nat}(h:Path Ns u u):∃z,Path Ns u z∧(Unbound fun d=>nodeT Ns d z):=by
 obtain⟨D,hD⟩:=all_prod hpr
 have main:∀{a b:Nat},Path Ns a b→∀ma mb,nodeT Ns ma a=0→1≤nodeT Ns (ma+1) a→nodeT Ns mb b=0→1≤nodeT Ns (mb+1) b→ma≤mb→
   ∃v z m,(a=v∨Path Ns a v)∧Kid Ns z v∧(z=b∨Path Ns z b)∧1≤nodeT Ns (m+1) v∧nodeT Ns m z=0:=by
  intro a b hab
  induction hab with
  | @one b k=>
   intro ma mb h1 h2 h3 h4 h5
   exact⟨a,b,ma,.inl rfl,k,.inl rfl,h2,by have:=nodeT_le Ns h5 b;omega⟩
  | @step c b hac k ih=>
   intro ma mb h1 h2 h3 h4 h5
   have hcl:c<Ns.length:=by cases hac with
    | one k=>exact hkid _ _ k
    | step _ k=>exact hkid _ _ k
   obtain⟨mc,g1,g2⟩:=least_depth hpr hcl
   by_cases hmc:ma≤mc
   ·obtain⟨v,z,m,q1,q2,q3,q4,q5⟩:=ih ma mc h1 h2 g1 g2 hmc
    refine⟨v,z,m,q1,q2,.inr ?_,q4,q5⟩
    rcases q3 with rfl | q3
    ·exact .one k
    ·exact .step q3 k
   ·exact⟨c,b,mc,.inr hac,k,.inl rfl,g2,by have:=nodeT_le Ns (show mc≤mb by omega) b;omega⟩
 have hul:u<Ns.length:=by cases h with
  | one k=>exact hkid _ _ k
  | step _ k=>exact hkid _ _ k
 obtain⟨mu,g1,g2⟩:=least_depth hpr hul
 obtain⟨v,z,m,q1,q2,q3,q4,q5⟩:=main h mu mu g1 g2 g1 g2 (Nat.le_refl _)
 have hzv:z=v∨Path Ns z v:=by
  rcases q3 with rfl | q3
  ·rcases q1 with rfl | q1
   ·exact .inl rfl
   ·exact .inr q1
  ·rcases q1 with rfl | q1
   ·exact .inr q3
   ·exact .inr (q3.trans q1)
 obtain⟨L,hL⟩:∃L,∀d,D≤d→nodeT Ns d v≤nodeT Ns (d+L) z:=by
  rcases hzv with rfl | hzv
  ·exact⟨0,fun d _=>Nat.le_refl _⟩
  ·obtain⟨L,_,h2⟩:=path_le hkid hD hzv
   exact⟨L,h2⟩
 refine⟨z,?_,fun B=>?_⟩
 ·rcases q1 with rfl | q1
  ·exact .one q2
  ·exact .step q1 q2
 ·have:∃d,D≤d∧m≤d∧B≤nodeT Ns d z:=by
   induction B with
   | zero=>exact⟨max D m,by omega,by omega,Nat.zero_le _⟩
   | succ B ih=>
    obtain⟨d,h1,h2,h3⟩:=ih
    refine⟨d+1+L,by omega,by omega,?_⟩
    have h4:=kid_more hkid hD q2 q4 q5 h1 h2
    have h5:=hL (d+1) zo
    omega
  obtain⟨d,_,_,h⟩:=this
  exact⟨d,h⟩
theorem path_unbound{v u:Nat}(h:Path Ns v u)(hu:Unbound fun d=>nodeT Ns d u):Unbound fun d=>nodeT Ns d v:=by
 obtain⟨D,hD⟩:=all_prod hpr
 obtain⟨L,_,hL⟩:=path_le hkid hD h
 intro B
 obtain⟨d,hd⟩:=hu B
 refine⟨max d D+L,?_⟩
 have h1:=hL (max d D) zo
 have h2:=nodeT_le Ns (show d≤max d D by omega) u
 dsimp only at hd ⊢
 omega
end
def MAXC:Nat:=1000000000
def CountVal(T:Nat→Nat)(c:Int):Prop:=(∃n,Still T n∧c=(min n MAXC:Nat))∨(Unbound T∧c=-1)
theorem min_mul(a b:Nat):min (min a MAXC*min b MAXC) MAXC=min (a*b) MAXC:=by
 rcases Nat.eq_zero_or_pos a with rfl | ha
 ·simp
 rcases Nat.eq_zero_or_pos b with rfl | hb
 ·simp
 have h1:MAXC=1000000000:=rfl
 by_cases h:a≤MAXC
 ·by_cases h2:b≤MAXC
  ·rw[Nat.min_eq_left h,Nat.min_eq_left h2]
  ·have h3:MAXC≤a*b:=Nat.le_trans zo (Nat.le_mul_of_pos_left b ha)
   have h4:MAXC≤min a MAXC*min b MAXC:=by
    rw[Nat.min_eq_left h,Nat.min_eq_right zo]
    exact Nat.le_mul_of_pos_left _ ha
   rw[Nat.min_eq_right h3,Nat.min_eq_right h4]
 ·have h3:MAXC≤a*b:=Nat.le_trans zo (Nat.le_mul_of_pos_right a hb)
  have h4:MAXC≤min a MAXC*min b MAXC:=by
   rw[Nat.min_eq_right (by omega:MAXC≤a)]
   exact Nat.le_mul_of_pos_right _ zo
  rw[Nat.min_eq_right h3,Nat.min_eq_right h4]
theorem min_add(a b:Nat):min (min a MAXC+min b MAXC) MAXC=min (a+b) MAXC:=by omega
abbrev ci(x:Nat):Value:=.int .i64 (x:Int)
structure CntC(F:Frz)(i1 i2 i3 i4 is ic cap:Nat)(na:Option Addr)(nn nc:Nat)(root:Int):Prop where
 st:F i1=some (.cells false [.slice (some ⟨is,0,none⟩) nn cap])
 f:F i2=some (.cells false [.slice na nn nc,.int .i64 root])
 ct:F i3=some (.cells false [.slice (some ⟨ic,0,none⟩) nn cap])
 self:F i4=some (.cells false [.func (.func 79) ⟨[]⟩ ⟨[.pointer (some ⟨i1,0,none⟩),.pointer (some ⟨i2,0,none⟩),.pointer (some ⟨i3,0,none⟩),.pointer (some ⟨i4,0,none⟩)]⟩])
theorem CntC.mono{F G:Frz}{i1 i2 i3 i4 is ic cap:Nat}{na:Option Addr}{nn nc:Nat}{root:Int}(h:CntC F i1 i2 i3 i4 is ic cap na nn nc root)(hF:Frz.le F G):CntC G i1 i2 i3 i4 is ic cap na nn nc root:=
 ⟨hF _ _ h.st,hF _ _ h.f,hF _ _ h.ct,hF _ _ h.self⟩
structure CInv(Ns:List Node)(st ct:List Nat):Prop where
 l1:st.length=Ns.length
 l2:ct.length=Ns.length
 zero:∀u:Nat,st[u]?=some 0→ct[u]?=some 0
 done:∀u:Nat,st[u]?=some 2→∃c,Still (fun d=>nodeT Ns d u) c∧ct[u]?=some (min c MAXC)
 vals:∀(u x:Nat),st[u]?=some x→x≤2
 bnd:∀(u x:Nat),ct[u]?=some x→x≤MAXC
structure Visited(Ns:List Node)(st ct st' ct':List Nat)(v:Nat):Prop where
 inv:CInv Ns st' ct'
 at_:st'[v]?=some 2
 old:∀(u x:Nat),st[u]?=some x→x≠0→st'[u]?=some x∧ct'[u]?=ct[u]?
 new:∀u:Nat,st'[u]?=some 1→st[u]?=some 1
 fewer:st'.count 0≤st.count 0
def CntB(is ic:Nat)(st ct:List Nat):List (Nat×Blk):=[(is,.cells false (st.map ci)),(ic,.cells false (ct.map ci))]
structure FOk(Ns:List Node):Prop where
 few:Ns.length≤1000000
 packs:∀x∈Ns,x.packs.length≤1000000
 kid:∀u v,Kid Ns u v→u<Ns.length
structure VLoop(Ns:List Node)(st ct:List Nat)(v:Nat)(s c:List Nat)(val:Nat):Prop where
 inv:CInv Ns s c
 at_:s[v]?=some 1
 old:∀(u y:Nat),st[u]?=some y→y≠0→s[u]?=some y∧c[u]?=ct[u]?
 new:∀u:Nat,s[u]?=some 1→u=v∨st[u]?=some 1
 fewer:s.count 0<st.count 0
 val:c[v]?=some (min val MAXC)
theorem VLoop.visit{Ns:List Node}{st ct:List Nat}{v:Nat}{s c s' c':List Nat}{val u:Nat}(h:VLoop Ns st ct v s c val)(hv:Visited Ns s c s' c' u):VLoop Ns st ct v s' c' val where
 inv:=hv.inv
 at_:=(hv.old v 1 h.at_ (by decide)).1
 old:=fun u y h1 h2=>by
  obtain⟨h3,h4⟩:=h.old u y h1 h2
  obtain⟨h5,h6⟩:=hv.old u y h3 h2
  exact⟨h5,h6.trans h4⟩
 new:=fun u h1=>h.new u (hv.new u h1)
 fewer:=Nat.lt_of_le_of_lt hv.fewer h.fewer
 val:=by rw[(hv.old v 1 h.at_ (by decide)).2];exact h.val
noncomputable def limT(Ns:List Node)(u:Nat):Nat:=limN fun d=>nodeT Ns d u
theorem CInv.lim{Ns:List Node}{s c:List Nat}(h:CInv Ns s c){u:Nat}(hu:s[u]?=some 2):Still (fun d=>nodeT Ns d u) (limT Ns u)∧c[u]?=some (min (limT Ns u) MAXC):=by
 obtain⟨x,h1,h2⟩:=h.done u hu
 have h3:=h1.lim
 have e:limN (fun d=>nodeT Ns d u)=x:=h3.uniq h1
 unfold limT
 rw[e]
 exact⟨h1,h2⟩
theorem VLoop.start{Ns:List Node}{st ct:List Nat}{v:Nat}(hI:CInv Ns st ct)(hv:v<Ns.length)(hx:st[v]?=some 0)(hst1:(st.set v 1).count 0<st.count 0)(x:Nat)(hx1:x≤1):VLoop Ns st ct v (st.set v 1) (ct.set v x) x where
 inv:=by
  have l1:=hI.l1
  have l2:=hI.l2
  refine⟨by simp[hI.l1],by simp[hI.l2],fun u hu=>?_,fun u hu=>?_,fun u y hu=>?_,fun u y hu=>?_⟩
  ·by_cases e:u=v
   ·subst e;rw[List.getElem?_set_self zo] at hu;cases hu
   ·rw[List.getElem?_set_ne (Ne.symm e)] at hu ⊢;exact hI.zero u hu
  ·by_cases e:u=v
   ·subst e;rw[List.getElem?_set_self zo] at hu;cases hu
   ·rw[List.getElem?_set_ne (Ne.symm e)] at hu ⊢;exact hI.done u hu
  ·by_cases e:u=v
   ·subst e;rw[List.getElem?_set_self zo] at hu;cases hu;decide
   ·rw[List.getElem?_set_ne (Ne.symm e)] at hu;exact hI.vals u y hu
  ·by_cases e:u=v
   ·subst e;rw[List.getElem?_set_self zo] at hu;cases hu;exact Nat.le_trans hx1 (by decide)
   ·rw[List.getElem?_set_ne (Ne.symm e)] at hu;exact hI.bnd u y hu
 at_:=by rw[List.getElem?_set_self (by rw[hI.l1];exact hv)]
 old:=fun u y h1 h2=>by
  have e:u≠v:=by rintro rfl;rw[hx] at h1;exact h2 (Option.some.inj h1).symm
  rw[List.getElem?_set_ne (Ne.symm e),List.getElem?_set_ne (Ne.symm e)]
  exact⟨h1,rfl⟩
 new:=fun u h1=>by
  by_cases e:u=v
  ·exact .inl e
  ·rw[List.getElem?_set_ne (Ne.symm e)] at h1;exact .inr h1
 fewer:=hst1
 val:=by
  rw[List.getElem?_set_self (by rw[hI.l2];exact hv)]
  rw[Nat.min_eq_left (Nat.le_trans hx1 (by decide))]
theorem VLoop.bump{Ns:List Node}{st ct:List Nat}{v:Nat}{s c:List Nat}{val:Nat}(h:VLoop Ns st ct v s c val)(hx:st[v]?=some 0)(x:Nat):VLoop Ns st ct v s (c.set v (min (min val MAXC+min x MAXC) MAXC)) (val+x) where
 inv:=by
  have l2:=h.inv.l2
  have hv:v<c.length:=(gS h.val).1
  refine⟨h.inv.l1,by simp[l2],fun u hu=>?_,fun u hu=>?_,h.inv.vals,fun u y hu=>?_⟩
  ·have e:u≠v:=by rintro rfl;rw[h.at_] at hu;cases hu
   rw[List.getElem?_set_ne (Ne.symm e)];exact h.inv.zero u hu
  ·have e:u≠v:=by rintro rfl;rw[h.at_] at hu;cases hu
   rw[List.getElem?_set_ne (Ne.symm e)];exact h.inv.done u hu
  ·by_cases e:u=v
   ·subst e;rw[List.getElem?_set_self hv] at hu;cases hu;exact Nat.min_le_right _ _
   ·rw[List.getElem?_set_ne (Ne.symm e)] at hu;exact h.inv.bnd u y hu
 at_:=h.at_
 old:=fun u y h1 h2=>by
  have e:u≠v:=by rintro rfl;rw[hx] at h1;exact h2 (Option.some.inj h1).symm
  rw[List.getElem?_set_ne (Ne.symm e)]
  exact h.old u y h1 h2
 new:=h.new
 fewer:=h.fewer
 val:=by rw[List.getElem?_set_self (gS h.val).1,min_add]
theorem VLoop.finish{Ns:List Node}{st ct:List Nat}{v:Nat}{s c:List Nat}{val:Nat}(h:VLoop Ns st ct v s c val)(hx:st[v]?=some 0)(hs:Still (fun d=>nodeT Ns d v) val):Visited Ns st ct (s.set v 2) c v:=by
 have hv:v<s.length:=(gS h.at_).1
 refine⟨⟨by simp[h.inv.l1],h.inv.l2,fun u hu=>?_,fun u hu=>?_,fun u y hu=>?_,h.inv.bnd⟩,by rw[List.getElem?_set_self hv],fun u y h1 h2=>?_,fun u h1=>?_,?_⟩
 ·by_cases e:u=v
  ·subst e;rw[List.getElem?_set_self hv] at hu;cases hu
  ·rw[List.getElem?_set_ne (Ne.symm e)] at hu;exact h.inv.zero u hu
 ·by_cases e:u=v
  ·subst e;exact⟨val,hs,h.val⟩
  ·rw[List.getElem?_set_ne (Ne.symm e)] at hu;exact h.inv.done u hu
 ·by_cases e:u=v
  ·subst e;rw[List.getElem?_set_self hv] at hu;cases hu;decide
  ·rw[List.getElem?_set_ne (Ne.symm e)] at hu;exact h.inv.vals u y hu
 ·have e:u≠v:=by rintro rfl;rw[hx] at h1;exact h2 (Option.some.inj h1).symm
  rw[List.getElem?_set_ne (Ne.symm e)]
  exact h.old u y h1 h2
 ·by_cases e:u=v
  ·subst e;rw[List.getElem?_set_self hv] at h1;cases h1
  ·rw[List.getElem?_set_ne (Ne.symm e)] at h1
   rcases h.new u h1 with h3 | h3
   ·exact absurd h3 e
   ·exact h3
 ·have:=List.count_set (a:=2) (b:=0) hv
  have h5:s[v]=1:=by have:=h.at_;rw[gE hv] at this;exact Option.some.inj this
  rw[this,h5]
  simp
  exact Nat.le_of_lt h.fewer
structure VSt where
 st:List Nat
 ct:List Nat
 x:Nat
theorem ci_at{l:List Nat}{v x:Nat}(h:l[v]?=some x):(l.map ci)[0+v*1]?=some (ci x):=by
 rw[Nat.zero_add,Nat.mul_one,List.getElem?_map,h];rfl
theorem ci_set(l:List Nat)(v x:Nat):(l.map ci).set (0+v*1) (ci x)=(l.set v x).map ci:=by
 rw[Nat.zero_add,Nat.mul_one,List.map_set]
theorem visit_spec{i1 i2 i3 i4 is ic cap:Nat}{na:Option Addr}{nn nc:Nat}{root:Int}{Ns:List Node}(hok:FOk Ns) :
  ∀(N:Nat) (F:Frz) (hC:CntC F i1 i2 i3 i4 is ic cap na nn nc root) (hN:Arr tNode F na nn nc Ns) (st ct:List Nat) (hI:CInv Ns st ct) (hz:st.count 0<N) (v:Nat) (hv:v<Ns.length) (hpre:∀u:Nat,st[u]?=some 1→Path Ns u v),
  Abs.Spec CC 79 [.int .i64 v,.pointer (some ⟨i1,0,none⟩),.pointer (some ⟨i2,0,none⟩),.pointer (some ⟨i3,0,none⟩),.pointer (some ⟨i4,0,none⟩)] F [CntB is ic st ct]
   fun F' r o=>∃B',o=[B']∧∃st' ct' b,B'=CntB is ic st' ct'∧r=.bool b∧(b=true→Visited Ns st ct st' ct' v)∧(b=false→∃u,(u=v∨Path Ns v u)∧Path Ns u u)
 | 0,F,hC,hN,st,ct,hI,hz,v,hv,hpre=>absurd hz (Nat.not_lt_zero _)
 | N+1,F,hC,hN,st,ct,hI,hz,v,hv,hpre=>by
  obtain⟨h1,h2,h3,h4⟩:=id hC
  have hNl:=hN.len
  have hfew:=hok.few
  unfold CntB
  obtain⟨x,hx⟩:∃x,st[v]?=some x:=⟨_,gE (by rw[hI.l1];exact hv)⟩
  have hx2:=hI.vals v x hx
  refine Abs.Spec.fn (n:=77) Tryz.func79 rfl rfl fun own=>?_
  refine zB4 ?_
  refine WT.idxA (j:=v) (s:=1) hT Z Z Z Z Z Z Z Z Z zo ?_
  refine WT.loadAt hT 0 Z Z Z Z Z Z me Z Z (ci_at hx) ?_
  refine zB4 ?_
  refine AW.cond Z (fun h=>?_) (fun h=>?_)
  ·have h:0<x:=by simp at h;omega
   refine zB4 ?_
   refine WT.idxA (j:=v) (s:=1) hT Z Z Z Z Z Z Z Z Z zo ?_
   refine WT.loadAt hT 0 Z Z Z Z Z Z me Z Z (ci_at hx) ?_
   refine zB4 ?_
   refine AW.ret ⟨_,[_],⟨_,_,rfl,rfl,rfl⟩,zsb,_,rfl,st,ct,_,rfl,rfl,fun hb=>?_,fun hb=>?_⟩
   ·have hb:x=2:=by simp at hb;omega
    subst hb
    exact⟨hI,hx,fun u y h1 _=>⟨h1,rfl⟩,fun u h=>h,Nat.le_refl _⟩
   ·have hb:x=1:=by simp at hb;omega
    subst hb
    exact⟨v,.inl rfl,hpre v hx⟩
  ·have h:x=0:=by simp at h;omega
   subst h
   have hvl:v<st.length:=by rw[hI.l1];exact hv
   have hvl2:v<ct.length:=by rw[hI.l2];exact hv
   have hst1:(st.set v 1).count 0<st.count 0:=by
    have:=List.count_set (a:=1) (b:=0) hvl
    have h5:st[v]=0:=by rw[gE hvl] at hx;exact Option.some.inj hx
    have h6:0<st.count 0:=List.count_pos_iff.2 (gM hx)
    rw[this,h5];simp;omega
   obtain⟨nd,hnd⟩:∃nd,Ns[v]?=some nd:=⟨_,gE hv⟩
   have hndp:=hok.packs nd (gM hnd)
   refine zB4 ?_
   refine WT.idxA (j:=v) (s:=1) hT Z Z Z Z Z Z Z Z Z zo ?_
   refine WT.storeAt hT 0 0 Z Z Z Z Z Z Z Z Z Z (by simp;omega) Z Z ?_
   rw[show (st.map ci).set (0+v*1) (.int .i64 1)=(st.set v 1).map ci from ci_set st v 1]
   refine zB4 ?_
   refine WT.idxL hT hN Z Z Z Z Z Z Z Z Z zo (fun nd' hnd' b5 off5 ro5 cs5 lx5 hb5 hp5 hrel5=>?_)
   obtain rfl:nd'=nd:=by rw[hnd] at hnd';exact(Option.some.inj hnd').symm
   obtain⟨pa,pn,pc,rfl,hpa⟩:=hrel5
   have hpal:=hpa.len
   refine zB4 ?_
   refine WT.allocT hT Z Z Z Z Z Z (fun i7 hi7=>?_)
   refine zB4 ?_
   refine AW.jnT (S:=Unit) (fun _=>[]) (fun _=>[(i7,.cells false [.bool nd'.key.sym.term,.int .i64 nd'.key.sym.n,.int .i64 nd'.key.frm,.int .i64 nd'.key.to,.slice pa pn pc])]::CntB is ic (st.set v 1) (ct.set v (leafN nd'))::own) (fun _ _=>True) ?_ (fun _ F1 hF1 _=>?_)
   ·refine AW.cond Z (fun h=>?_) (fun h=>?_)
    ·have hle:leafN nd'=1:=by unfold leafN;rw[if_pos h]
     refine zB4 ?_
     refine WT.idxA (j:=v) (s:=1) hT Z Z Z Z Z Z Z Z Z zo ?_
     refine WT.storeAt hT 1 1 Z Z Z Z Z Z Z Z Z Z (by simp;omega) Z Z ?_
     refine zB4 ?_
     refine⟨(),sM,?_,trivial⟩
     rw[hle]
     unfold CntB
     rw[←show (ct.map ci).set (0+v*1) (.int .i64 1)=(ct.set v 1).map ci from ci_set ct v 1]
     exact OwnLe.refl _
    ·have hle:leafN nd'=0:=by unfold leafN;rw[if_neg (by simpa using h)]
     refine zB4 ?_
     refine⟨(),sM,?_,trivial⟩
     have h0:ct.set v 0=ct:=by
      apply List.ext_getElem?
      intro j
      by_cases hj:j=v
      ·subst hj;rw[List.getElem?_set_self hvl2,hI.zero _ hx]
      ·rw[List.getElem?_set_ne (Ne.symm hj)]
     rw[hle,h0]
     exact OwnLe.refl _
   ·have hC1:=hC.mono hF1
    have hN1:=hN.mono hF1
    have hpa1:=hpa.mono hF1
    refine zB4 ?_
    refine AW.range (S:=VSt) (fun _=>[]) (fun z=>[(i7,.cells false [.bool nd'.key.sym.term,.int .i64 nd'.key.sym.n,.int .i64 nd'.key.frm,.int .i64 nd'.key.to,.slice pa pn pc])]::CntB is ic z.st z.ct::own)
     (fun j z G=>VLoop Ns st ct v z.st z.ct (leafN nd'+((nd'.packs.take j).map (packN (limT Ns))).sum)∧∀p∈nd'.packs.take j,∀u∈p.kids,z.st[u]?=some 2) pn ⟨st.set v 1,ct.set v (leafN nd'),0⟩
     Z Z Z Z Z Z Z Z Z zo rfl rfl (fun _=>rfl) (fun _=>rfl) sM oR ⟨by simpa using VLoop.start hI hv hx hst1 (leafN nd') (by unfold leafN;split<;>omega),by simp⟩ ?_ ?_
    ·intro j z F2 hF2 hj hz2
     obtain⟨hz2,hz3⟩:=hz2
     have hC2:=hC1.mono hF2
     have hN2:=hN1.mono hF2
     have hpa2:=hpa1.mono hF2
     refine zB4 ?_
     refine WT.idxL hT hpa2 Z Z Z Z Z Z Z Z Z zo (fun p hpj b6 off6 ro6 cs6 lx6 hb6 hp6 hrel6=>?_)
     obtain⟨ka,kn,kc,rfl,hka,hkb⟩:=hrel6
     have hkal:=hka.len
     have hpm:=gM hpj
     refine zB4 ?_
     refine WT.allocT hT Z Z Z Z Z Z (fun i9 hi9=>?_)
     refine zB4 ?_
     refine AW.range (S:=VSt) (fun z=>[(10,.int .i64 (z.x:Nat))]) (fun z=>[(i9,.cells false [.int .i64 p.rule,.slice ka kn kc])]::[(i7,.cells false [.bool nd'.key.sym.term,.int .i64 nd'.key.sym.n,.int .i64 nd'.key.frm,.int .i64 nd'.key.to,.slice pa pn pc])]::CntB is ic z.st z.ct::own)
      (fun q z G=>VLoop Ns st ct v z.st z.ct (leafN nd'+((nd'.packs.take j).map (packN (limT Ns))).sum)∧(∀p∈nd'.packs.take j,∀u∈p.kids,z.st[u]?=some 2)∧(∀u∈p.kids.take q,z.st[u]?=some 2)∧z.x=min (prodN ((p.kids.take q).map (limT Ns))) MAXC) kn ⟨z.st,z.ct,1⟩
      Z Z Z Z Z Z Z Z Z zo rfl rfl (fun _=>rfl) (fun _=>rfl) sM oR ⟨hz2,hz3,by simp,by simp[prodN];decide⟩ ?_ ?_
     ·intro q y F3 hF3 hq hy
      obtain⟨hy2,hy3,hy4,hy5⟩:=hy
      obtain⟨g1,g2,g3,g4⟩:=id (hC2.mono hF3)
      have hN3:=hN2.mono hF3
      have hka3:=hka.mono hF3
      refine zB4 ?_
      refine WT.idxL hT hka3 Z Z Z Z Z Z Z Z Z zo (fun u huq b8 off8 ro8 cs8 lx8 hb8 hp8 hrel8=>?_)
      obtain rfl:lx8=_:=hrel8
      have hkid:Kid Ns u v:=⟨nd',p,hnd,hpm,gM huq⟩
      refine zB4 ?_
      refine WT.callC1F 2 Tryz.func79 Z Z Z Z Z Z Z Z Z (fun _=>rfl) (visit_spec hok N F3 (hC2.mono hF3) hN3 y.st y.ct hy2.inv (by have:=hy2.fewer;omega) u (hok.kid u v hkid) (fun u' hu'=>?_)) (fun F4 r B4 hF4 hr=>?_)
      ·rcases hy2.new u' hu' with rfl | h5
       ·exact .one hkid
       ·exact .step (hpre u' h5) hkid
      ·obtain⟨st',ct',bb,rfl,rfl,hbt,hbf⟩:=hr
       cases bb with
       | false=>
        refine zB4 ?_
        refine AW.cond Z (fun _=>?_) (fun e=>(by cases e))
        refine zB4 ?_
        refine AW.ret ⟨_,[_],⟨_,_,rfl,rfl,rfl⟩,zsb,_,rfl,st',ct',false,rfl,rfl,fun e=>(by cases e),fun _=>?_⟩
        obtain⟨x1,hx1,hx2⟩:=hbf rfl
        refine⟨x1,.inr ?_,hx2⟩
        rcases hx1 with rfl | hx1
        ·exact .one hkid
        ·exact Path.trans (.one hkid) hx1
       | true=>
        have hV:=hbt rfl
        obtain⟨hs1,hs2⟩:=hV.inv.lim hV.at_
        have hy6:=hy2.visit hV
        have hul:u<Ns.length:=hok.kid u v hkid
        have hyx:y.x≤MAXC:=by rw[hy5];exact Nat.min_le_right _ _
        have hMC:MAXC=1000000000:=rfl
        have hml:min (limT Ns u) MAXC≤MAXC:=Nat.min_le_right _ _
        have hmm:y.x*min (limT Ns u) MAXC≤1000000000*1000000000:=Nat.mul_le_mul zo zo
        unfold CntB
        have g3:=hF4 _ _ g3
        refine zB4 ?_
        refine AW.cond Z (fun e=>(by cases e)) (fun _=>?_)
        refine zB4 ?_
        refine WT.idxA (j:=u) (s:=1) hT Z Z Z Z Z Z Z Z Z zo ?_
        refine WT.loadAt hT 2 Z Z Z Z Z Z (List.mem_cons_of_mem _ me) Z Z (ci_at hs2) ?_
        refine WT.mulT Z Z Z Z Z Z zo ?_
        refine WT.know (v':=.int .i64 ((y.x*min (limT Ns u) MAXC:Nat):Int)) 60 Z (by congr 1) ?_
        refine WT.minT (x:=y.x*min (limT Ns u) MAXC) (y:=MAXC) Z Z Z Z Z Z ?_
        refine zB4 ?_
        refine⟨⟨st',ct',min (y.x*min (limT Ns u) MAXC) MAXC⟩,sM,OwnLe.refl _,hy6,fun p' hp' u' hu'=>(hV.old u' 2 (hy3 p' hp' u' hu') (by decide)).1,fun u' hu'=>?_,?_⟩
        ·rw[List.take_add_one,huq] at hu'
         rcases List.mem_append.1 hu' with hu' | hu'
         ·exact(hV.old u' 2 (hy4 u' hu') (by decide)).1
         ·obtain rfl:=List.mem_singleton.1 hu'
          exact hV.at_
        ·dsimp only
         rw[List.take_add_one,huq,List.map_append,prodN_app,hy5,min_mul]
         simp[prodN]
     ·intro y F3 hF3 hy
      obtain⟨hy2,hy3,hy4,hy5⟩:=hy
      rw[List.take_of_length_le zo] at hy4 hy5
      obtain⟨g1,g2,g3,g4⟩:=id (hC2.mono hF3)
      have hMC:MAXC=1000000000:=rfl
      have hyx:y.x≤MAXC:=by rw[hy5];exact Nat.min_le_right _ _
      have hvl:min (leafN nd'+((nd'.packs.take j).map (packN (limT Ns))).sum) MAXC≤MAXC:=Nat.min_le_right _ _
      have hyl:=hy2.inv.l2
      unfold CntB
      refine zB4 ?_
      refine WT.idxA (j:=v) (s:=1) hT Z Z Z Z Z Z Z Z Z zo ?_
      refine WT.loadAt hT 2 Z Z Z Z Z Z (List.mem_cons_of_mem _ me) Z Z (ci_at hy2.val) ?_
      refine zB4 ?_
      obtain⟨vv,hvv⟩:∃vv,min (leafN nd'+((nd'.packs.take j).map (packN (limT Ns))).sum) MAXC=vv:=⟨_,rfl⟩
      rw[hvv]
      refine WT.know (v':=.int .i64 ((vv+y.x:Nat):Int)) 70 Z (by congr 1) ?_
      refine WT.minT (x:=vv+y.x) (y:=MAXC) Z Z Z Z Z Z ?_
      skip
      refine WT.idxA (j:=v) (s:=1) hT Z Z Z Z Z Z Z Z Z zo ?_
      refine WT.storeAt hT 2 1 Z Z Z Z Z Z Z Z Z Z (by simp;omega) Z Z ?_
      rw[show (y.ct.map ci).set (0+v*1) (.int .i64 ((Nat.min (vv+y.x) MAXC:Nat):Int))=(y.ct.set v (min (vv+y.x) MAXC)).map ci from ci_set y.ct v _]
      refine zB4 ?_
      refine⟨⟨y.st,y.ct.set v (min (vv+y.x) MAXC),0⟩,sM,OwnLe.skip _ oR,?_,fun p' hp' u' hu'=>?_⟩
      ·dsimp only
       rw[List.take_add_one,hpj,←hvv,hy5,List.map_append,List.sum_append,←Nat.add_assoc]
       have:=hy2.bump hx (packN (limT Ns) p)
       simpa [packN] using this
      ·rw[List.take_add_one,hpj] at hp'
       rcases List.mem_append.1 hp' with hp' | hp'
       ·exact hy3 p' hp' u' hu'
       ·obtain rfl:=List.mem_singleton.1 hp'
        exact hy4 u' hu'
    ·intro z F2 hF2 hz2
     obtain⟨hz2,hz3⟩:=hz2
     rw[List.take_of_length_le zo] at hz2 hz3
     obtain⟨g1,g2,g3,g4⟩:=id (hC1.mono hF2)
     have hzl:=hz2.inv.l1
     unfold CntB
     refine zB4 ?_
     refine WT.idxA (j:=v) (s:=1) hT Z Z Z Z Z Z Z Z Z zo ?_
     refine WT.storeAt hT 1 0 Z Z Z Z Z Z Z Z Z Z (by simp;omega) Z Z ?_
     rw[show (z.st.map ci).set (0+v*1) (.int .i64 2)=(z.st.set v 2).map ci from ci_set z.st v 2]
     refine zB4 ?_
     refine AW.ret ⟨_,[_],⟨_,_,rfl,rfl,rfl⟩,zsb,_,rfl,z.st.set v 2,z.ct,true,rfl,rfl,fun _=>?_,fun e=>(by cases e)⟩
     refine hz2.finish hx (still_node hnd (limT Ns) fun u hu=>?_)
     obtain⟨x',p',h5,h6,h7⟩:=hu
     rw[hnd] at h5
     obtain rfl:=Option.some.inj h5
     exact(hz2.inv.lim (hz3 p' h6 u h7)).1
def Prod(Ns:List Node):Prop:=∀v,v<Ns.length→∃d,1≤nodeT Ns d v
theorem count_spec(F:Frz){Ns:List Node}(hok:FOk Ns)(hpr:Prod Ns){na:Option Addr}{nn nc:Nat}(hN:Arr tNode F na nn nc Ns)(root:Nat)(hroot:root<Ns.length) :
  Abs.Spec CC 52 [.agg ⟨[.slice na nn nc,.int .i64 root]⟩] F [] fun F' r o=>o=[]∧∃c,r=.int .i64 c∧CountVal (fun d=>nodeT Ns d root) c:=by
 have hNl:=hN.len
 have hfew:=hok.few
 refine Abs.Spec.fn (n:=28) Tryz.func52 rfl rfl fun own=>?_
 refine AW.seq (AW.reg ?_)
 refine WT.boxT Z Z Z Z Z Z (fun i1 hi1=>?_)
 refine zB4 ?_
 refine AW.cond Z (fun h=>(by simp at h;omega)) (fun _=>?_)
 refine zB4 ?_
 refine WT.makeT (l:=nn) hT Z Z Z Z Z Z Z Z Z Z Z Z zom (fun ic hic=>?_)
 rw[cap_eq]
 skip
 refine WT.allocT hT Z Z Z Z Z Z (fun i3 hi3=>?_)
 refine zB4 ?_
 refine WT.makeT (l:=nn) hT Z Z Z Z Z Z Z Z Z Z Z Z zom (fun is his=>?_)
 rw[cap_eq]
 skip
 refine WT.allocT hT Z Z Z Z Z Z (fun i4 hi4=>?_)
 refine zB8 ?_
 refine WT.allocT hT Z Z Z Z Z Z (fun i5 hi5=>?_)
 refine zB8 ?_
 refine WT.freezeAll 0 Z Z (fun G1 hG1 hB1=>?_)
 refine WT.freezeAll 1 Z Z (fun G2 hG2 hB2=>?_)
 refine WT.freezeAll 3 Z Z (fun G3 hG3 hB3=>?_)
 refine WT.freezeAll 5 Z Z (fun G4 hG4 hB4=>?_)
 have f5:=hG4 _ _ (hG3 _ _ (hG2 _ _ (hB1 i5 _ me)))
 have f4:=hG4 _ _ (hG3 _ _ (hB2 i4 _ me))
 have f3:=hG4 _ _ (hB3 i3 _ me)
 have f1:=hB4 i1 _ me
 have hG:=hG1.trans (hG2.trans (hG3.trans hG4))
 have e0:CntB is ic (List.replicate nn 0) (List.replicate nn 0)=[(is,.cells false (List.replicate nn (.int .i64 0))),(ic,.cells false (List.replicate nn (.int .i64 0)))]:=by
  unfold CntB;rw[List.map_replicate];rfl
 refine WT.le (own2:=CntB is ic (List.replicate nn 0) (List.replicate nn 0)::own) (by rw[e0];exact OwnLe.flat (List.Perm.refl _)) ?_
 have hrep:∀(u x:Nat),(List.replicate nn 0)[u]?=some x→x=0:=fun u x h=>List.eq_of_mem_replicate (gM h)
 have hI0:CInv Ns (List.replicate nn 0) (List.replicate nn 0):=by
  refine⟨by simp;omega,by simp;omega,fun u h=>h,fun u h=>?_,fun u x h=>?_,fun u x h=>?_⟩
  ·have:=hrep u 2 h;omega
  ·rw[hrep u x h];omega
  ·rw[hrep u x h];exact Nat.zero_le _
 refine WT.callC1F 0 Tryz.func79 Z Z Z Z Z Z Z Z Z (fun _=>rfl) (visit_spec hok _ G4 ⟨f4,f1,f3,f5⟩ (hN.mono hG) _ _ hI0 (Nat.lt_succ_self _) root hroot (fun u h=>by have:=hrep u 1 h;omega)) (fun F4 r B4 hF4 hr=>?_)
 obtain⟨st',ct',bb,rfl,rfl,hbt,hbf⟩:=hr
 have f1:=hF4 _ _ f1
 have f3:=hF4 _ _ f3
 cases bb with
 | false=>
  refine zB4 ?_
  refine AW.cond Z (fun _=>?_) (fun e=>(by cases e))
  refine zB4 ?_
  refine AW.ret ⟨_,[],⟨_,_,rfl,rfl,rfl⟩,zsb,rfl,-1,rfl,.inr ⟨?_,rfl⟩⟩
  obtain⟨u,hu1,hu2⟩:=hbf rfl
  obtain⟨z,hz1,hz2⟩:=cycle_unbound hpr hok.kid hu2
  refine path_unbound hpr hok.kid ?_ hz2
  rcases hu1 with rfl | hu1
  ·exact hz1
  ·exact hu1.trans hz1
 | true=>
  have hV:=hbt rfl
  obtain⟨hs1,hs2⟩:=hV.inv.lim hV.at_
  unfold CntB
  refine zB4 ?_
  refine AW.cond Z (fun e=>(by cases e)) (fun _=>?_)
  refine zB4 ?_
  refine WT.idxA (j:=root) (s:=1) hT Z Z Z Z Z Z Z Z Z zo ?_
  refine WT.loadAt hT 0 Z Z Z Z Z Z (List.mem_cons_of_mem _ me) Z Z (ci_at hs2) ?_
  refine zB4 ?_
  exact AW.ret ⟨_,[],⟨_,_,rfl,rfl,rfl⟩,zsb,rfl,_,rfl,.inl ⟨_,hs1,rfl⟩⟩
def listT(f:Sym→Nat→Nat→Nat):List Sym→Nat→Nat→Nat
 | [],i,j=>if i=j then 1 else 0
 | s::l,i,j=>((List.range (j+1)).map fun m=>f s i m*listT f l m j).sum
def symT(g:Gram)(w:List Nat):Nat→Sym→Nat→Nat→Nat
 | 0,_,_,_=>0
 | d+1,s,i,j=>if s.term=true then (if w[i]?=some s.n∧j=i+1 then 1 else 0)
   else (g.rules.map fun r=>if r.left=s.n then listT (symT g w d) r.right i j else 0).sum
theorem sum_pos{l:List Nat}(h:1≤l.sum):∃x∈l,1≤x:=by
 induction l with
 | nil=>simp at h
 | cons a l ih=>
  by_cases ha:1≤a
  ·exact⟨a,List.mem_cons_self ..,ha⟩
  ·rw[List.sum_cons] at h
   obtain⟨x,hx,h2⟩:=ih zo
   exact⟨x,List.mem_cons_of_mem _ hx,h2⟩
theorem listT_pos{g:Gram}{w:List Nat}{f:Sym→Nat→Nat→Nat}(hf:∀s i j,1≤f s i j→Der g w s i j):∀{l:List Sym} {i j:Nat},1≤listT f l i j→Ders g w l i j
 | [],i,j,h=>by
  unfold listT at h
  split at h
  ·rename_i e;subst e;exact .nil
  ·omega
 | s::l,i,j,h=>by
  unfold listT at h
  obtain⟨x,hx,h2⟩:=sum_pos h
  obtain⟨m,_,rfl⟩:=List.mem_map.1 hx
  have h3:1≤f s i m:=by
   rcases Nat.eq_zero_or_pos (f s i m) with e | e
   ·rw[e,Nat.zero_mul] at h2;omega
   ·exact e
  have h4:1≤listT f l m j:=by
   rcases Nat.eq_zero_or_pos (listT f l m j) with e | e
   ·rw[e,Nat.mul_zero] at h2;omega
   ·exact e
  exact .cons (hf s i m h3) (listT_pos hf h4)
theorem symT_der{g:Gram}{w:List Nat}:∀{d:Nat} {s:Sym} {i j:Nat},1≤symT g w d s i j→Der g w s i j
 | 0,s,i,j,h=>absurd h (by simp[symT])
 | d+1,s,i,j,h=>by
  obtain⟨st,sn⟩:=s
  unfold symT at h
  cases st with
  | true=>
   simp only[if_true] at h
   split at h
   ·rename_i e
    obtain⟨e1,rfl⟩:=e
    exact .term e1
   ·omega
  | false=>
   simp only[Bool.false_eq_true,if_false] at h
   obtain⟨x,hx,h2⟩:=sum_pos h
   obtain⟨r,hr,rfl⟩:=List.mem_map.1 hx
   split at h2
   ·rename_i e
    subst e
    exact .non hr (listT_pos (fun s i j h=>symT_der h) h2)
   ·omega
theorem listT_mono{f h:Sym→Nat→Nat→Nat}(hf:∀s i j,f s i j≤h s i j):∀(l:List Sym) (i j:Nat),listT f l i j≤listT h l i j
 | [],i,j=>Nat.le_refl _
 | s::l,i,j=>sumN_le _ fun m _=>Nat.mul_le_mul (hf s i m) (listT_mono hf l m j)
theorem symT_mono(g:Gram)(w:List Nat):∀(d:Nat) (s:Sym) (i j:Nat),symT g w d s i j≤symT g w (d+1) s i j
 | 0,s,i,j=>Nat.zero_le _
 | d+1,s,i,j=>by
  show symT g w (d+1) s i j≤symT g w (d+1+1) s i j
  unfold symT
  split
  ·exact Nat.le_refl _
  ·refine sumN_le _ fun r _=>?_
   split
   ·exact listT_mono (fun s i j=>symT_mono g w d s i j) _ _ _
   ·exact Nat.le_refl _
theorem symT_le(g:Gram)(w:List Nat){d e:Nat}(h:d≤e)(s:Sym)(i j:Nat):symT g w d s i j≤symT g w e s i j:=by
 induction e with
 | zero => obtain rfl : d = 0 := by omega
           exact Nat.le_refl _
 | succ e ih=>
  rcases Nat.lt_or_ge d (e+1) with h2 | h2
  ·exact Nat.le_trans (ih zo) (symT_mono g w e s i j)
  ·obtain rfl:d=e+1:=by omega
   exact Nat.le_refl _
theorem der_symT{g:Gram}{w:List Nat}{s:Sym}{i j:Nat}(h:Der g w s i j):∃d,1≤symT g w d s i j:=by
 refine Der.rec (motive_1:=fun s i j _=>∃d,1≤symT g w d s i j) (motive_2:=fun l i j _=>∃d,1≤listT (symT g w d) l i j) ?_ ?_ ?_ ?_ h
 ·intro t i h
  exact⟨1,by unfold symT;simp[h]⟩
 ·intro r i j hr _ ih
  obtain⟨d,hd⟩:=ih
  refine⟨d+1,?_⟩
  unfold symT
  simp only[Bool.false_eq_true,if_false]
  refine Nat.le_trans ?_ (sumN_mem (f:=fun r':Rule=>if r'.left=r.left then listT (symT g w d) r'.right i j else 0) hr)
  simpa using hd
 ·intro i;exact⟨0,by simp[listT]⟩
 ·intro s l i m j h1 h2 ih1 ih2
  obtain⟨d1,h3⟩:=ih1
  obtain⟨d2,h4⟩:=ih2
  have hmj:=ders_le h2
  refine⟨max d1 d2,?_⟩
  unfold listT
  refine Nat.le_trans ?_ (sumN_mem (f:=fun m=>symT g w (max d1 d2) s i m*listT (symT g w (max d1 d2)) l m j) (List.mem_range.2 (show m<j+1 by omega)))
  exact Nat.mul_le_mul (Nat.le_trans h3 (symT_le g w zo s i m)) (Nat.le_trans h4 (listT_mono (fun s i j=>symT_le g w zo s i j) l m j))
theorem sum_flat{α β:Type}(f:α→List β)(h:β→Nat):∀l:List α,((l.flatMap f).map h).sum=(l.map fun a=>((f a).map h).sum).sum
 | []=>rfl
 | a::l=>by rw[List.flatMap_cons,List.map_append,List.sum_append,List.map_cons,List.sum_cons,sum_flat f h l]
theorem splits_sum{w:List Nat}{E:List (List Nat)}{to:Nat}{f:Sym→Nat→Nat→Nat}(hf:∀s i m,stepB w E s i m=false→i≤w.length→m≤to→f s i m=0)(hto:to≤w.length):∀(l:List Sym) (i:Nat),i≤w.length→
  ((splits w E to l i).map fun ks=>prodN (ks.map fun q=>f q.sym q.frm q.to)).sum=listT f l i to
 | [],i,hi=>by
  unfold splits listT
  split<;>simp[prodN]
 | s::l,i,hi=>by
  unfold splits listT
  rw[sum_flat]
  congr 1
  apply List.map_congr_left
  intro m hm
  have hm:=List.mem_range.1 hm
  split
  ·rw[List.map_map,←splits_sum hf hto l m zo]
   clear hf
   generalize splits w E to l m=L
   induction L with
   | nil=>simp
   | cons a L ih=>
    simp only[List.map_cons,List.sum_cons,Function.comp_apply,prodN,Nat.mul_add]
    simp only[Function.comp_def] at ih
    rw[←ih]
    simp[Function.comp_def,prodN]
  ·rename_i h
   rw[hf s i m (by simpa using h) hi zo]
   simp
theorem rules_sum{α:Type}(h:α→Nat)(f:Nat→Rule→List α):∀(rs:List Rule) (k:Nat),(((List.range rs.length).flatMap fun i=>match rs[i]? with | some r=>f (k+i) r | none=>[]).map h).sum=(rs.zipIdx k |>.map fun p=>((f p.2 p.1).map h).sum).sum
 | [],k=>by simp
 | r::rs,k=>by
  have ih:=rules_sum h f rs (k+1)
  rw[List.length_cons,List.range_succ_eq_map,List.flatMap_cons,List.map_append,List.sum_append,List.zipIdx_cons,List.map_cons,List.sum_cons,←ih]
  simp only[List.getElem?_cons_zero,Nat.add_zero,List.flatMap_map]
  congr 4
  funext i
  simp only[List.getElem?_cons_succ,Nat.succ_eq_add_one]
  rw[show k+(i+1)=k+1+i by omega]
theorem zip_sum{f:Rule→Nat}:∀(rs:List Rule) (k:Nat),(rs.zipIdx k |>.map fun p=>f p.1).sum=(rs.map f).sum
 | [],k=>by simp
 | r::rs,k=>by rw[List.zipIdx_cons,List.map_cons,List.map_cons,List.sum_cons,List.sum_cons,zip_sum rs (k+1)]
def StepK(w:List Nat)(E:List (List Nat))(k:Key):Prop:=stepB w E k.sym k.frm k.to=true
theorem splits_step{w:List Nat}{E:List (List Nat)}{to:Nat}:∀{l:List Sym} {i:Nat} {ks:List Key},ks∈splits w E to l i→∀q∈ks,StepK w E q
 | [],i,ks,h,q,hq=>by
  unfold splits at h
  split at h
  ·rw[List.mem_singleton.1 h] at hq;cases hq
  ·cases h
 | s::l,i,ks,h,q,hq=>by
  unfold splits at h
  obtain⟨m,_,hm⟩:=List.mem_flatMap.1 h
  split at hm
  ·rename_i hs
   obtain⟨ks',h2,rfl⟩:=List.mem_map.1 hm
   rcases List.mem_cons.1 hq with rfl | hq
   ·exact hs
   ·exact splits_step h2 q hq
  ·cases hm
theorem Reachable.step{g:Gram}{w:List Nat}{E:List (List Nat)}{root k:Key}(h:Reachable g w E root k)(hr:StepK w E root):StepK w E k:=by
 cases h with
 | root=>exact hr
 | kid _ hp hq=>
  obtain⟨r,_,_,_,h3⟩:=mem_packsOf.1 hp
  exact splits_step h3 _ hq
theorem step_der{g:Gram}{w:List Nat}{E:List (List Nat)}(hE:EndsOf g w E){s:Sym}{i j:Nat}(hi:i≤w.length):stepB w E s i j=true↔Der g w s i j:=by
 rw[stepB_iff]
 unfold Step
 obtain⟨b,n⟩:=s
 cases b with
 | true=>simp only[if_true];rw[der_term]
 | false=>
  simp only[Bool.false_eq_true,if_false]
  exact hE.iff n i j hi
theorem packs_sum{g:Gram}{w:List Nat}{E:List (List Nat)}{k:Key}(hk:k.sym.term=false){f:Sym→Nat→Nat→Nat}(hf:∀s i m,stepB w E s i m=false→i≤w.length→m≤k.to→f s i m=0)(hi:k.frm≤w.length)(hto:k.to≤w.length) :
  ((packsOf g w E k).map fun p=>prodN (p.kids.map fun q=>f q.sym q.frm q.to)).sum=(g.rules.map fun r=>if r.left=k.sym.n then listT f r.right k.frm k.to else 0).sum:=by
 have e:packsOf g w E k=(List.range g.rules.length).flatMap fun i=>match g.rules[i]? with | some r=>(if r.left=k.sym.n∧k.sym.term=false then (splits w E k.to r.right k.frm).map (KPack.mk (0+i)) else []) | none=>[]:=by
  unfold packsOf
  congr 1
  funext i
  unfold packsAt
  rw[Nat.zero_add]
  cases g.rules[i]?<;>rfl
 rw[e]
 refine(rules_sum (fun p:KPack=>prodN (p.kids.map fun q=>f q.sym q.frm q.to)) (fun i r=>if r.left=k.sym.n∧k.sym.term=false then (splits w E k.to r.right k.frm).map (KPack.mk i) else []) g.rules 0).trans ?_
 rw[←zip_sum g.rules 0]
 congr 1
 apply List.map_congr_left
 intro p _
 by_cases h:p.1.left=k.sym.n
 ·rw[if_pos ⟨h,hk⟩,if_pos h,←splits_sum hf hto p.1.right k.frm hi,List.map_map]
  rfl
 ·rw[if_neg (fun h2=>h h2.1),if_neg h];rfl
theorem node_sym{g:Gram}(hg:Valid g){w:List Nat}{E:List (List Nat)}(hE:EndsOf g w E){root:Key}{S:List Key}(hK:Keys g w E root S)(hroot:GoodKey g w root)(hrs:StepK w E root) :
  ∀(d:Nat) (k:Key),k∈S→nodeT (S.map (mkNode g w E S)) d (place S k)=symT g w d k.sym k.frm k.to
 | 0,k,_=>rfl
 | d+1,k,hk=>by
  have hgood:=(hK.reach k hk).good hg hroot
  have hstep:=(hK.reach k hk).step hrs
  have hat:(S.map (mkNode g w E S))[place S k]?=some (mkNode g w E S k):=by rw[List.getElem?_map,place_at hk];rfl
  have hsum:((mkNode g w E S k).packs.map (packN (nodeT (S.map (mkNode g w E S)) d))).sum=((packsOf g w E k).map fun p=>prodN (p.kids.map fun q=>symT g w d q.sym q.frm q.to)).sum:=by
   unfold mkNode
   simp only
   rw[List.map_map]
   congr 1
   apply List.map_congr_left
   intro p hp
   simp only[Function.comp_apply,packN,numPack,List.map_map]
   congr 1
   apply List.map_congr_left
   intro q hq
   exact node_sym hg hE hK hroot hrs d q (hK.closed k hk p hp q hq)
  rw[nodeT,hat]
  simp only
  rw[hsum,symT]
  unfold leafN
  cases ht:k.sym.term with
  | true=>
   have hno:packsOf g w E k=[]:=by
    rw[List.eq_nil_iff_forall_not_mem]
    intro p hp
    obtain⟨_,_,_,h3,_⟩:=mem_packsOf.1 hp
    rw[ht] at h3;cases h3
   have h2:=(stepB_iff.1 hstep)
   unfold Step at h2
   rw[if_pos ht] at h2
   rw[hno]
   simp[mkNode,ht,h2]
  | false=>
   rw[packs_sum ht (fun s i m h1 h2 _=>?_) hgood.2.1 hgood.2.2]
   ·simp[mkNode,ht]
   ·rcases Nat.eq_zero_or_pos (symT g w d s i m) with e | e
    ·exact e
    ·have:=(step_der hE h2).2 (symT_der e)
     rw[h1] at this;cases this
theorem nodes_prod{g:Gram}(hg:Valid g){w:List Nat}{E:List (List Nat)}(hE:EndsOf g w E){root:Key}{S:List Key}(hK:Keys g w E root S)(hroot:GoodKey g w root)(hrs:StepK w E root):Prod (S.map (mkNode g w E S)):=by
 intro v hv
 rw[List.length_map] at hv
 obtain⟨k,hk⟩:∃k,S[v]?=some k:=⟨_,gE hv⟩
 have hkm:=gM hk
 have hgood:=(hK.reach k hkm).good hg hroot
 obtain⟨d,hd⟩:=der_symT ((step_der hE hgood.2.1).1 ((hK.reach k hkm).step hrs))
 refine⟨d,?_⟩
 rw[←place_of hK.nodup hk,node_sym hg hE hK hroot hrs d k hkm]
 exact hd
theorem nodes_ok{g:Gram}(hg:Valid g){w:List Nat}(hw:w.length≤12){E:List (List Nat)}{root:Key}{S:List Key}(hK:Keys g w E root S)(hroot:GoodKey g w root):FOk (S.map (mkNode g w E S)) where
 few:=by
  rw[List.length_map]
  exact Nat.le_trans (good_few hg zo (fun k hk=>(hK.reach k hk).good hg hroot) hK.nodup) (by decide)
 packs:=fun x hx=>by
  obtain⟨k,hk,rfl⟩:=List.mem_map.1 hx
  have hgood:=(hK.reach k hk).good hg hroot
  have:=packsOf_len12 hg (E:=E) (w:=w) (show k.to≤12 by have:=hgood.2.2;omega)
  unfold mkNode
  rw[List.length_map];omega
 kid:=fun u v h=>by
  obtain⟨x,p,hx,hp,hu⟩:=h
  rw[List.getElem?_map] at hx
  cases hk:S[v]? with
  | none=>rw[hk] at hx;cases hx
  | some k=>
   rw[hk] at hx
   obtain rfl:=Option.some.inj hx
   obtain⟨p',hp',rfl⟩:=List.mem_map.1 hp
   obtain⟨q,hq,rfl⟩:=List.mem_map.1 hu
   have:=hK.closed k (gM hk) p' hp' q hq
   rw[List.length_map]
   exact List.idxOf_lt_length_of_mem this
theorem packSum_le12{g:Gram}(hg:Valid g){w:List Nat}{E:List (List Nat)}:∀(L:List Key),(∀k∈L,k.to≤12)→packSum g w E L≤L.length*913952
 | [],_=>by simp[packSum]
 | k::L,h=>by
  have h1:=packSum_le12 hg (E:=E) (w:=w) L fun k hk=>h k (List.mem_cons_of_mem _ hk)
  have h2:=packsOf_len12 hg (E:=E) (w:=w) (h k me)
  unfold packSum at h1 ⊢
  rw[List.map_cons,List.sum_cons,List.length_cons,Nat.add_mul,Nat.one_mul]
  omega
def rootKey(g:Gram)(w:List Nat):Key:=⟨⟨false,g.start⟩,0,w.length⟩
theorem root_good{g:Gram}(hg:Valid g)(w:List Nat):GoodKey g w (rootKey g w):=⟨by unfold SymOk rootKey;simpa using hg.range.start,Nat.zero_le _,Nat.le_refl _⟩
def ForestV(g:Gram)(w:List Nat)(E:List (List Nat))(F:Frz)(v:Value):Prop:=
 (stepB w E ⟨false,g.start⟩ 0 w.length=false∧v=.agg ⟨[.slice none 0 0,.int .i64 (-1)]⟩)∨
 (stepB w E ⟨false,g.start⟩ 0 w.length=true∧∃S a n c,v=.agg ⟨[.slice a n c,.int .i64 (place S (rootKey g w):Nat)]⟩∧Keys g w E (rootKey g w) S∧Arr tNode F a n c (S.map (mkNode g w E S)))
theorem ForestV.mono{g:Gram}{w:List Nat}{E:List (List Nat)}{F G:Frz}{v:Value}(h:ForestV g w E F v)(hF:Frz.le F G):ForestV g w E G v:=by
 rcases h with h | ⟨h1,S,a,n,c,h2,h3,h4⟩
 ·exact .inl h
 ·exact .inr ⟨h1,S,a,n,c,h2,h3,h4.mono hF⟩
theorem few_packs{g:Gram}(hg:Valid g){w:List Nat}(hw:w.length≤12){E:List (List Nat)}{L:List Key}(hn:L.Nodup)(hr:∀k∈L,Reachable g w E (rootKey g w) k):packSum g w E L≤200000*913952:=by
 have hgood:∀k∈L,GoodKey g w k:=fun k hk=>(hr k hk).good hg (root_good hg w)
 refine Nat.le_trans (packSum_le12 hg L fun k hk=>by have:=(hgood k hk).2.2;omega) ?_
 exact Nat.mul_le_mul_right _ (good_few hg zo hgood hn)
theorem countNone_spec(F:Frz):Abs.Spec CC 52 [.agg ⟨[.slice none 0 0,.int .i64 (-1)]⟩] F [] fun F' r o=>o=[]∧r=.int .i64 0:=by
 refine Abs.Spec.fn (n:=28) Tryz.func52 rfl rfl fun own=>?_
 refine AW.seq (AW.reg ?_)
 refine WT.boxT Z Z Z Z Z Z (fun i1 hi1=>?_)
 refine zB4 ?_
 refine AW.cond Z (fun _=>?_) (fun h=>(by cases h))
 refine zB4 ?_
 exact AW.ret ⟨_,[],⟨_,_,rfl,rfl,rfl⟩,zsb,rfl,rfl⟩
theorem meanOf_spec(F:Frz)(hL:Laid F)(g:Gram)(hg:Valid g){ga:Option Addr}{gm gc:Nat}(hr:Arr tRule F ga gm gc g.rules){b:Option Addr}{n d:Nat}{w:List Nat}(hw:Arr tNat F b n d w)(hw12:w.length≤12) :
  Abs.Spec CC 47 [.agg ⟨gramCells g ga gm gc⟩,.slice b n d] F [] fun F' v o=>o=[]∧∃E,EndsOf g w E∧ForestV g w E F' v:=by
 unfold gramCells
 refine Abs.Spec.fn (n:=17) Tryz.func47 rfl rfl fun own=>?_
 refine AW.seq (AW.reg ?_)
 refine WT.boxT Z Z Z Z Z Z (fun i2 hi2=>?_)
 refine WT.allocT hT Z Z Z Z Z Z (fun i4 hi4=>?_)
 refine zB4 ?_
 refine AW.draw (ps:=[(0,4),(0,9),(2,9)]) Z Z ?_
 refine zB4 ?_
 refine WT.callF0 Tryz.func38 Z Z Z Z Z Z (ends_spec _ hL g hg hr hw zo) (fun F1 v hF1 hv=>?_)
 obtain⟨ea,ec,E,rfl,hE,hE2⟩:=hv
 have hEl:=hE2.ok.size
 refine WT.callF0 Tryz.func75 Z Z Z Z Z Z (build_spec _ (hL.mono hF1) g hg (hr.mono hF1) (hw.mono hF1) hw12 hE hE2.ok 1099511627776 (by decide)) (fun F2 v hF2 hv=>?_)
 have hres:∃x,v=.tuple ⟨[.agg ⟨x⟩,.bool true]⟩∧ForestV g w E F2 (.agg ⟨x⟩)∧∃a n c r,x=[.slice a n c,.int .i64 r]:=by
  rcases hv with ⟨h1,rfl⟩ | ⟨h1,h2⟩
  ·exact⟨_,rfl,.inl ⟨h1,rfl⟩,_,_,_,_,rfl⟩
  ·rcases h2 with ⟨S,a,n,c,rfl,hK,hA,_⟩ | ⟨_,L,h3,h4,h5⟩
   ·exact⟨_,rfl,.inr ⟨h1,S,a,n,c,rfl,hK,hA⟩,_,_,_,_,rfl⟩
   ·have:=few_packs hg hw12 h3 h4
    omega
 clear hv
 obtain⟨x,rfl,hx,xa,xn,xc,xr,rfl⟩:=hres
 refine zB4 ?_
 refine WT.allocT hT Z Z Z Z Z Z (fun i5 hi5=>?_)
 refine zB4 ?_
 refine⟨zrC,?_⟩
 refine zB4 ?_
 exact AW.ret ⟨_,[],⟨_,_,⟨_,rfl,fun G h0 s0=>loadA_cells (s0.has (p:=1) rfl me) (readT_ok hT rfl)⟩,rfl,rfl⟩,zsb,rfl,E,hE2,hx⟩
theorem still_zero{T:Nat→Nat}(h:∀d,T d=0):Still T 0:=⟨0,fun d _=>h d⟩
def MakeRes(g:Gram)(w:List Nat)(E:List (List Nat))(F:Frz)(v:Value):Prop:=
 (∃s a n c r,s=.agg ⟨[.slice a n c,.int .i64 r]⟩∧v=.tuple ⟨[s,.int .i64 0]⟩∧ForestV g w E F s∧∀S,Keys g w E (rootKey g w) S→stepB w E ⟨false,g.start⟩ 0 w.length=true→packSum g w E S≤20000)∨
 (v=.tuple ⟨[.agg ⟨[.slice none 0 0,.int .i64 0]⟩,.int .i64 2]⟩∧stepB w E ⟨false,g.start⟩ 0 w.length=true∧∃L:List Key,L.Nodup∧(∀k∈L,Reachable g w E (rootKey g w) k)∧20000<packSum g w E L)
theorem keys_uniq{g:Gram}{w:List Nat}{E:List (List Nat)}{root:Key}{S S':List Key}(h:Keys g w E root S)(h':Keys g w E root S'):S=S':=by
 have hp:S.Perm S':=by
  rw[List.perm_ext_iff_of_nodup h.nodup h'.nodup]
  exact fun k=>⟨fun hk=>h'.all (h.reach k hk),fun hk=>h.all (h'.reach k hk)⟩
 refine List.Perm.eq_of_pairwise (le:=fun x y=>ltKey x y=true) (fun a b _ _ h1 h2=>?_) h.sorted h'.sorted hp
 have:=ltKey_swo.trans _ _ _ h1 h2
 rw[ltKey_swo.irrefl] at this;cases this
theorem fmake_spec(F:Frz)(hL:Laid F)(g:Gram)(hg:Valid g){ga:Option Addr}{gm gc:Nat}(hr:Arr tRule F ga gm gc g.rules){b:Option Addr}{n d:Nat}{w:List Nat}(hw:Arr tNat F b n d w)(hw12:w.length≤12)
  {a:Option Addr} {m c:Nat} {E:List (List Nat)} (hE:Arr (tList tU32) F a m c E) (hE2:EndsOk g.nons w.length E) :
  Abs.Spec CC 50 [.agg ⟨gramCells g ga gm gc⟩,.slice b n d,.slice a m c] F [] fun F' v o=>o=[]∧MakeRes g w E F' v:=by
 unfold gramCells
 refine Abs.Spec.fn (n:=21) Tryz.func50 rfl rfl fun own=>?_
 refine AW.seq (AW.reg ?_)
 refine WT.boxT Z Z Z Z Z Z (fun i2 hi2=>?_)
 refine WT.allocT hT Z Z Z Z Z Z (fun i4 hi4=>?_)
 refine zB4 ?_
 refine WT.callF0 Tryz.func75 Z Z Z Z Z Z (build_spec _ hL g hg hr hw hw12 hE hE2 20000 (by decide)) (fun F2 v hF2 hv=>?_)
 have hres:(∃a n c r,v=.tuple ⟨[.agg ⟨[.slice a n c,.int .i64 r]⟩,.bool true]⟩∧ForestV g w E F2 (.agg ⟨[.slice a n c,.int .i64 r]⟩)∧∀S,Keys g w E (rootKey g w) S→stepB w E ⟨false,g.start⟩ 0 w.length=true→packSum g w E S≤20000)∨
   (v=.tuple ⟨[.agg ⟨[.slice none 0 0,.int .i64 0]⟩,.bool false]⟩∧stepB w E ⟨false,g.start⟩ 0 w.length=true∧∃L:List Key,L.Nodup∧(∀k∈L,Reachable g w E (rootKey g w) k)∧20000<packSum g w E L):=by
  rcases hv with ⟨h1,rfl⟩ | ⟨h1,h2⟩
  ·exact .inl ⟨_,_,_,_,rfl,.inl ⟨h1,rfl⟩,fun S _ h2=>by rw[h1] at h2;cases h2⟩
  ·rcases h2 with ⟨S,a,n,c,rfl,hK,hA,hs⟩ | ⟨rfl,hL⟩
   ·exact .inl ⟨_,_,_,_,rfl,.inr ⟨h1,S,a,n,c,rfl,hK,hA⟩,fun S' hS' _=>by rw[keys_uniq hS' hK];exact hs⟩
   ·exact .inr ⟨rfl,h1,hL⟩
 clear hv
 rcases hres with ⟨xa,xn,xc,xr,rfl,hx,hx2⟩ | ⟨rfl,hx,hx2⟩
 ·refine zB4 ?_
  refine WT.allocT hT Z Z Z Z Z Z (fun i5 hi5=>?_)
  refine zB4 ?_
  refine AW.cond Z (fun h=>(by cases h)) (fun h=>?_)
  refine zB4 ?_
  exact AW.ret ⟨_,[],⟨_,_,⟨_,rfl,fun G h0 s0=>loadA_cells (s0.has (p:=1) rfl me) (readT_ok hT rfl)⟩,⟨_,_,rfl,rfl,rfl⟩,rfl⟩,zsb,rfl,.inl ⟨_,_,_,_,_,rfl,rfl,hx,hx2⟩⟩
 ·refine zB4 ?_
  refine WT.allocT hT Z Z Z Z Z Z (fun i5 hi5=>?_)
  refine zB4 ?_
  refine AW.cond Z (fun _=>?_) (fun h=>(by cases h))
  refine zB4 ?_
  exact AW.ret ⟨_,[],⟨_,_,⟨_,rfl,fun G h0 s0=>loadA_cells (s0.has (p:=1) rfl me) (readT_ok hT rfl)⟩,⟨_,_,rfl,rfl,rfl⟩,rfl⟩,zsb,rfl,.inr ⟨rfl,hx,hx2⟩⟩
theorem forestOf_spec(F:Frz)(hL:Laid F)(g:Gram)(hg:Valid g){ga:Option Addr}{gm gc:Nat}(hr:Arr tRule F ga gm gc g.rules){b:Option Addr}{n d:Nat}{w:List Nat}(hw:Arr tNat F b n d w)(hw12:w.length≤12)(hw2:∀t∈w,t<g.terms) :
  Abs.Spec CC 15 [.agg ⟨gramCells g ga gm gc⟩,.slice b n d] F [] fun F' v o=>o=[]∧∃E,EndsOf g w E∧MakeRes g w E F' v:=by
 unfold gramCells
 refine Abs.Spec.fn (n:=26) Tryz.func15 rfl rfl fun own=>?_
 refine AW.seq (AW.reg ?_)
 refine WT.boxT Z Z Z Z Z Z (fun i2 hi2=>?_)
 refine WT.allocT hT Z Z Z Z Z Z (fun i4 hi4=>?_)
 refine zB4 ?_
 refine WT.callV Tryz.func9 Z Z Z Z Z Z (accepts_spec _ hL g hg hr hw hw12 hw2) (fun v hv=>?_)
 subst hv
 refine zB4 ?_
 refine AW.cond Z (fun h=>(by cases h)) (fun h=>?_)
 refine zB4 ?_
 refine AW.draw (ps:=[(0,4)]) Z Z ?_
 refine zB4 ?_
 refine WT.callF0 Tryz.func38 Z Z Z Z Z Z (ends_spec _ hL g hg hr hw zo) (fun F1 v hF1 hv=>?_)
 obtain⟨ea,ec,E,rfl,hE,hE2⟩:=hv
 refine WT.callF0 Tryz.func50 Z Z Z Z Z Z (fmake_spec _ (hL.mono hF1) g hg (hr.mono hF1) (hw.mono hF1) hw12 hE hE2.ok) (fun F2 v hF2 hv=>?_)
 rcases hv with ⟨s,a,n',c,r,rfl,rfl,hx,hx2⟩ | ⟨rfl,hx,hx2⟩
 ·refine zB4 ?_
  refine⟨zrC,?_⟩
  exact AW.ret ⟨_,[],⟨_,_,⟨_,rfl,fun G h0 s0=>loadA_cells (s0.has (p:=0) rfl me) (readT_ok hT rfl)⟩,⟨_,_,rfl,rfl,rfl⟩,rfl⟩,zsb,rfl,E,hE2,.inl ⟨_,_,_,_,_,rfl,rfl,hx,hx2⟩⟩
 ·refine zB4 ?_
  refine⟨zrC,?_⟩
  exact AW.ret ⟨_,[],⟨_,_,⟨_,rfl,fun G h0 s0=>loadA_cells (s0.has (p:=0) rfl me) (readT_ok hT rfl)⟩,⟨_,_,rfl,rfl,rfl⟩,rfl⟩,zsb,rfl,E,hE2,.inr ⟨rfl,hx,hx2⟩⟩
structure CpS where
 j:Nat
 a:Option Addr
 c:Nat
 B:List (Nat×Blk)
theorem mono_le{T:Nat→Nat}(hm:∀d,T d≤T (d+1)){d e:Nat}(h:d≤e):T d≤T e:=by
 induction e with
 | zero => obtain rfl : d = 0 := by omega
           exact Nat.le_refl _
 | succ e ih=>
  rcases Nat.lt_or_ge d (e+1) with h2 | h2
  ·exact Nat.le_trans (ih zo) (hm e)
  ·obtain rfl:d=e+1:=by omega
   exact Nat.le_refl _
theorem CountVal.some{T:Nat→Nat}{c:Int}(h:CountVal T c)(hc:c≠0):∃d,1≤T d:=by
 rcases h with ⟨n,⟨D,hD⟩,h2⟩ | ⟨h,_⟩
 ·refine⟨D,?_⟩
  rw[hD D (Nat.le_refl _)]
  rcases Nat.eq_zero_or_pos n with e | e
  ·subst e;exact absurd h2 (by simpa using hc)
  ·exact e
 ·exact h 1
end Go.Proofs.D
set_option linter.unusedVariables false
set_option maxRecDepth 20000
set_option maxHeartbeats 0
open Go Go.Abs Go.Proofs Go.Proofs.D
namespace Go.Abs
section
variable {C:Ctx}{T:RT}{n:Nat}{k:Kno}{F:Frz}{own:Own}{ops rest:List Oper}{o:Oper}{Q:Kno→Frz→Own→List Rec→Prop}{args':List Value}
theorem WT.callCF0{f:FuncId}{fn:Func}{fo:Operand}{as_:Array Operand}{ts:Array TypeId}{args args' first capt:List Value}{P:Frz→Value→Prop}(hf:C.func f=some fn)(hb:fn.body.isSome=true)(hop:o.op=.call ⟨.value fo,as_,ts⟩)
  (hw:wantK ops k o=some true) {dst:Nat} (hdst:o.dst=some dst) (hn:Nat.blt dst n=true) (hfo:evK C k fo=some (.func (.func f) ⟨first⟩ ⟨capt⟩)) (hv:vals (evK C k) as_.toList=some args) (hargs:first++args++capt=args') (spec:Spec C f args' F [] fun F' v o=>o=[]∧P F' v)
  (h:∀F' v,Frz.le F F'→P F' v→WT C n ops rest ((dst,v)::k) F' own (fun k2 F2 own2 rs=>Q k2 F2 own2 (⟨F,own,F',own,[]⟩::rs))) :
  WT C n ops (o::rest) k F own Q:=by
 subst hargs
 refine WT.step (l:=[]) (by rw[hop];rfl) fun e h' hk hs=>?_
 obtain⟨v,h1,F1,oout,⟨m,hd⟩,hF,hs1,rfl,hp⟩:=spec own h' hs
 refine⟨v,h1,F1,own,⟨m,fun N hN=>?_⟩,hF,hs1,by rw[hdst,putK_some hn];exact h F1 v hF hp⟩
 unfold stepA
 rw[wantK_ok hk hw]
 have:opA C (evK C k) h' o.op=some (.call f (first++args++capt)):=by
  rw[hop]
  simp only[opA,hfo,hv,callA_func hf hb]
 simp only[opA_mono hk.eval this,hd N hN]
end
end Go.Abs
namespace Go.Proofs.D
def tBool:Ty Bool where
 size:=1
 rel:=fun _ l x=>l=[.bool x]
 len:=fun _ _ _ h=>by subst h;rfl
 one:=fun _ _ _ h=>by subst h;rfl
 mono:=fun _ _ _ _ _ h=>h
def Chain(to:Nat):List Sym→Nat→List Key→Prop
 | [],i,ks=>ks=[]∧i=to
 | s::l,i,ks=>∃q ks',ks=q::ks'∧q.sym=s∧q.frm=i∧Chain to l q.to ks'
theorem splits_chain{w:List Nat}{E:List (List Nat)}{to:Nat}:∀{l:List Sym} {i:Nat} {ks:List Key},ks∈splits w E to l i→Chain to l i ks
 | [],i,ks,h=>by
  unfold splits at h
  split at h
  ·rename_i h1
   exact⟨List.mem_singleton.1 h,h1⟩
  ·cases h
 | s::l,i,ks,h=>by
  unfold splits at h
  obtain⟨m,_,hm⟩:=List.mem_flatMap.1 h
  split at hm
  ·obtain⟨ks',h2,rfl⟩:=List.mem_map.1 hm
   exact⟨_,ks',rfl,rfl,rfl,splits_chain h2⟩
  ·cases hm
structure PackOk(g:Gram)(S:List Key)(k:Key)(p:NPack)(kp:KPack):Prop where
 num:p=numPack S kp
 rule:∃r,g.rules[kp.rule]?=some r∧r.left=k.sym.n∧Chain k.to r.right k.frm kp.kids
 ins:∀q∈kp.kids,q∈S
structure NodeOk(g:Gram)(w:List Nat)(S:List Key)(k:Key)(x:Node):Prop where
 key:x.key=k
 term:k.sym.term=true→k.to=k.frm+1∧k.to≤w.length∧w[k.frm]?=some k.sym.n∧x.packs=[]
 non:k.sym.term=false→x.packs≠[]
 pack:∀p∈x.packs,∃kp,PackOk g S k p kp
 sorted:x.packs.Pairwise fun x y=>cmpNPack x y<0
theorem packsOf_term{g:Gram}{w:List Nat}{E:List (List Nat)}{k:Key}(h:k.sym.term=true):packsOf g w E k=[]:=by
 rw[List.eq_nil_iff_forall_not_mem]
 intro p hp
 obtain⟨r,_,_,h3,_⟩:=mem_packsOf.1 hp
 rw[h] at h3;cases h3
theorem stepB_term{w:List Nat}{E:List (List Nat)}{n i j:Nat}(h:stepB w E ⟨true,n⟩ i j=true):j=i+1∧w[i]?=some n:=by
 rw[stepB_iff] at h
 have h:Step w E ⟨true,n⟩ i j:=h
 unfold Step at h
 simp only[if_true] at h
 exact⟨h.2,h.1⟩
theorem node_shape{g:Gram}(hg:Valid g){w:List Nat}{E:List (List Nat)}(hE:EndsOf g w E){root:Key}{S:List Key}(hK:Keys g w E root S)(hroot:GoodKey g w root)(hrs:StepK w E root){k:Key}(hk:k∈S):NodeOk g w S k (mkNode g w E S k) where
 key:=rfl
 term:=fun h=>by
  have hgood:=(hK.reach k hk).good hg hroot
  have hst:=(hK.reach k hk).step hrs
  obtain⟨⟨kt,kn⟩,kf,ko⟩:=k
  have h:kt=true:=h
  subst h
  obtain⟨h1,h2⟩:=stepB_term hst
  refine⟨h1,hgood.2.2,h2,?_⟩
  unfold mkNode
  rw[packsOf_term rfl];rfl
 non:=fun h hn=>by
  have hp:=nodes_prod hg hE hK hroot hrs
  obtain⟨v,hv,hvk⟩:=List.getElem_of_mem hk
  obtain⟨d,hd⟩:=hp v (by rw[List.length_map];exact hv)
  have hx:(S.map (mkNode g w E S))[v]?=some (mkNode g w E S k):=by rw[List.getElem?_map,gE hv,hvk];rfl
  cases d with
  | zero=>simp[nodeT] at hd
  | succ d=>
   unfold nodeT at hd
   rw[hx] at hd
   simp only at hd
   rw[hn] at hd
   simp[leafN,mkNode,h] at hd
 pack:=fun p hp=>by
  obtain⟨kp,hkp,rfl⟩:=List.mem_map.1 hp
  obtain⟨r,h1,h2,_,h3⟩:=mem_packsOf.1 hkp
  exact⟨kp,rfl,⟨r,h1,h2,splits_chain h3⟩,fun q hq=>hK.closed k hk kp hkp q hq⟩
 sorted:=(node_sorted hK hk).imp fun h=>h.2
structure RowTo(g:Gram)(w:List Nat)(n i j:Nat)(row:List Nat):Prop where
 len:row.length=w.length+1
 bit:∀p x,row[p]?=some x→∀q,x.testBit q=true↔((p<i∨(p=i∧q<j))∧Der g w ⟨false,n⟩ p q)
theorem RowTo.skip{g:Gram}{w:List Nat}{n i j:Nat}{row:List Nat}(h:RowTo g w n i j row)(hd:¬Der g w ⟨false,n⟩ i j):RowTo g w n i (j+1) row where
 len:=h.len
 bit:=fun p x hx q=>by
  rw[h.bit p x hx q]
  constructor
  ·rintro⟨h1,h2⟩
   exact⟨by omega,h2⟩
  ·rintro⟨h1 | ⟨rfl,h1⟩,h2⟩
   ·exact⟨.inl h1,h2⟩
   ·rcases Nat.lt_or_ge q j with h3 | h3
    ·exact⟨.inr ⟨rfl,h3⟩,h2⟩
    ·obtain rfl:q=j:=by omega
     exact absurd h2 hd
structure PtS where
 a:Option Addr
 m:Nat
 c:Nat
 B:List (Nat×Blk)
 vs:List Value
 bs:List (Nat×Blk)
 E:List (List Nat)
theorem packEqF_spec(F:Frz){a b:Option Addr}{m c d:Nat}{xs:List NPack}(hx:Arr tNPack F a m c xs)(hy:Arr tNPack F b m d xs)(hm:m≤1000000)
  (hcmp:∀G lx ly (x:NPack),x∈xs→tNPack.rel G lx x→tNPack.rel G ly x→Abs.Spec CC 131 [.agg ⟨lx⟩,.agg ⟨ly⟩] G [] fun _ v o=>o=[]∧v=.bool true) :
  Abs.Spec CC 130 [.slice a m c,.slice b m d,.func (.func 131) ⟨[]⟩ ⟨[]⟩] F [] fun _ v o=>o=[]∧v=.bool true:=by
 refine Abs.Spec.fn (n:=32) Tryz.func130 rfl rfl fun own=>?_
 have hxlen:=hx.len
 refine zB4 ?_
 refine AW.cond Z (fun h=>(by exfalso;simp at h)) (fun _=>?_)
 refine zB4 ?_
 refine AW.range (S:=Unit) (fun _=>[]) (fun _=>own) (fun j _ G=>True) m () Z Z Z Z Z Z Z Z Z zo Z Z (fun _=>rfl) (fun _=>rfl) sM oR trivial ?_ ?_
 ·intro j _ F1 hF1 hj hP
  have hx1:=hx.mono hF1
  have hy1:=hy.mono hF1
  refine zB4 ?_
  refine WT.idxL hT hx1 Z Z Z Z Z Z Z Z Z zo (fun x hxj b1 off ro cs lx hb hp1 hrel=>?_)
  have hrelx:=hrel
  obtain⟨xa,xn,xc,rfl,_⟩:=hrel
  refine zB4 ?_
  refine WT.allocT hT Z Z Z Z Z Z (fun i8 hi8=>?_)
  refine zB4 ?_
  refine WT.idxL hT hy1 Z Z Z Z Z Z Z Z Z zo (fun y hyj b2 off2 ro2 cs2 ly hb2 hp2 hrel=>?_)
  obtain rfl:y=x:=by rw[hxj] at hyj;exact(Option.some.inj hyj).symm
  have hrely:=hrel
  obtain⟨ya,yn,yc,rfl,_⟩:=hrel
  refine zB4 ?_
  refine WT.allocT hT Z Z Z Z Z Z (fun i9 hi9=>?_)
  refine zB4 ?_
  refine WT.callC Tryz.func131 Z Z Z Z Z Z Z Z (hcmp _ _ _ y (gM hxj) hrelx hrely) (fun v hv=>?_)
  subst hv
  refine zB4 ?_
  refine AW.cond Z (fun h=>(by cases h)) (fun _=>?_)
  refine zB4 ?_
  exact⟨(),sM,OwnLe.skip _ (OwnLe.skip _ oR),trivial⟩
 ·intro _ F1 hF1 hP
  refine zB4 ?_
  exact AW.ret ⟨_,[],⟨_,_,rfl,rfl,rfl⟩,zsb,rfl,rfl⟩
theorem nodeEqF_spec(F:Frz){a b:Option Addr}{m c d:Nat}{xs:List Node}(hx:Arr tNode F a m c xs)(hy:Arr tNode F b m d xs)(hm:m≤1000000)
  (hcmp:∀G lx ly (x:Node),x∈xs→tNode.rel G lx x→tNode.rel G ly x→Abs.Spec CC 129 [.agg ⟨lx⟩,.agg ⟨ly⟩] G [] fun _ v o=>o=[]∧v=.bool true) :
  Abs.Spec CC 128 [.slice a m c,.slice b m d,.func (.func 129) ⟨[]⟩ ⟨[]⟩] F [] fun _ v o=>o=[]∧v=.bool true:=by
 refine Abs.Spec.fn (n:=32) Tryz.func128 rfl rfl fun own=>?_
 have hxlen:=hx.len
 refine zB4 ?_
 refine AW.cond Z (fun h=>(by exfalso;simp at h)) (fun _=>?_)
 refine zB4 ?_
 refine AW.range (S:=Unit) (fun _=>[]) (fun _=>own) (fun j _ G=>True) m () Z Z Z Z Z Z Z Z Z zo Z Z (fun _=>rfl) (fun _=>rfl) sM oR trivial ?_ ?_
 ·intro j _ F1 hF1 hj hP
  have hx1:=hx.mono hF1
  have hy1:=hy.mono hF1
  refine zB4 ?_
  refine WT.idxL hT hx1 Z Z Z Z Z Z Z Z Z zo (fun x hxj b1 off ro cs lx hb hp1 hrel=>?_)
  have hrelx:=hrel
  obtain⟨xa,xn,xc,rfl,_⟩:=hrel
  refine zB4 ?_
  refine WT.allocT hT Z Z Z Z Z Z (fun i8 hi8=>?_)
  refine zB4 ?_
  refine WT.idxL hT hy1 Z Z Z Z Z Z Z Z Z zo (fun y hyj b2 off2 ro2 cs2 ly hb2 hp2 hrel=>?_)
  obtain rfl:y=x:=by rw[hxj] at hyj;exact(Option.some.inj hyj).symm
  have hrely:=hrel
  obtain⟨ya,yn,yc,rfl,_⟩:=hrel
  refine zB4 ?_
  refine WT.allocT hT Z Z Z Z Z Z (fun i9 hi9=>?_)
  refine zB4 ?_
  refine WT.callC Tryz.func129 Z Z Z Z Z Z Z Z (hcmp _ _ _ y (gM hxj) hrelx hrely) (fun v hv=>?_)
  subst hv
  refine zB4 ?_
  refine AW.cond Z (fun h=>(by cases h)) (fun _=>?_)
  refine zB4 ?_
  exact⟨(),sM,OwnLe.skip _ (OwnLe.skip _ oR),trivial⟩
 ·intro _ F1 hF1 hP
  refine zB4 ?_
  exact AW.ret ⟨_,[],⟨_,_,rfl,rfl,rfl⟩,zsb,rfl,rfl⟩
theorem samePack_spec(F:Frz){lx ly:List Value}(x:NPack)(hx:tNPack.rel F lx x)(hy:tNPack.rel F ly x):Abs.Spec CC 131 [.agg ⟨lx⟩,.agg ⟨ly⟩] F [] fun _ v o=>o=[]∧v=.bool true:=by
 obtain⟨xa,xn,xc,rfl,hxa,hxb⟩:=hx
 obtain⟨ya,yn,yc,rfl,hya,hyb⟩:=hy
 have hxl:=hxa.len
 have hyl:=hya.len
 refine Abs.Spec.fn (n:=17) Tryz.func131 rfl rfl fun own=>?_
 refine AW.seq (AW.reg ?_)
 refine WT.boxT Z Z Z Z Z Z (fun i2 hi2=>?_)
 refine WT.boxT Z Z Z Z Z Z (fun i3 hi3=>?_)
 refine zB4 ?_
 refine WT.know (v':=.bool true) 10 Z (by congr 1;simp) ?_
 refine zB4 ?_
 refine WT.callV Tryz.func45 Z Z Z Z Z Z (equal_spec _ hxa hya zo) (fun v hv=>?_)
 subst hv
 rw[decide_eq_true rfl]
 refine zB4 ?_
 exact AW.ret ⟨_,[],⟨_,_,rfl,rfl,rfl⟩,zsb,rfl,rfl⟩
theorem sameNode_spec(F:Frz){lx ly:List Value}(x:Node)(hf:x.packs.length≤1000000)(hx:tNode.rel F lx x)(hy:tNode.rel F ly x):Abs.Spec CC 129 [.agg ⟨lx⟩,.agg ⟨ly⟩] F [] fun _ v o=>o=[]∧v=.bool true:=by
 obtain⟨xa,xn,xc,rfl,hxa⟩:=hx
 obtain⟨ya,yn,yc,rfl,hya⟩:=hy
 obtain rfl:yn=xn:=by rw[hxa.len,hya.len]
 have hxl:=hxa.len
 refine Abs.Spec.fn (n:=31) Tryz.func129 rfl rfl fun own=>?_
 refine AW.seq (AW.reg ?_)
 refine WT.boxT Z Z Z Z Z Z (fun i2 hi2=>?_)
 refine WT.boxT Z Z Z Z Z Z (fun i3 hi3=>?_)
 refine zB4 ?_
 refine WT.know (v':=.bool true) 10 Z (by congr 1;simp) ?_
 refine zB4 ?_
 refine WT.know (v':=.bool true) 17 Z (by congr 1;simp) ?_
 refine zB4 ?_
 refine WT.know (v':=.bool true) 24 Z (by congr 1;simp) ?_
 refine zB4 ?_
 refine WT.callV Tryz.func130 Z Z Z Z Z Z (packEqF_spec _ hxa hya zo (fun G lx ly x _ h1 h2=>samePack_spec G x h1 h2)) (fun v hv=>?_)
 subst hv
 refine zB4 ?_
 exact AW.ret ⟨_,[],⟨_,_,rfl,rfl,rfl⟩,zsb,rfl,rfl⟩
theorem same_spec(F:Frz){a b:Option Addr}{m c d:Nat}{r:Int}{Ns:List Node}(hf:∀x∈Ns,x.packs.length≤1000000)(hm:m≤1000000)(hx:Arr tNode F a m c Ns)(hy:Arr tNode F b m d Ns) :
  Abs.Spec CC 110 [.agg ⟨[.slice a m c,.int .i64 r]⟩,.agg ⟨[.slice b m d,.int .i64 r]⟩] F [] fun _ v o=>o=[]∧v=.bool true:=by
 refine Abs.Spec.fn (n:=17) Tryz.func110 rfl rfl fun own=>?_
 refine AW.seq (AW.reg ?_)
 refine WT.boxT Z Z Z Z Z Z (fun i2 hi2=>?_)
 refine WT.boxT Z Z Z Z Z Z (fun i3 hi3=>?_)
 refine zB4 ?_
 refine WT.know (v':=.bool true) 10 Z (by congr 1;simp) ?_
 refine zB4 ?_
 refine WT.callV Tryz.func128 Z Z Z Z Z Z (nodeEqF_spec _ hx hy hm (fun G lx ly x hx2 h1 h2=>sameNode_spec G x (hf x hx2) h1 h2)) (fun v hv=>?_)
 subst hv
 refine zB4 ?_
 exact AW.ret ⟨_,[],⟨_,_,rfl,rfl,rfl⟩,zsb,rfl,rfl⟩
theorem sum_sub{α:Type}[DecidableEq α](f:α→Nat):∀(L S:List α),L.Nodup→(∀x∈L,x∈S)→(L.map f).sum≤(S.map f).sum
 | [],S,_,_=>Nat.zero_le _
 | x::L,S,hn,hs=>by
  obtain⟨h1,h2⟩:=List.nodup_cons.1 hn
  have hp:=List.perm_cons_erase (hs x me)
  have:=(hp.map f).sum_nat
  rw[this,List.map_cons,List.map_cons,List.sum_cons,List.sum_cons]
  refine Nat.add_le_add_left (sum_sub f L (S.erase x) h2 fun y hy=>?_) _
  rw[List.mem_erase_of_ne (by rintro rfl;exact h1 hy)]
  exact hs y (List.mem_cons_of_mem _ hy)
theorem makeRes_form{g:Gram}{w:List Nat}{E:List (List Nat)}{F:Frz}{v:Value}(h:MakeRes g w E F v):∃a n c r e,v=.tuple ⟨[.agg ⟨[.slice a n c,.int .i64 r]⟩,.int .i64 e]⟩:=by
 rcases h with ⟨s,a,n,c,r,rfl,rfl,_⟩ | ⟨rfl,_⟩
 ·exact⟨_,_,_,_,_,rfl⟩
 ·exact⟨_,_,_,_,_,rfl⟩
theorem makeRes_cases{g:Gram}{w:List Nat}{E:List (List Nat)}{F:Frz}{a:Option Addr}{n c:Nat}{r e:Int}(h:MakeRes g w E F (.tuple ⟨[.agg ⟨[.slice a n c,.int .i64 r]⟩,.int .i64 e]⟩)) :
  (e=0∧((stepB w E ⟨false,g.start⟩ 0 w.length=false∧a=none∧n=0∧c=0∧r=-1)∨
   (stepB w E ⟨false,g.start⟩ 0 w.length=true∧∃S,r=(place S (rootKey g w):Nat)∧Keys g w E (rootKey g w) S∧Arr tNode F a n c (S.map (mkNode g w E S))∧packSum g w E S≤20000)))∨
  (e=2∧a=none∧n=0∧c=0∧r=0∧stepB w E ⟨false,g.start⟩ 0 w.length=true∧∃L:List Key,L.Nodup∧(∀k∈L,Reachable g w E (rootKey g w) k)∧20000<packSum g w E L):=by
 rcases h with ⟨s,a',n',c',r',hs,he,hx,hx2⟩ | ⟨he,hx,hx2⟩
 ·subst hs
  cases he
  refine .inl ⟨rfl,?_⟩
  rcases hx with ⟨h1,h2⟩ | ⟨h1,S,a2,n2,c2,h2,hK,hA⟩
  ·cases h2
   exact .inl ⟨h1,rfl,rfl,rfl,rfl⟩
  ·cases h2
   exact .inr ⟨h1,S,rfl,hK,hA,hx2 S hK h1⟩
 ·cases he
  exact .inr ⟨rfl,rfl,rfl,rfl,rfl,hx,hx2⟩
theorem makeRes_pair{g:Gram}(hg:Valid g){w:List Nat}(hw12:w.length≤12){E:List (List Nat)}{F F':Frz}{a a':Option Addr}{n n' c c':Nat}{r r' e e':Int}(h:MakeRes g w E F (.tuple ⟨[.agg ⟨[.slice a n c,.int .i64 r]⟩,.int .i64 e]⟩))(h':MakeRes g w E F' (.tuple ⟨[.agg ⟨[.slice a' n' c',.int .i64 r']⟩,.int .i64 e']⟩)) :
  n'=n∧r'=r∧e'=e∧n≤1000000∧∃Ns,(∀x∈Ns,x.packs.length≤1000000)∧Arr tNode F a n c Ns∧Arr tNode F' a' n c' Ns:=by
 have big:∀{S L:List Key},Keys g w E (rootKey g w) S→packSum g w E S≤20000→L.Nodup→(∀k∈L,Reachable g w E (rootKey g w) k)→20000<packSum g w E L→False:=fun {S L} hK h1 h2 h3 h4=>by
  have:packSum g w E L≤packSum g w E S:=sum_sub _ L S h2 fun x hx=>hK.all (h3 x hx)
  omega
 rcases makeRes_cases h with ⟨he,h1⟩ | ⟨he,ha,hn,hc,hr,hst,L,hL1,hL2,hL3⟩
 ·rcases makeRes_cases h' with ⟨he',h1'⟩ | ⟨he',ha',hn',hc',hr',hst',L,hL1,hL2,hL3⟩
  ·rcases h1 with ⟨h2,ha,hn,hc,hr⟩ | ⟨h2,S,hr,hK,hA,hS⟩
   ·rcases h1' with ⟨h2',ha',hn',hc',hr'⟩ | ⟨h2',_⟩
    ·subst ha hn hc hr ha' hn' hc' hr'
     exact⟨rfl,rfl,by rw[he,he'],by omega,[],fun x hx=>(by cases hx),Arr.nil_ _ _,Arr.nil_ _ _⟩
    ·rw[h2] at h2';cases h2'
   ·rcases h1' with ⟨h2',_⟩ | ⟨h2',S',hr',hK',hA',hS'⟩
    ·rw[h2] at h2';cases h2'
    ·obtain rfl:=keys_uniq hK hK'
     have hnn:n'=n:=by rw[hA.len,hA'.len]
     subst hnn
     have hok:=nodes_ok hg hw12 hK (root_good hg w)
     exact⟨rfl,by rw[hr,hr'],by rw[he,he'],by have:=hok.few;rw[←hA.len] at this;exact this,_,hok.packs,hA,hA'⟩
  ·exfalso
   rcases h1 with ⟨h2,_⟩ | ⟨h2,S,hr,hK,hA,hS⟩
   ·rw[hst'] at h2;cases h2
   ·exact big hK hS hL1 hL2 hL3
 ·rcases makeRes_cases h' with ⟨he',h1'⟩ | ⟨he',ha',hn',hc',hr',_⟩
  ·exfalso
   rcases h1' with ⟨h2,_⟩ | ⟨h2,S,hr,hK,hA,hS⟩
   ·rw[hst] at h2;cases h2
   ·exact big hK hS hL1 hL2 hL3
  ·subst ha hn hc hr ha' hn' hc' hr'
   exact⟨rfl,rfl,by rw[he,he'],by omega,[],fun x hx=>(by cases hx),Arr.nil_ _ _,Arr.nil_ _ _⟩
theorem splits_few{w:List Nat}{E:List (List Nat)}{to:Nat}:∀{l:List Sym} {i:Nat},(splits w E to l i).length≤(to+1) ^ (l.length-1)
 | [],i=>by
  unfold splits
  split<;>simp
 | [s],i=>by
  unfold splits
  have:∀n,((List.range n).flatMap fun m=>if stepB w E s i m=true then (splits w E to [] m).map (⟨s,i,m⟩::·) else []).length≤if to<n then 1 else 0:=by
   intro n
   induction n with
   | zero=>simp
   | succ n ih=>
    rw[List.range_succ,List.flatMap_append,List.length_append]
    have h1:([n].flatMap fun m=>if stepB w E s i m=true then (splits w E to [] m).map (⟨s,i,m⟩::·) else []).length≤if n=to then 1 else 0:=by
     rw[List.flatMap_cons,List.flatMap_nil,List.append_nil]
     split
     ·rw[List.length_map]
      unfold splits
      split<;>simp
     ·simp
    split at ih<;>split at h1<;>split<;>omega
  refine Nat.le_trans (this (to+1)) ?_
  simp
 | s::t::l,i=>by
  unfold splits
  have:∀n,((List.range n).flatMap fun m=>if stepB w E s i m=true then (splits w E to (t::l) m).map (⟨s,i,m⟩::·) else []).length≤n*(to+1) ^ l.length:=by
   intro n
   induction n with
   | zero=>simp
   | succ n ih=>
    rw[List.range_succ,List.flatMap_append,List.length_append,Nat.add_mul,Nat.one_mul]
    refine Nat.add_le_add ih ?_
    rw[List.flatMap_cons,List.flatMap_nil,List.append_nil]
    split
    ·rw[List.length_map]
     exact splits_few (l:=t::l)
    ·simp
  refine Nat.le_trans (this (to+1)) ?_
  show _≤(to+1) ^ (l.length+1)
  rw[Nat.pow_succ,Nat.mul_comm]
  exact Nat.le_refl _
theorem sum_add{α:Type}(f h:α→Nat):∀l:List α,(l.map fun x=>f x+h x).sum=(l.map f).sum+(l.map h).sum
 | []=>rfl
 | x::l=>by
  rw[List.map_cons,List.map_cons,List.map_cons,List.sum_cons,List.sum_cons,List.sum_cons,sum_add f h l]
  omega
theorem sum_some{α:Type}(p:α→Bool)(f:α→Nat)(M:Nat):∀l:List α,(∀x∈l,f x≤M)→(∀x∈l,p x=false→f x=0)→(l.map f).sum≤(l.filter p).length*M
 | [],_,_=>by simp
 | x::l,h,h2=>by
  have ih:=sum_some p f M l (fun y hy=>h y (List.mem_cons_of_mem _ hy)) (fun y hy=>h2 y (List.mem_cons_of_mem _ hy))
  have h3:=h x me
  rw[List.map_cons,List.sum_cons]
  cases hp:p x with
  | true=>
   rw[List.filter_cons_of_pos hp,List.length_cons,Nat.add_mul,Nat.one_mul]
   omega
  | false=>
   rw[List.filter_cons_of_neg (by simp[hp]),h2 x me hp]
   omega
theorem sum_none{α:Type}{f:α→Nat}:∀{l:List α},(∀x∈l,f x=0)→(l.map f).sum=0
 | [],_=>rfl
 | x::l,h=>by
  rw[List.map_cons,List.sum_cons,h x me,sum_none fun y hy=>h y (List.mem_cons_of_mem _ hy)]
theorem packs_small{g:Gram}(hs:Small g){w:List Nat}(hw:w.length≤6){E:List (List Nat)}{L:List Key}(hn:L.Nodup)(hL:∀k∈L,GoodKey g w k):packSum g w E L≤20000:=by
 have key:∀i,(L.map fun k=>(packsAt g w E k i).length).sum≤2401:=by
  intro i
  cases hr:g.rules[i]? with
  | none=>
   have:(L.map fun k=>(packsAt g w E k i).length).sum=0:=by
    refine sum_none fun k _=>?_
    unfold packsAt
    rw[hr];rfl
   omega
  | some r=>
   have hok:=hs.ok r (gM hr)
   refine Nat.le_trans (sum_some (fun k=>decide (k.sym=⟨false,r.left⟩)) _ 49 L (fun k hk=>?_) (fun k hk hp=>?_)) ?_
   ·unfold packsAt
    rw[hr]
    show (if r.left=k.sym.n∧k.sym.term=false then (splits w E k.to r.right k.frm).map (KPack.mk i) else []).length≤49
    split
    ·rw[List.length_map]
     refine Nat.le_trans splits_few ?_
     have h1:=(hL k hk).2.2
     refine Nat.le_trans (Nat.pow_le_pow_left (show k.to+1≤7 by omega) _) ?_
     exact Nat.pow_le_pow_right (n:=7) (by decide) (show r.right.length-1≤2 by have:=hok.2.1;omega)
    ·simp
   ·unfold packsAt
    rw[hr]
    show (if r.left=k.sym.n∧k.sym.term=false then (splits w E k.to r.right k.frm).map (KPack.mk i) else []).length=0
    rw[if_neg ?_]
    ·rfl
    ·rintro⟨h1,h2⟩
     have:k.sym≠⟨false,r.left⟩:=by simpa using hp
     apply this
     obtain⟨⟨b,n⟩,_,_⟩:=k
     simp only at h1 h2
     rw[h1,h2]
   ·have hc:(L.filter fun k=>decide (k.sym=⟨false,r.left⟩)).length≤49:=by
     have h:=nodup_lt 49 ((L.filter fun k=>decide (k.sym=⟨false,r.left⟩)).map fun k=>k.frm*7+k.to) ?_ ?_
     ·rwa [List.length_map] at h
     ·rw[List.nodup_iff_pairwise_ne,List.pairwise_map]
      refine(List.nodup_iff_pairwise_ne.1 (hn.filter _)).imp_of_mem ?_
      intro a b ha hb hne he
      apply hne
      obtain⟨a1,a2⟩:=List.mem_filter.1 ha
      obtain⟨b1,b2⟩:=List.mem_filter.1 hb
      have a3:=(hL a a1).2
      have b3:=(hL b b1).2
      obtain⟨sa,af,ao⟩:=a
      obtain⟨sb,bf,bo⟩:=b
      have a2:sa=⟨false,r.left⟩:=by simpa using a2
      have b2:sb=⟨false,r.left⟩:=by simpa using b2
      simp only at he a3 b3
      simp only[Key.mk.injEq]
      exact⟨by rw[a2,b2],by omega,by omega⟩
     ·intro x hx
      obtain⟨k,hk,rfl⟩:=List.mem_map.1 hx
      have h1:=(hL k (List.mem_filter.1 hk).1).2
      omega
    omega
 have all:∀n,(L.map fun k=>((List.range n).flatMap (packsAt g w E k)).length).sum≤n*2401:=by
  intro n
  induction n with
  | zero=>
   have:(L.map fun k=>((List.range 0).flatMap (packsAt g w E k)).length).sum=0:=by
    exact sum_none fun k _=>rfl
   omega
  | succ n ih=>
   have e:(fun k=>((List.range (n+1)).flatMap (packsAt g w E k)).length)=fun k=>((List.range n).flatMap (packsAt g w E k)).length+(packsAt g w E k n).length:=by
    funext k
    rw[List.range_succ,List.flatMap_append,List.length_append,List.flatMap_cons,List.flatMap_nil,List.append_nil]
   rw[e,sum_add,Nat.add_mul,Nat.one_mul]
   exact Nat.add_le_add ih (key n)
 have:=all g.rules.length
 unfold packSum packsOf
 have:=hs.rules.2
 have:g.rules.length*2401≤8*2401:=Nat.mul_le_mul_right _ this
 omega
section
variable {g:Gram}{w:List Nat}{E:List (List Nat)}{root:Key}{S:List Key}
mutual
theorem der_keys(hE:EndsOf g w E)(hK:Keys g w E root S):∀{s:Sym} {i j:Nat},Der g w s i j→j≤w.length→⟨s,i,j⟩∈S→∀p,i≤p→p<j→∃t,w[p]?=some t∧(⟨⟨true,t⟩,p,p+1⟩:Key)∈S
 | _,i,_,.term h,hj,hS,p,h1,h2=>by
  obtain rfl:p=i:=by omega
  exact⟨_,h,hS⟩
 | _,i,j,.non (r:=r) hr hd,hj,hS,p,h1,h2=>by
  obtain⟨ks,hks,hall⟩:=ders_keys hE hK hd hj
  obtain⟨q,hq⟩:=List.getElem?_of_mem hr
  have hp:(⟨q,ks⟩:KPack)∈packsOf g w E ⟨⟨false,r.left⟩,i,j⟩:=mem_packsOf.2 ⟨r,hq,rfl,rfl,hks⟩
  exact hall (fun x hx=>hK.closed _ hS _ hp x hx) p h1 h2
theorem ders_keys(hE:EndsOf g w E)(hK:Keys g w E root S):∀{l:List Sym} {i j:Nat},Ders g w l i j→j≤w.length→∃ks∈splits w E j l i,((∀x∈ks,x∈S)→∀p,i≤p→p<j→∃t,w[p]?=some t∧(⟨⟨true,t⟩,p,p+1⟩:Key)∈S)
 | _,i,_,.nil,hj=>⟨[],by unfold splits;simp,fun _ p h1 h2=>by omega⟩
 | _,i,j,.cons (s:=s) (l:=l) (m:=m) h1 h2,hj=>by
  obtain⟨ks,hks,hall⟩:=ders_keys hE hK h2 hj
  have him:=der_le h1
  have hmj:m≤j:=ders_le h2
  refine⟨⟨s,i,m⟩::ks,?_,fun hS p hp1 hp2=>?_⟩
  ·unfold splits
   refine List.mem_flatMap.2 ⟨m,List.mem_range.2 zo,?_⟩
   rw[if_pos ((step_der hE zo).2 h1)]
   exact List.mem_map.2 ⟨ks,hks,rfl⟩
  ·rcases Nat.lt_or_ge p m with h | h
   ·exact der_keys hE hK h1 zo (hS _ me) p hp1 h
   ·exact hall (fun x hx=>hS x (List.mem_cons_of_mem _ hx)) p h hp2
end
theorem leaf_at(hE:EndsOf g w E)(hK:Keys g w E (rootKey g w) S)(hst:stepB w E ⟨false,g.start⟩ 0 w.length=true){p:Nat}(hp:p<w.length):∃t,w[p]?=some t∧(⟨⟨true,t⟩,p,p+1⟩:Key)∈S:=
 der_keys hE hK ((step_der hE (Nat.zero_le _)).1 hst) (Nat.le_refl _) hK.first p (Nat.zero_le _) hp
theorem leaf_is(hK:Keys g w E (rootKey g w) S)(hst:stepB w E ⟨false,g.start⟩ 0 w.length=true){k:Key}(hk:k∈S)(ht:k.sym.term=true):w[k.frm]?=some k.sym.n:=by
 have h:=(hK.reach k hk).step (root:=rootKey g w) hst
 have h2:=stepB_iff.1 h
 unfold Step at h2
 rw[if_pos ht] at h2
 exact h2.1
end
structure WordSeen(w:List Nat)(N:List Key)(j:Nat)(xs:List Int):Prop where
 len:xs.length=w.length
 seen:∀q k,q<j→N[q]?=some k→k.sym.term=true→xs[k.frm]?=some (k.sym.n:Int)
theorem WordSeen.mono{w:List Nat}{N:List Key}{j:Nat}{xs:List Int}(h:WordSeen w N j xs)(h2:∀k,N[j]?=some k→k.sym.term=false):WordSeen w N (j+1) xs:=
 ⟨h.len,fun q k hq hk ht=>by
  rcases Nat.lt_or_ge q j with h3 | h3
  ·exact h.seen q k h3 hk ht
  ·obtain rfl:q=j:=by omega
   rw[h2 k hk] at ht;cases ht⟩
theorem WordSeen.put{w:List Nat}{N:List Key}{j:Nat}{xs:List Int}(h:WordSeen w N j xs){k:Key}(hk:N[j]?=some k)(hlt:k.frm<w.length)(hw:∀k∈N,k.sym.term=true→w[k.frm]?=some k.sym.n)(ht:k.sym.term=true):WordSeen w N (j+1) (xs.set k.frm k.sym.n):=
 ⟨by rw[List.length_set];exact h.len,fun q k2 hq hk2 ht2=>by
  by_cases e:k.frm=k2.frm
  ·rw[←e,List.getElem?_set_self (by rw[h.len];exact hlt)]
   have h1:=hw k (gM hk) ht
   have h2:=hw k2 (gM hk2) ht2
   rw[e,h2] at h1
   rw[Option.some.inj h1]
  ·rw[List.getElem?_set_ne e]
   rcases Nat.lt_or_ge q j with h3 | h3
   ·exact h.seen q k2 h3 hk2 ht2
   ·obtain rfl:q=j:=by omega
    rw[hk] at hk2
    cases hk2
    exact absurd rfl e⟩
theorem arr_nats{F:Frz}{a:Option Addr}{n c:Nat}{xs:List Int}{w:List Nat}(h:Arr tInt F a n c xs)(hl:xs.length=w.length)(hx:∀(p t:Nat),w[p]?=some t→xs[p]?=some (t:Int)):Arr tNat F a n c w:=
 ⟨by rw[h.len,hl],h.cap,h.zero,h.nil,h.spot,fun j x hj=>h.el j x (hx j x hj)⟩
theorem ends_uniqT{g:Gram}{w:List Nat}{E E':List (List Nat)}(h:EndsOf g w E)(h':EndsOf g w E'):E=E':=by
 refine List.ext_getElem (by rw[h.ok.size,h'.ok.size]) fun n h1 h2=>?_
 have l1:=h.ok.row _ (List.getElem_mem h1)
 have l2:=h'.ok.row _ (List.getElem_mem h2)
 refine List.ext_getElem (by rw[l1,l2]) fun i h3 h4=>?_
 refine Nat.eq_of_testBit_eq fun q=>?_
 rw[Bool.eq_iff_iff]
 have e1:(E[n][i]).testBit q=true↔Der g w ⟨false,n⟩ i q:=by
  rw[←h.iff n i q zo]
  constructor
  ·intro hb;exact⟨_,_,gE h1,gE h3,hb⟩
  ·rintro⟨row,x,r1,r2,r3⟩
   rw[gE h1] at r1;cases r1
   rw[gE h3] at r2;cases r2
   exact r3
 have e2:(E'[n][i]).testBit q=true↔Der g w ⟨false,n⟩ i q:=by
  rw[←h'.iff n i q zo]
  constructor
  ·intro hb;exact⟨_,_,gE h2,gE h4,hb⟩
  ·rintro⟨row,x,r1,r2,r3⟩
   rw[gE h2] at r1;cases r1
   rw[gE h4] at r2;cases r2
   exact r3
 rw[e1,e2]
theorem mask32{x:Nat}(h:x<4294967296):intBinA .and .u64 (x:Int) 4294967295=some (.int .u64 (x:Int)):=by
 have:=and64 (x:=x) (y:=4294967295) zo (by decide)
 rw[show x &&& 4294967295=x by
  have:=Nat.and_two_pow_sub_one_eq_mod x 32
  rw[show 2 ^ 32-1=4294967295 from rfl] at this
  rw[this];exact Nat.mod_eq_of_lt h] at this
 exact this
theorem sh32z{x:Nat}(h:x<4294967296):shiftA .shr .u64 (x:Int) 32=some (.int .u64 0):=by
 have:=shr64 (x:=x) (y:=32) (by decide)
 rw[Nat.div_eq_of_lt (by exact h)] at this
 exact this
theorem mulz(y:Nat):intBinA .mul .u64 0 (y:Int)=some (.int .u64 0):=by
 have:=mul64 0 y;rw[Nat.zero_mul] at this;exact this
theorem zmul(y:Nat):intBinA .mul .u64 (y:Int) 0=some (.int .u64 0):=by
 have:=mul64 y 0;rw[Nat.mul_zero] at this;exact this
theorem muls{x y:Nat}(h:x*y<18446744073709551616):intBinA .mul .u64 (x:Int) (y:Int)=some (.int .u64 ((x*y:Nat):Int)):=by
 rw[mul64,Nat.mod_eq_of_lt h]
theorem mul64_spec(F:Frz)(x y:Nat)(hx:x<65536)(hy:y<65536):Abs.Spec CC 127 [.int .u64 x,.int .u64 y] F [] fun _ v o=>o=[]∧v=.tuple ⟨[.int .u64 0,.int .u64 ((x*y:Nat):Int)]⟩:=by
 have hxy:x*y<4294967296:=Nat.mul_lt_mul'' hx hy
 refine Abs.Spec.fn (n:=51) Tryz.func127 rfl rfl fun own=>?_
 refine zB4 ?_
 refine WT.binV Z Z Z Z Z Z (by decide) (mask32 zo) ?_
 refine zB4 ?_
 refine WT.shV Z Z Z Z Z Z (by decide) (sh32z zo) ?_
 refine zB4 ?_
 refine WT.binV Z Z Z Z Z Z (by decide) (mask32 zo) ?_
 refine zB4 ?_
 refine WT.shV Z Z Z Z Z Z (by decide) (sh32z zo) ?_
 refine zB4 ?_
 refine WT.binV Z Z Z Z Z Z (by decide) (muls zo) ?_
 refine zB4 ?_
 refine WT.binV Z Z Z Z Z Z (by decide) (mulz y) ?_
 refine zB4 ?_
 refine WT.shV Z Z Z Z Z Z (by decide) (sh32z hxy) ?_
 refine WT.binV (v:=.int .u64 0) Z Z Z Z Z Z (by decide) Z ?_
 refine zB4 ?_
 refine WT.binV (v:=.int .u64 0) Z Z Z Z Z Z (by decide) Z ?_
 refine zB4 ?_
 refine WT.shV (v:=.int .u64 0) Z Z Z Z Z Z (by decide) Z ?_
 refine zB4 ?_
 refine WT.binV Z Z Z Z Z Z (by decide) (zmul x) ?_
 refine WT.binV (v:=.int .u64 0) Z Z Z Z Z Z (by decide) Z ?_
 refine zB4 ?_
 refine WT.binV (v:=.int .u64 0) Z Z Z Z Z Z (by decide) Z ?_
 refine zB4 ?_
 refine WT.binV (v:=.int .u64 0) Z Z Z Z Z Z (by decide) Z ?_
 refine zB4 ?_
 refine WT.shV (v:=.int .u64 0) Z Z Z Z Z Z (by decide) Z ?_
 refine WT.binV (v:=.int .u64 0) Z Z Z Z Z Z (by decide) Z ?_
 refine zB4 ?_
 refine WT.binV Z Z Z Z Z Z (by decide) (muls zo) ?_
 refine zB4 ?_
 exact AW.ret ⟨_,[],⟨_,_,rfl,⟨_,_,rfl,rfl,rfl⟩,rfl⟩,zsb,rfl,rfl⟩
theorem mul_spec(F:Frz)(x y:Nat)(hx:x<65536)(hy:y<65536):Abs.Spec CC 109 [.int .u64 x,.int .u64 y] F [] fun _ v o=>o=[]∧v=.tuple ⟨[.int .u64 0,.int .u64 ((x*y:Nat):Int)]⟩:=by
 refine Abs.Spec.fn (n:=30) Tryz.func109 rfl rfl fun own=>?_
 refine zB4 ?_
 refine AW.cond Z (fun h=>(by cases h)) (fun _=>?_)
 refine zB4 ?_
 refine WT.callV Tryz.func127 Z Z Z Z Z Z (mul64_spec _ x y hx hy) (fun v hv=>?_)
 subst hv
 refine zB4 ?_
 exact AW.ret ⟨_,[],⟨_,_,rfl,⟨_,_,rfl,rfl,rfl⟩,rfl⟩,zsb,rfl,rfl⟩
theorem repeat_spec(F:Frz){b:Nat}{ro:Bool}{z:Int}(hb:F b=some (.cells ro [.int .i64 z]))(n:Nat)(hn:n<65536) :
  Abs.Spec CC 77 [.slice (some ⟨b,0,none⟩) 1 1,.int .i64 n] F [] fun F' v o=>∃B',o=[B']∧∃i,v=.slice (some ⟨i,0,none⟩) n (bif n==0 then 0 else 1)∧B'=[(i,.cells false (List.replicate n (.int .i64 z)))]:=by
 refine Abs.Spec.fn (n:=48) Tryz.func77 rfl rfl fun own=>?_
 refine zB4 ?_
 refine AW.cond Z (fun h=>(by simp at h;omega)) (fun _=>?_)
 refine zB4 ?_
 refine WT.conv hT (k2:=.u64) Z Z Z Z Z Z Z Z (wrapU64 (by decide)) ?_
 refine zB4 ?_
 refine WT.conv hT (k2:=.u64) Z Z Z Z Z Z Z Z (wrapU64 zo) ?_
 refine WT.callV Tryz.func109 Z Z Z Z Z Z (mul_spec _ 1 n (by decide) hn) (fun v hv=>?_)
 rw[Nat.one_mul] at hv
 subst hv
 (iterate 5 (refine WT.easy hT Z Z Z Z Z ?_))
 refine WT.nil ?_
 refine AW.seq (AW.seq (AW.reg ?_))
 (iterate 4 (refine WT.easy hT Z Z Z Z Z ?_))
 refine WT.binV (v:=.bool false) Z Z Z Z Z Z (by decide) ?_ ?_
 ·simp only[intBinA,Option.some.injEq,Value.bool.injEq,decide_eq_false_iff_not];omega
 refine zB4 ?_
 refine AW.cond Z (fun h=>(by cases h)) (fun _=>?_)
 refine zB4 ?_
 refine WT.conv hT (k2:=.i64) Z Z Z Z Z Z Z Z (wrap64 zo) ?_
 refine WT.makeT (by_:=8) hT Z Z Z Z Z Z Z Z Z Z Z Z zo (fun i7 hi7=>?_)
 refine zB4 ?_
 by_cases hn0:n=0
 ·subst hn0
  refine WT.copy0 hT Z Z Z Z Z Z (fun p hp=>by cases hp;rfl) Z Z Z Z ?_
  refine zB4 ?_
  refine AW.block ?_
  refine AW.loopR (S:=Unit) (fun _=>[]) (fun _=>_) (fun _ _=>True) (fun _=>0) () sM oR trivial ?_
  intro _ F2 hF2 _
  refine zB4 ?_
  refine AW.cond Z (fun h=>(by cases h)) (fun h=>?_)
  refine AW.exit ?_
  refine zB4 ?_
  exact AW.ret ⟨_,[_],⟨_,_,rfl,rfl,rfl⟩,zsb,_,rfl,_,rfl,rfl⟩
 ·have hmin:Nat.min 1 n=1:=Nat.min_eq_left zo
  refine WT.copyOwn (m:=1) (new:=[.int .i64 z]) hT 0 Z Z Z Z Z Z Z Z Z Z Z (fun h0 s0=>?_) Z (by simp) (by simp;omega) Z ?_
  ·rw[hmin]
   simp[firstA,cellsAt,s0.frz _ _ hb,partL]
  refine WT.know (v':=.int .i64 ((1:Nat):Int)) 33 Z (by rw[hmin]) ?_
  refine zB4 ?_
  refine AW.block ?_
  refine AW.loopR (S:=Nat) (fun j=>[(8,.int .i64 (j:Nat))]) (fun j=>[(i7,.cells false (List.replicate j (.int .i64 z)++List.replicate (n-j) (.int .i64 0)))]::own) (fun j _=>1≤j∧j≤n) (fun j=>n-j) 1
   sM (OwnLe.flat (List.Perm.of_eq ?_)) ⟨Nat.le_refl _,by omega⟩ ?_
  ·have:=spliceL_rep (x:=.int .i64 z) (z:=.int .i64 0) 0 n 1 zo
   simp only[List.replicate_zero,List.nil_append,Nat.zero_add] at this
   rw[←this]
   rfl
  intro j F2 hF2 ⟨hj1,hj2⟩
  refine zB4 ?_
  refine AW.cond Z (fun h=>?_) (fun h=>?_)
  ·have h:j<n:=by simpa using h
   refine zB4 ?_
   refine AW.block ?_
   refine AW.draw (ps:=[]) Z Z ?_
   refine zB4 ?_
   refine WT.slice Z Z Z Z Z Z Z Z (fun h0=>sliceA_some (lo:=j) (hi:=n) hT Z Z Z Z Z zo (Nat.le_refl _) (by cases n<;>simp) h0) ?_
   refine zB4 ?_
   refine WT.slice Z Z Z Z Z Z Z Z (fun h0=>sliceA_some (lo:=0) (hi:=j) hT Z Z Z Z Z (Nat.zero_le _) zo (by cases n<;>simp) h0) ?_
   skip
   obtain⟨q,hq⟩:∃q,Nat.min (j-0) (n-j)=q:=⟨_,rfl⟩
   have hq1:q≤n-j:=by rw[←hq];exact Nat.min_le_right _ _
   have hq2:q≤j:=by rw[←hq];exact Nat.min_le_left (j-0) (n-j)
   have hq3:0<q:=by
    have:0<min (j-0) (n-j):=by rw[Nat.lt_min];omega
    rw[←hq];exact this
   have hfit:0+j*1+(List.replicate q (Value.int .i64 z)).length≤(List.replicate j (Value.int .i64 z)++List.replicate (n-j) (Value.int .i64 0)).length:=by
    simp only[List.length_append,List.length_replicate];omega
   refine WT.copyOwn (m:=j-0) (new:=List.replicate q (.int .i64 z)) hT 0 Z Z Z Z Z Z Z Z Z Z Z (fun h0 s0=>?_) (by simp[Go.Abs.one]) (by intro e;have:=congrArg List.length e;simp at this;omega) hfit Z ?_
   ·have hb2:=s0.has (p:=0) rfl me
    have e0:(q==0)=false:=by simpa using Nat.ne_of_gt hq3
    rw[hq]
    simp only[firstA,e0,cond_false,cellsAt,hb2,Nat.mul_one]
    exact partL_rep _ _ _ hq2
   rw[show 0+j*1=j by omega,spliceL_rep _ _ _ hq1,hq]
   refine WT.addT Z Z Z Z Z Z zo ?_
   refine WT.know (v':=.int .i64 ((j+q:Nat):Int)) 46 Z (by rw[Int.natCast_add]) ?_
   refine zB4 ?_
   refine⟨j+q,by omega,sM,OwnLe.flat (List.Perm.of_eq ?_),by omega,by omega⟩
   rw[show n-(j+q)=n-j-q by omega]
  ·have h:j=n:=by simp at h;omega
   subst h
   skip
   refine AW.exit ?_
   refine zB4 ?_
   rw[Nat.sub_self]
   simp only[List.replicate_zero,List.append_nil]
   exact AW.ret ⟨_,[_],⟨_,_,rfl,rfl,rfl⟩,zsb,_,rfl,_,rfl,rfl⟩
theorem vec_rep{F:Frz}{i n:Nat}(z:Int):Vec tInt F (some ⟨i,0,none⟩) n (bif n==0 then 0 else 1) [(i,.cells false (List.replicate n (.int .i64 z)))] (List.replicate n z):=by
 refine⟨by simp,?_,fun h=>?_,fun h=>(by cases h),fun p hp=>(by cases hp;rfl),.inr ⟨i,_,rfl,rfl,?_,by decide⟩⟩
 ·cases n<;>simp[tInt]
 ·cases n with
  | zero=>rfl
  | succ n=>simp at h
 ·induction n with
  | zero=>exact .nil
  | succ n ih=>
   rw[List.replicate_succ,List.replicate_succ]
   exact Cells.cons (R:=tInt) (l:=[.int .i64 z]) rfl ih
structure LSt where
 O:List Int
 B:List (Nat×Blk)
 again:Bool
structure FV(g:Gram)(w:List Nat)(F:Frz)(a:Option Addr)(n c:Nat)(r:Int):Prop where
 res:∃E,EndsOf g w E∧MakeRes g w E F (.tuple ⟨[.agg ⟨[.slice a n c,.int .i64 r]⟩,.int .i64 0]⟩)
theorem FV.mono{g:Gram}{w:List Nat}{F G:Frz}{a:Option Addr}{n c:Nat}{r:Int}(h:FV g w F a n c r)(hF:Frz.le F G):FV g w G a n c r:=by
 obtain⟨E,hE,h⟩:=h.res
 refine⟨E,hE,?_⟩
 rcases h with ⟨s,xa,xn,xc,xr,h1,h2,h3,h4⟩ | ⟨h1,_⟩
 ·exact .inl ⟨s,xa,xn,xc,xr,h1,h2,h3.mono hF,h4⟩
 ·cases h1
theorem FV.cases{g:Gram}{w:List Nat}{F:Frz}{a:Option Addr}{n c:Nat}{r:Int}(h:FV g w F a n c r):∃E,EndsOf g w E∧ForestV g w E F (.agg ⟨[.slice a n c,.int .i64 r]⟩):=by
 obtain⟨E,hE,h⟩:=h.res
 rcases h with ⟨s,xa,xn,xc,xr,h1,h2,h3,h4⟩ | ⟨h1,_⟩
 ·cases h2
  exact⟨E,hE,h3⟩
 ·cases h1
theorem fcheck_spec(F:Frz)(hL:Laid F)(g:Gram)(hg:Valid g){ga:Option Addr}{gm gc:Nat}(hr:Arr tRule F ga gm gc g.rules){b:Option Addr}{n d:Nat}{w:List Nat}(hw:Arr tNat F b n d w)(hw12:w.length≤12)(hw2:∀t∈w,t<g.terms)
  {fa:Option Addr} {fn fc:Nat} {fr:Int} (hf:FV g w F fa fn fc fr) :
  Abs.Spec CC 78 [.agg ⟨gramCells g ga gm gc⟩,.slice b n d,.agg ⟨[.slice fa fn fc,.int .i64 fr]⟩] F [] fun F' v o=>o=[]∧v=.int .i64 0:=by
 unfold gramCells
 refine Abs.Spec.fn (n:=22) Tryz.func78 rfl rfl fun own=>?_
 refine AW.seq (AW.reg ?_)
 refine WT.boxT Z Z Z Z Z Z (fun i3 hi3=>?_)
 refine WT.boxT Z Z Z Z Z Z (fun i5 hi5=>?_)
 refine zB4 ?_
 refine WT.callF0 Tryz.func15 Z Z Z Z Z Z (forestOf_spec _ hL g hg hr hw hw12 hw2) (fun F1 v hF1 hv=>?_)
 obtain⟨E,hE,hv⟩:=hv
 obtain⟨E',hE',hv'⟩:=(hf.mono hF1).res
 obtain rfl:=ends_uniqT hE hE'
 obtain⟨xa,xn,xc,xr,xe,rfl⟩:=makeRes_form hv
 obtain⟨rfl,rfl,rfl,hn,Ns,hNs,hA,hA'⟩:=makeRes_pair hg hw12 hv' hv
 refine zB4 ?_
 refine WT.allocT hT Z Z Z Z Z Z (fun i7 hi7=>?_)
 refine zB4 ?_
 refine AW.cond Z (fun h=>(by cases h)) (fun h=>?_)
 refine zB4 ?_
 refine WT.callV Tryz.func110 Z Z Z Z Z Z (same_spec _ hNs hn hA hA') (fun v hv=>?_)
 subst hv
 refine zB4 ?_
 refine AW.cond Z (fun h=>(by cases h)) (fun h=>?_)
 refine zB4 ?_
 exact AW.ret ⟨_,[],⟨_,_,rfl,rfl,rfl⟩,zsb,rfl,rfl⟩
theorem fvalid_spec(F:Frz)(hL:Laid F)(g:Gram)(hg:Valid g){ga:Option Addr}{gm gc:Nat}(hr:Arr tRule F ga gm gc g.rules){w:List Nat}(hw12:w.length≤12)(hw2:∀t∈w,t<g.terms)
  {fa:Option Addr} {fn fc:Nat} {fr:Int} (hf:FV g w F fa fn fc fr) :
  Abs.Spec CC 51 [.agg ⟨gramCells g ga gm gc⟩,.agg ⟨[.slice fa fn fc,.int .i64 fr]⟩] F [] fun F' v o=>o=[]∧v=.int .i64 0:=by
 unfold gramCells
 obtain⟨E,hE,hV⟩:=hf.cases
 refine Abs.Spec.fn (n:=83) Tryz.func51 rfl rfl fun own=>?_
 refine AW.seq (AW.reg ?_)
 refine WT.boxT Z Z Z Z Z Z (fun i2 hi2=>?_)
 refine WT.boxT Z Z Z Z Z Z (fun i3 hi3=>?_)
 refine zB4 ?_
 refine WT.callV Tryz.func68 Z Z Z Z Z Z (check_spec _ g hg.range hr) (fun v hv=>?_)
 rw[hg.no_err] at hv
 subst hv
 refine zB4 ?_
 refine AW.cond Z (fun h=>(by cases h)) (fun h=>?_)
 rcases hV with ⟨hst,hv⟩ | ⟨hst,S,a,n,c,hv,hK,hA⟩
 ·cases hv
  refine zB4 ?_
  refine AW.cond Z (fun _=>?_) (fun h=>(by cases h))
  refine zB4 ?_
  exact AW.ret ⟨_,[],⟨_,_,rfl,rfl,rfl⟩,zsb,rfl,rfl⟩
 ·cases hv
  have hrm:=hK.first
  have hpl:=place_at hrm
  have hlt:=(gS hpl).1
  have hal:=hA.len
  rw[List.length_map] at hal
  have hok:=nodes_ok hg hw12 hK (root_good hg w)
  have hfew:=hok.few
  rw[List.length_map] at hfew
  have hpm:(S.map (mkNode g w E S))[place S (rootKey g w)]?=some (mkNode g w E S (rootKey g w)):=by rw[List.getElem?_map,hpl];rfl
  generalize hq:place S (rootKey g w)=root at *
  refine zB4 ?_
  refine AW.cond Z (fun h=>?_) (fun h=>?_)
  ·exfalso
   simp at h
  refine zB4 ?_
  refine AW.cond Z (fun h=>?_) (fun h=>?_)
  ·exfalso
   simp at h
   omega
  refine zB4 ?_
  refine WT.idxL hT hA Z Z Z Z Z Z Z Z Z (by rw[List.length_map];exact hlt) (fun nd hnd b5 off5 ro5 cs5 lx5 hb5 hp5 hrel5=>?_)
  obtain rfl:nd=mkNode g w E S (rootKey g w):=by rw[hpm] at hnd;exact(Option.some.inj hnd).symm
  obtain⟨pa,pn,pc,rfl,hpa⟩:=hrel5
  refine zB4 ?_
  refine AW.cond Z (fun h=>?_) (fun h=>?_)
  ·exfalso
   have e:(mkNode g w E S (rootKey g w)).key.to=w.length:=rfl
   simp[e] at h
   omega
  refine zB4 ?_
  refine WT.buildT hT Z Z Z Z Z Z Z Z Z Z Z Z Z Z (fun i11 hi11=>?_)
  refine WT.freezeAll 0 Z Z (fun F1 hF1 hB1=>?_)
  have hi11:=hB1 i11 _ me
  refine zB4 ?_
  refine WT.know (v':=.int .i64 (w.length:Nat)) 49 Z Z ?_
  refine WT.callN Tryz.func77 Z Z Z Z Z Z (repeat_spec _ hi11 w.length zo) (fun F2 v B2 hF2 hv=>?_)
  obtain⟨io,rfl,rfl⟩:=hv
  have hv0:=vec_rep (F:=F2) (i:=io) (n:=w.length) (-1)
  have hpos:∀k∈S,k.sym.term=true→w[k.frm]?=some k.sym.n:=fun k hk ht=>leaf_is hK hst hk ht
  refine zB4 ?_
  refine AW.range (S:=List Int×List (Nat×Blk)) (fun _=>[]) (fun s=>s.2::[]::[(i3,.cells false [.slice fa fn fc,.int .i64 (root:Nat)])]::[(i2,.cells false [.int .i64 g.terms,.int .i64 g.nons,.int .i64 g.start,.slice ga gm gc])]::own)
   (fun j s G=>Vec tInt G (some ⟨io,0,none⟩) w.length (bif w.length==0 then 0 else 1) s.2 s.1∧WordSeen w S j s.1) fn (_,_)
   Z Z Z Z Z Z Z Z Z zo rfl rfl (fun _=>rfl) (fun _=>rfl) sM oR ⟨hv0,by simp,fun q k hq=>by omega⟩ ?_ ?_
  ·intro j s F3 hF3 hj hP
   obtain⟨xs,B⟩:=s
   obtain⟨hv,hsn⟩:=hP
   dsimp only at hv hsn
   have hA3:=((hA.mono hF1).mono hF2).mono hF3
   have hjS:j<S.length:=by omega
   refine zB4 ?_
   refine WT.idxL hT hA3 Z Z Z Z Z Z Z Z Z (by rw[List.length_map];exact hjS) (fun nd3 hnd3 b6 off6 ro6 cs6 lx6 hb6 hp6 hrel6=>?_)
   obtain⟨k,hk,rfl⟩:∃k,S[j]?=some k∧nd3=mkNode g w E S k:=⟨S[j],gE hjS,by rw[List.getElem?_map,gE hjS] at hnd3;exact(Option.some.inj hnd3).symm⟩
   have hkS:=gM hk
   obtain⟨pa3,pn3,pc3,rfl,hpa3⟩:=hrel6
   refine zB4 ?_
   refine WT.allocT hT Z Z Z Z Z Z (fun i9 hi9=>?_)
   refine zB4 ?_
   refine AW.cond Z (fun h=>?_) (fun h=>?_)
   ·have hterm:k.sym.term=true:=h
    have hwk:=hpos k hkS hterm
    have hlt2:=(gS hwk).1
    have e2:(mkNode g w E S k).key=k:=rfl
    refine zB4 ?_
    have e3:(mkNode g w E S (rootKey g w)).key.to=w.length:=rfl
    refine AW.cond Z (fun h=>?_) (fun h=>?_)
    ·exfalso
     simp[e2,e3] at h
     omega
    refine zB4 ?_
    obtain⟨z,hz⟩:∃z,xs[k.frm]?=some z:=⟨_,gE (by rw[hsn.len];exact hlt2)⟩
    refine WT.vidx (j:=k.frm) hT hv Z Z Z Z Z Z Z Z Z hlt2 (fun b7 hb7=>?_)
    refine WT.vst (y:=(k.sym.n:Int)) hT 1 hv hb7 hz Z Z Z Z Z Z Z (fun _=>rfl) Z (fun B7 hB7=>?_)
    refine zB4 ?_
    exact⟨(xs.set k.frm k.sym.n,B7),sM,zow,hB7,hsn.put hk hlt2 hpos hterm⟩
   ·have hterm:k.sym.term=false:=h
    refine zB4 ?_
    exact⟨(xs,B),sM,zow,hv,hsn.mono fun k2 hk2=>by rw[hk] at hk2;cases hk2;exact hterm⟩
  intro s F3 hF3 hP
  obtain⟨xs,B⟩:=s
  obtain⟨hv,hsn⟩:=hP
  dsimp only at hv hsn
  refine zB4 ?_
  refine WT.freezeAll 0 Z Z (fun F4 hF4 hB4=>?_)
  have hx4:=hv.arr hF4 hB4
  have hw4:Arr tNat F4 (some ⟨io,0,none⟩) w.length (bif w.length==0 then 0 else 1) w:=arr_nats hx4 hsn.len fun p t hpt=>by
   obtain⟨hp1,_⟩:=gS hpt
   obtain⟨t',ht',hm⟩:=leaf_at hE hK hst hp1
   rw[hpt] at ht'
   cases ht'
   obtain⟨q,hq⟩:=List.getElem?_of_mem hm
   have:=(gS hq).1
   exact hsn.seen q _ zo hq rfl
  have hF14:=hF1.trans (hF2.trans (hF3.trans hF4))
  refine WT.callV Tryz.func78 Z Z Z Z Z Z (fcheck_spec _ (hL.mono hF14) g hg (hr.mono hF14) hw4 hw12 hw2 (hf.mono hF14)) (fun v hv=>?_)
  subst hv
  refine zB4 ?_
  refine AW.cond Z (fun h=>(by cases h)) (fun _=>?_)
  refine zB4 ?_
  exact AW.ret ⟨_,[],⟨_,_,rfl,rfl,rfl⟩,zsb,rfl,rfl⟩
theorem coreCount_spec(F:Frz)(g:Gram)(hg:Valid g){w:List Nat}(hw12:w.length≤12){E:List (List Nat)}(hE:EndsOf g w E){fa:Option Addr}{fn fc:Nat}{fr:Int}(hV:ForestV g w E F (.agg ⟨[.slice fa fn fc,.int .i64 fr]⟩)) :
  Abs.Spec CC 52 [.agg ⟨[.slice fa fn fc,.int .i64 fr]⟩] F [] fun F' v o=>o=[]∧∃c,v=.int .i64 c∧CountVal (fun d=>symT g w d ⟨false,g.start⟩ 0 w.length) c:=by
 rcases hV with ⟨h1,hv⟩ | ⟨h1,S,a,n,c,hv,hK,hA⟩
 ·cases hv
  refine(countNone_spec F).mono fun F' v o _ ⟨ho,hv⟩=>⟨ho,0,hv,.inl ⟨0,still_zero fun d=>?_,rfl⟩⟩
  rcases Nat.eq_zero_or_pos (symT g w d ⟨false,g.start⟩ 0 w.length) with e | e
  ·exact e
  ·have:=(step_der hE (Nat.zero_le _)).2 (symT_der e)
   rw[h1] at this;cases this
 ·cases hv
  have hroot:=root_good hg w
  have hrm:=hK.first
  have hpl:=place_at hrm
  have hlt:=(gS hpl).1
  refine(count_spec _ (nodes_ok hg hw12 hK hroot) (nodes_prod hg hE hK hroot h1) hA (place S (rootKey g w)) (by rw[List.length_map];exact hlt)).mono fun F' v o _ ⟨ho,c',hv,hc⟩=>⟨ho,c',hv,?_⟩
  have:(fun d=>nodeT (S.map (mkNode g w E S)) d (place S (rootKey g w)))=fun d=>symT g w d ⟨false,g.start⟩ 0 w.length:=by
   funext d
   exact node_sym hg hE hK hroot h1 d _ hrm
  rw[this] at hc
  exact hc
theorem fcount_spec(F:Frz)(hL:Laid F)(g:Gram)(hg:Valid g){ga:Option Addr}{gm gc:Nat}(hr:Arr tRule F ga gm gc g.rules){w:List Nat}(hw12:w.length≤12)(hw2:∀t∈w,t<g.terms)
  {fa:Option Addr} {fn fc:Nat} {fr:Int} (hf:FV g w F fa fn fc fr) :
  Abs.Spec CC 16 [.agg ⟨gramCells g ga gm gc⟩,.agg ⟨[.slice fa fn fc,.int .i64 fr]⟩] F [] fun F' v o=>o=[]∧∃c,v=.tuple ⟨[.int .i64 c,.int .i64 0]⟩∧CountVal (fun d=>symT g w d ⟨false,g.start⟩ 0 w.length) c:=by
 unfold gramCells
 obtain⟨E,hE,hV⟩:=hf.cases
 refine Abs.Spec.fn (n:=15) Tryz.func16 rfl rfl fun own=>?_
 refine AW.seq (AW.reg ?_)
 refine WT.boxT Z Z Z Z Z Z (fun i2 hi2=>?_)
 refine WT.boxT Z Z Z Z Z Z (fun i3 hi3=>?_)
 refine zB4 ?_
 refine WT.callV Tryz.func51 Z Z Z Z Z Z (fvalid_spec _ hL g hg hr hw12 hw2 hf) (fun v hv=>?_)
 subst hv
 refine zB4 ?_
 refine AW.cond Z (fun h=>(by cases h)) (fun h=>?_)
 refine zB4 ?_
 refine WT.callV Tryz.func52 Z Z Z Z Z Z (coreCount_spec _ g hg hw12 hE hV) (fun v hv=>?_)
 obtain⟨c,rfl,hc⟩:=hv
 refine zB4 ?_
 exact AW.ret ⟨_,[],⟨_,_,rfl,⟨_,_,rfl,rfl,rfl⟩,rfl⟩,zsb,rfl,c,rfl,hc⟩
theorem nless_spec(F:Frz)(x y:Nat):Abs.Spec CC 152 [ci x,ci y] F [] fun _ v o=>o=[]∧v=.bool (decide (x<y)):=by
 refine Abs.Spec.fn (n:=17) Tryz.func152 rfl rfl fun own=>?_
 refine zB4 ?_
 refine WT.callV Tryz.func76 Z Z Z Z Z Z (isNaN_spec _ x) (fun v hv=>?_)
 subst hv
 refine zB4 ?_
 refine AW.ret ⟨_,[],⟨_,_,rfl,rfl,rfl⟩,zsb,rfl,?_⟩
 show Value.bool (decide ((x:Int)<(y:Int)))=_
 congr 1
 simp
structure InS where
 k:Nat
 x:Nat
 y:Nat
def InS.Is(s:InS)(x y:Nat):Prop:=(s.k=1∧s.x=x∧s.y=y)∨(s.k=2∧s.x=min x y∧s.y=max x y)
theorem ins2_spec(F:Frz)(i x y:Nat)(rest:List Value):Abs.Spec CC 146 [.slice (some ⟨i,0,none⟩) 2 1,.int .i64 0,.int .i64 2] F [[(i,.cells false (ci x::ci y::rest))]] fun _ v o=>∃B',o=[B']∧B'=[(i,.cells false (ci (min x y)::ci (max x y)::rest))]:=by
 refine Abs.Spec.fn (n:=49) Tryz.func146 rfl rfl fun own=>?_
 refine zB4 ?_
 refine AW.block ?_
 refine AW.loopR (S:=InS) (fun s=>[(6,ci s.k)]) (fun s=>[(i,.cells false (ci s.x::ci s.y::rest))]::own) (fun s _=>s.Is x y) (fun s=>2-s.k) ⟨1,x,y⟩ sM oR (.inl ⟨rfl,rfl,rfl⟩) ?_
 intro s F1 hF1 hs
 rcases hs with ⟨h1,h2,h3⟩ | ⟨h1,h2,h3⟩
 ·obtain⟨sk,sx,sy⟩:=s
  obtain rfl:sk=1:=h1
  obtain rfl:sx=x:=h2
  obtain rfl:sy=y:=h3
  dsimp only
  refine zB4 ?_
  refine AW.cond Z (fun _=>?_) (fun h=>(by cases h))
  refine zB4 ?_
  refine AW.block ?_
  refine zB4 ?_
  refine AW.block ?_
  refine AW.loopR (S:=InS) (fun t=>[(7,ci t.k)]) (fun t=>[(i,.cells false (ci t.x::ci t.y::rest))]::own) (fun t _=>(t.k=1∧t.x=sx∧t.y=sy)∨(t.k=0∧t.x=sy∧t.y=sx∧sy<sx)) (fun t=>t.k) ⟨1,sx,sy⟩ sM oR (.inl ⟨rfl,rfl,rfl⟩) ?_
  intro t F2 hF2 ht
  obtain⟨tk,tx,ty⟩:=t
  rcases ht with ⟨h1,h2,h3⟩ | ⟨h1,h2,h3,h4⟩
  ·obtain rfl:tk=1:=h1
   obtain rfl:tx=sx:=h2
   obtain rfl:ty=sy:=h3
   dsimp only
   refine zB4 ?_
   refine WT.idxA (j:=1) (s:=1) hT Z Z Z Z Z Z Z Z Z (by decide) ?_
   refine zB4 ?_
   refine WT.idxA (j:=0) (s:=1) hT Z Z Z Z Z Z Z Z Z (by decide) ?_
   refine zB4 ?_
   refine WT.callV Tryz.func152 Z Z Z Z Z Z (nless_spec _ ty tx) (fun v hv=>?_)
   subst hv
   refine zB4 ?_
   refine AW.cond Z (fun hc=>?_) (fun hc=>?_)
   ·have hc:ty<tx:=of_decide_eq_true hc
    refine zB4 ?_
    refine AW.block ?_
    refine AW.draw (ps:=[(4,15)]) Z Z ?_
    refine zB4 ?_
    refine WT.idxA (j:=0) (s:=1) hT Z Z Z Z Z Z Z Z Z (by decide) ?_
    refine zB4 ?_
    refine WT.idxA (j:=1) (s:=1) hT Z Z Z Z Z Z Z Z Z (by decide) ?_
    refine zB4 ?_
    refine WT.idxA (j:=1) (s:=1) hT Z Z Z Z Z Z Z Z Z (by decide) ?_
    refine zB4 ?_
    refine WT.idxA (j:=0) (s:=1) hT Z Z Z Z Z Z Z Z Z (by decide) ?_
    refine zB4 ?_
    refine⟨zrC,?_⟩
    refine zB4 ?_
    exact⟨⟨0,ty,tx⟩,(by show 0<1;decide),sM,zow,.inr ⟨rfl,rfl,rfl,hc⟩⟩
   ·have hc:¬ty<tx:=of_decide_eq_false hc
    refine AW.exit ?_
    refine zB4 ?_
    exact⟨⟨2,tx,ty⟩,(by show 0<1;decide),sM,zow,.inr ⟨rfl,by show tx=min tx ty;omega,by show ty=max tx ty;omega⟩⟩
  ·obtain rfl:tk=0:=h1
   obtain rfl:tx=sy:=h2
   obtain rfl:ty=sx:=h3
   dsimp only
   refine zB4 ?_
   refine AW.cond Z (fun h=>(by cases h)) (fun _=>?_)
   refine AW.exit ?_
   refine zB4 ?_
   exact⟨⟨2,tx,ty⟩,(by show 0<1;decide),sM,zow,.inr ⟨rfl,by show tx=min ty tx;omega,by show ty=max ty tx;omega⟩⟩
 ·obtain⟨sk,sx,sy⟩:=s
  obtain rfl:sk=2:=h1
  obtain rfl:sx=_:=h2
  obtain rfl:sy=_:=h3
  refine zB4 ?_
  refine AW.cond Z (fun h=>(by cases h)) (fun _=>?_)
  refine AW.exit ?_
  skip
  exact⟨_,[_],rfl,zsb,_,rfl,rfl⟩
theorem ins1_spec(F:Frz)(i x:Nat)(rest:List Value):Abs.Spec CC 146 [.slice (some ⟨i,0,none⟩) 1 1,.int .i64 0,.int .i64 1] F [[(i,.cells false (ci x::rest))]] fun _ v o=>∃B',o=[B']∧B'=[(i,.cells false (ci x::rest))]:=by
 refine Abs.Spec.fn (n:=49) Tryz.func146 rfl rfl fun own=>?_
 refine zB4 ?_
 refine AW.block ?_
 refine AW.loopR (S:=Unit) (fun _=>[]) (fun _=>_) (fun _ _=>True) (fun _=>0) () sM oR trivial ?_
 intro _ F1 hF1 _
 refine zB4 ?_
 refine AW.cond Z (fun h=>(by cases h)) (fun _=>?_)
 refine AW.exit ?_
 skip
 exact⟨_,[_],rfl,zsb,_,rfl,rfl⟩
theorem ins0_spec(F:Frz):Abs.Spec CC 146 [.slice none 0 0,.int .i64 0,.int .i64 0] F [[]] fun _ v o=>∃B',o=[B']∧B'=[]:=by
 refine Abs.Spec.fn (n:=49) Tryz.func146 rfl rfl fun own=>?_
 refine zB4 ?_
 refine AW.block ?_
 refine AW.loopR (S:=Unit) (fun _=>[]) (fun _=>_) (fun _ _=>True) (fun _=>0) () sM oR trivial ?_
 intro _ F1 hF1 _
 refine zB4 ?_
 refine AW.cond Z (fun h=>(by cases h)) (fun _=>?_)
 refine AW.exit ?_
 skip
 exact⟨_,[_],rfl,zsb,_,rfl,rfl⟩
abbrev Makes(g:Nat)(args:List Value)(F:Frz)(B B':List (Nat×Blk)):Prop:=Abs.Spec CC g args F [B] fun _ v o=>∃B1,o=[B1]∧B1=B'
theorem pdqSmall_spec(F:Frz){a:Option Addr}{n c:Nat}(hn:n≤12){B B':List (Nat×Blk)}(h:Makes 146 [.slice a n c,.int .i64 0,.int .i64 (n:Nat)] F B B')(lim:Value) :
  Makes 132 [.slice a n c,.int .i64 0,.int .i64 (n:Nat),lim] F B B':=by
 unfold Makes
 refine Abs.Spec.fn (n:=134) Tryz.func132 rfl rfl fun own=>?_
 refine zB4 ?_
 refine AW.block ?_
 refine AW.loopR (S:=Unit) (fun _=>[]) (fun _=>_) (fun _ G=>G=F) (fun _=>0) () sM oR Z ?_
 intro _ F1 hF1 hG
 subst hG
 refine AW.block ?_
 refine zB4 ?_
 refine AW.cond Z (fun _=>?_) (fun hd=>(by simp at hd;omega))
 refine zB4 ?_
 refine WT.call1F 0 Tryz.func146 Z Z Z Z Z Z Z (fun _=>rfl) h (fun F2 v B2 hF2 hv=>?_)
 subst hv
 refine zB4 ?_
 exact AW.ret ⟨_,[_],rfl,zsb,_,rfl,rfl⟩
theorem sortSmall_spec(F:Frz){a:Option Addr}{n c:Nat}(hn:n≤12){B B':List (Nat×Blk)}(h:Makes 146 [.slice a n c,.int .i64 0,.int .i64 (n:Nat)] F B B') :
  Makes 112 [.slice a n c] F B B':=by
 unfold Makes
 refine Abs.Spec.fn (n:=11) Tryz.func112 rfl rfl fun own=>?_
 refine zB4 ?_
 refine WT.conv hT (k2:=.u64) Z Z Z Z Z Z Z Z (wrapU64 zo) ?_
 refine WT.callV Tryz.func124 Z Z Z Z Z Z (blen_spec _ n zo) (fun v hv=>?_)
 subst hv
 refine WT.call1F 0 Tryz.func132 Z Z Z Z Z Z Z (fun _=>rfl) (pdqSmall_spec F hn h _) (fun F2 v B2 hF2 hv=>?_)
 subst hv
 refine zB4 ?_
 exact⟨_,[_],rfl,zsb,_,rfl,rfl⟩
structure RingI where
 gp:Nat
 gt:Nat
 gs:Nat
 gr:Nat
 cp:List Value
 ct:List Value
 cs:List Value
 cr:List Value
 P:Nat→Nat→Nat
 T:Nat→Nat→Nat
 R:Nat→Nat
 M:Nat
def RingI.ring(r:RingI):List Value:=[ci 0,ci 1,.func (.func r.gp) ⟨[]⟩ ⟨r.cp⟩,.func (.func r.gt) ⟨[]⟩ ⟨r.ct⟩,.func (.func r.gs) ⟨[]⟩ ⟨r.cs⟩]
def HasF(g:Nat):Prop:=∃fn,CC.func g=some fn∧fn.body.isSome=true
structure RingOk(F:Frz)(r:RingI):Prop where
 hp:HasF r.gp
 ht:HasF r.gt
 hs:HasF r.gs
 hr:HasF r.gr
 P:∀a b,a≤r.M→b≤r.M→r.P a b≤r.M∧Abs.Spec CC r.gp ([ci a,ci b]++r.cp) F [] fun _ v o=>o=[]∧v=ci (r.P a b)
 T:∀a b,a≤r.M→b≤r.M→r.T a b≤r.M∧Abs.Spec CC r.gt ([ci a,ci b]++r.ct) F [] fun _ v o=>o=[]∧v=ci (r.T a b)
 S:∀a b:Nat,Abs.Spec CC r.gs ([ci a,ci b]++r.cs) F [] fun _ v o=>o=[]∧v=.bool (decide (a=b))
 R:∀n:Nat,r.R n≤r.M∧Abs.Spec CC r.gr ([ci n]++r.cr) F [] fun _ v o=>o=[]∧v=ci (r.R n)
 one:1≤r.M
def valAt(vs:List Nat)(k:Nat):Nat:=vs[k]?.getD 0
def packV(r:RingI)(vs:List Nat)(p:NPack):Nat:=p.kids.foldl (fun x k=>r.T x (valAt vs k)) (r.R p.rule)
def nodeV(r:RingI)(vs:List Nat)(x:Node):Nat:=x.packs.foldl (fun s p=>r.P s (packV r vs p)) 0
def nodeCells(x:Node)(a:Option Addr)(n c:Nat):List Value:=[.bool x.key.sym.term,.int .i64 x.key.sym.n,.int .i64 x.key.frm,.int .i64 x.key.to,.slice a n c]
theorem node_spec(F:Frz)(r:RingI)(hR:∀G,Frz.le F G→RingOk G r){x:Node}{pa:Option Addr}{pn pc:Nat}(hp:Arr tNPack F pa pn pc x.packs)(hpn:pn≤1000000){va:Option Addr}{vn vc:Nat}{vs:List Nat}(hv:Arr tNat F va vn vc vs)(hvM:∀y∈vs,y≤r.M)
  (hkid:∀p∈x.packs,∀k∈p.kids,k<vs.length) :
  Abs.Spec CC 53 [.agg ⟨nodeCells x pa pn pc⟩,.agg ⟨r.ring⟩,.func (.func r.gr) ⟨[]⟩ ⟨r.cr⟩,.slice va vn vc] F [] fun _ v o=>o=[]∧v=ci (nodeV r vs x)∧nodeV r vs x≤r.M:=by
 have hpl:=hp.len
 have hvl:=hv.len
 unfold nodeCells RingI.ring
 refine Abs.Spec.fn (n:=51) Tryz.func53 rfl rfl fun own=>?_
 refine AW.seq (AW.reg ?_)
 refine WT.boxT Z Z Z Z Z Z (fun i4 hi4=>?_)
 refine WT.boxT Z Z Z Z Z Z (fun i5 hi5=>?_)
 refine zB4 ?_
 refine AW.range (S:=Nat) (fun s=>[(9,ci s)]) (fun _=>_) (fun j s G=>s=(x.packs.take j).foldl (fun s p=>r.P s (packV r vs p)) 0∧s≤r.M) pn 0
  Z Z Z Z Z Z Z Z Z zo rfl rfl (fun _=>rfl) (fun _=>rfl) sM oR ⟨rfl,Nat.zero_le _⟩ ?_ ?_
 ·intro j s F1 hF1 hj hP
  obtain⟨hs,hsM⟩:=hP
  have hp1:=hp.mono hF1
  have hv1:=hv.mono hF1
  refine zB4 ?_
  refine WT.idxL hT hp1 Z Z Z Z Z Z Z Z Z zo (fun p hpj b6 off6 ro6 cs6 lx6 hb6 hp6 hrel6=>?_)
  obtain⟨ka,kn,kc,rfl,hka,hkb⟩:=hrel6
  have hkal:=hka.len
  have hpm:=gM hpj
  refine zB4 ?_
  refine WT.allocT hT Z Z Z Z Z Z (fun i11 hi11=>?_)
  refine zB4 ?_
  obtain⟨fnr,hfr,hfrb⟩:=(hR F1 hF1).hr
  refine WT.callC hfr hfrb Z Z Z Z Z Z Z ((hR F1 hF1).R p.rule).2 (fun v hv=>?_)
  subst hv
  refine zB4 ?_
  refine AW.range (S:=Nat) (fun s=>[(12,ci s)]) (fun _=>_) (fun q y G=>y=(p.kids.take q).foldl (fun x k=>r.T x (valAt vs k)) (r.R p.rule)∧y≤r.M) kn (r.R p.rule)
   Z Z Z Z Z Z Z Z Z zo rfl rfl (fun _=>rfl) (fun _=>rfl) sM oR ⟨rfl,((hR F1 hF1).R p.rule).1⟩ ?_ ?_
  ·intro q y F2 hF2 hq hP2
   obtain⟨hy,hyM⟩:=hP2
   have hka2:=hka.mono hF2
   have hv2:=hv1.mono hF2
   have hR2:=hR F2 (hF1.trans hF2)
   refine zB4 ?_
   refine WT.idxL hT hka2 Z Z Z Z Z Z Z Z Z zo (fun k hkq b8 off8 ro8 cs8 lx8 hb8 hp8 hrel8=>?_)
   obtain rfl:lx8=_:=hrel8
   have hkl:=hkid p hpm k (gM hkq)
   refine zB4 ?_
   refine WT.idxL hT hv2 Z Z Z Z Z Z Z Z Z zo (fun z hzk b9 off9 ro9 cs9 lx9 hb9 hp9 hrel9=>?_)
   obtain rfl:lx9=_:=hrel9
   have hzM:=hvM z (gM hzk)
   have hva:valAt vs k=z:=by unfold valAt;rw[hzk];rfl
   refine zB4 ?_
   obtain⟨fnt,hft,hftb⟩:=hR2.ht
   obtain⟨hT1,hT2⟩:=hR2.T y z hyM hzM
   refine WT.callC hft hftb Z Z Z Z Z Z Z hT2 (fun v hv=>?_)
   subst hv
   refine zB4 ?_
   exact⟨r.T y z,sM,zow,by rw[List.take_add_one,hkq,List.foldl_append,←hy];show _=r.T y (valAt vs k);rw[hva],hT1⟩
  ·intro y F2 hF2 hP2
   obtain⟨hy,hyM⟩:=hP2
   rw[List.take_of_length_le zo] at hy
   have hR2:=hR F2 (hF1.trans hF2)
   refine zB4 ?_
   obtain⟨fnp,hfp,hfpb⟩:=hR2.hp
   obtain⟨hP1,hP2⟩:=hR2.P s y hsM hyM
   refine WT.callC hfp hfpb Z Z Z Z Z Z Z hP2 (fun v hv=>?_)
   subst hv
   refine zB4 ?_
   exact⟨r.P s y,sM,zow,by rw[List.take_add_one,hpj,List.foldl_append,←hs];show _=r.P s (packV r vs p);unfold packV;rw[←hy],hP1⟩
 ·intro s F1 hF1 hP
  obtain⟨hs,hsM⟩:=hP
  rw[List.take_of_length_le zo] at hs
  refine zB4 ?_
  exact AW.ret ⟨_,[],⟨_,_,rfl,rfl,rfl⟩,zsb,rfl,by rw[hs];rfl,by show List.foldl _ _ _≤r.M;rw[←hs];exact hsM⟩
def stepV(r:RingI)(Ns:List Node)(vs:List Nat)(i:Nat):List Nat:=match Ns[i]? with
 | some x=>if x.key.sym.term=true then vs else vs.set i (nodeV r vs x)
 | none=>vs
def roundTo(r:RingI)(Ns:List Node)(vs:List Nat):Nat→List Nat
 | 0=>vs
 | i+1=>stepV r Ns (roundTo r Ns vs i) i
def roundV(r:RingI)(Ns:List Node)(vs:List Nat):List Nat:=roundTo r Ns vs Ns.length
def startV(Ns:List Node):List Nat:=Ns.map leafN
def valsAt(r:RingI)(Ns:List Node):Nat→List Nat
 | 0=>startV Ns
 | k+1=>roundV r Ns (valsAt r Ns k)
theorem stepV_len{r:RingI}{Ns:List Node}{vs:List Nat}{i:Nat}:(stepV r Ns vs i).length=vs.length:=by
 unfold stepV
 split
 ·split<;>simp
 ·rfl
theorem roundTo_len{r:RingI}{Ns:List Node}{vs:List Nat}:∀(i:Nat),(roundTo r Ns vs i).length=vs.length
 | 0=>rfl
 | i+1=>by show (stepV r Ns _ i).length=_;rw[stepV_len,roundTo_len i]
theorem valsAt_len{r:RingI}{Ns:List Node}:∀(k:Nat),(valsAt r Ns k).length=Ns.length
 | 0=>by simp[valsAt,startV]
 | k+1=>by show (roundV r Ns _).length=_;unfold roundV;rw[roundTo_len,valsAt_len k]
structure RoundS(r:RingI)(Ns:List Node)(vs:List Nat)(i:Nat)(cur:List Nat)(ch:Bool):Prop where
 is:cur=roundTo r Ns vs i
 small:∀x∈cur,x≤r.M
 same:ch=false→cur=vs
 diff:ch=true→∃j,j<i∧cur[j]?≠vs[j]?
theorem RoundS.stay{r:RingI}{Ns:List Node}{vs cur:List Nat}{i:Nat}{ch:Bool}(h:RoundS r Ns vs i cur ch){x:Node}(hx:Ns[i]?=some x)(ht:x.key.sym.term=true):RoundS r Ns vs (i+1) cur ch where
 is:=by show cur=stepV r Ns _ i;unfold stepV;rw[hx];simp only;rw[if_pos ht];exact h.is
 small:=h.small
 same:=h.same
 diff:=fun e=>by obtain⟨j,h1,h2⟩:=h.diff e;exact⟨j,by omega,h2⟩
theorem RoundS.put{r:RingI}{Ns:List Node}{vs cur:List Nat}{i:Nat}{ch:Bool}(h:RoundS r Ns vs i cur ch){x:Node}(hx:Ns[i]?=some x)(ht:x.key.sym.term=false){z:Nat}(hz:cur[i]?=some z)(hM:nodeV r cur x≤r.M):RoundS r Ns vs (i+1) (cur.set i (nodeV r cur x)) (ch||!decide (nodeV r cur x=z)) where
 is:=by show _=stepV r Ns _ i;unfold stepV;rw[hx];simp only;rw[if_neg (by simp[ht]),←h.is]
 small:=fun y hy=>by
  rcases List.mem_or_eq_of_mem_set hy with h1 | rfl
  ·exact h.small y h1
  ·exact hM
 same:=fun e=>by
  simp only[Bool.or_eq_false_iff,Bool.not_eq_false',decide_eq_true_eq] at e
  rw[←h.same e.1,e.2]
  refine List.ext_getElem? fun j=>?_
  by_cases hj:j=i
  ·subst hj;rw[List.getElem?_set_self (gS hz).1,hz]
  ·rw[List.getElem?_set_ne (Ne.symm hj)]
 diff:=fun e=>by
  have hlt:=(gS hz).1
  cases ch with
  | true=>
   obtain⟨j,h1,h2⟩:=h.diff rfl
   exact⟨j,by omega,by rw[List.getElem?_set_ne zo];exact h2⟩
  | false=>
   simp only[Bool.false_or,Bool.not_eq_true',decide_eq_false_iff_not] at e
   refine⟨i,by omega,?_⟩
   rw[List.getElem?_set_self hlt,←h.same rfl,hz]
   intro h3;exact e (Option.some.inj h3)
def ValueRes(r:RingI)(Ns:List Node)(root:Nat)(v:Value):Prop:=
 (∃k y,k<200∧valsAt r Ns (k+1)=valsAt r Ns k∧(valsAt r Ns k)[root]?=some y∧v=.tuple ⟨[ci y,.int .i64 0]⟩)∨
 ((∀k,k<200→valsAt r Ns (k+1)≠valsAt r Ns k)∧v=.tuple ⟨[ci 0,.int .i64 9]⟩)
theorem arr_ci{F:Frz}{i n c:Nat}{vs:List Nat}(h:F i=some (.cells false (vs.map ci)))(hn:vs.length=n)(hc:c=if n=0 then 0 else 1):Arr tNat F (some ⟨i,0,none⟩) n c vs where
 len:=hn.symm
 cap:=by rw[hc];split;exact .inl rfl;exact .inr rfl
 zero:=fun e=>by rw[hc] at e;split at e<;>omega
 nil:=fun e=>(by cases e)
 spot:=fun p e=>(by cases e;rfl)
 el:=fun j x hx=>⟨i,0,false,_,[ci x],rfl,h,by
  have hl:=(gS hx).1
  refine partL_of ?_ rfl
  have e:=gS hx
  obtain⟨h1,h2⟩:=e
  show [ci x]=((vs.map ci).drop (0+j*1)).take 1
  rw[Nat.zero_add,Nat.mul_one,←List.map_drop,List.drop_eq_getElem_cons h1,h2];rfl,rfl⟩
theorem replicate_ci(n:Nat):List.replicate n (Value.int .i64 0)=(List.replicate n 0).map ci:=by rw[List.map_replicate];rfl
structure VaS where
 k:Nat
 vs:List Nat
 ch:Bool
theorem value_spec(F:Frz)(hL:Laid F)(g:Gram)(hg:Valid g){ga:Option Addr}{gm gc:Nat}(hr:Arr tRule F ga gm gc g.rules){w:List Nat}(hw12:w.length≤12)(hw2:∀t∈w,t<g.terms)
  {fa:Option Addr} {fn fc:Nat} {fr:Int} (hf:FV g w F fa fn fc fr) (r:RingI) (hR:∀G,Frz.le F G→RingOk G r) :
  Abs.Spec CC 17 [.agg ⟨gramCells g ga gm gc⟩,.agg ⟨[.slice fa fn fc,.int .i64 fr]⟩,.agg ⟨r.ring⟩,.func (.func r.gr) ⟨[]⟩ ⟨r.cr⟩] F [] fun _ v o=>o=[]∧∃E,EndsOf g w E∧
   ((stepB w E ⟨false,g.start⟩ 0 w.length=false∧v=.tuple ⟨[ci 0,.int .i64 0]⟩)∨
    (stepB w E ⟨false,g.start⟩ 0 w.length=true∧∃S,Keys g w E (rootKey g w) S∧ValueRes r (S.map (mkNode g w E S)) (place S (rootKey g w)) v)):=by
 obtain⟨E,hE,hV⟩:=hf.cases
 have hcs:=fcount_spec F hL g hg hr hw12 hw2 hf
 unfold gramCells at hcs ⊢
 unfold RingI.ring
 refine Abs.Spec.fn (n:=106) Tryz.func17 rfl rfl fun own=>?_
 refine AW.seq (AW.reg ?_)
 refine WT.boxT Z Z Z Z Z Z (fun i4 hi4=>?_)
 refine WT.boxT Z Z Z Z Z Z (fun i5 hi5=>?_)
 refine WT.boxT Z Z Z Z Z Z (fun i6 hi6=>?_)
 refine zB4 ?_
 refine WT.callV Tryz.func16 Z Z Z Z Z Z hcs (fun v hv=>?_)
 obtain⟨c,rfl,hc⟩:=hv
 refine zB4 ?_
 refine AW.cond Z (fun h=>(by cases h)) (fun _=>?_)
 rcases hV with ⟨hst,hv⟩ | ⟨hst,S,sa,sn,sc,hv,hK,hN⟩
 ·cases hv
  refine zB4 ?_
  refine AW.cond Z (fun _=>?_) (fun h=>(by cases h))
  refine zB4 ?_
  exact AW.ret ⟨_,[],⟨_,_,rfl,⟨_,_,rfl,rfl,rfl⟩,rfl⟩,zsb,rfl,E,hE,.inl ⟨hst,rfl⟩⟩
 ·cases hv
  have hok:=nodes_ok hg hw12 hK (root_good hg w)
  have hNl:=hN.len
  have hfew:=hok.few
  generalize hNs:S.map (mkNode g w E S)=Ns at *
  refine zB4 ?_
  refine AW.cond Z (fun h=>(by simp at h;omega)) (fun _=>?_)
  refine zB4 ?_
  refine WT.makeT (l:=fn) hT Z Z Z Z Z Z Z Z Z Z Z Z zom (fun iv hiv=>?_)
  rw[cap_eq]
  rw[replicate_ci]
  refine zB4 ?_
  refine AW.range (S:=List Nat) (fun _=>[]) (fun vs=>[(iv,.cells false (vs.map ci))]::[(i6,.cells false r.ring)]::[(i5,.cells false [.slice fa fn fc,.int .i64 (place S (rootKey g w):Nat)])]::[(i4,.cells false [.int .i64 g.terms,.int .i64 g.nons,.int .i64 g.start,.slice ga gm gc])]::own)
   (fun j vs G=>vs.length=fn∧∀i x,i<j→Ns[i]?=some x→vs[i]?=some (leafN x)) fn (List.replicate fn 0)
   Z Z Z Z Z Z Z Z Z zo rfl rfl (fun _=>rfl) (fun _=>rfl) sM oR ⟨by simp,fun i x h=>by omega⟩ ?_ ?_
  ·intro j vs F1 hF1 hj hP
   obtain⟨hvl,hvs⟩:=hP
   have hN1:=hN.mono hF1
   unfold RingI.ring
   refine zB4 ?_
   refine WT.idxL hT hN1 Z Z Z Z Z Z Z Z Z zo (fun x hxj b5 off5 ro5 cs5 lx5 hb5 hp5 hrel5=>?_)
   obtain⟨pa,pn,pc,rfl,hpa⟩:=hrel5
   refine zB4 ?_
   refine WT.allocT hT Z Z Z Z Z Z (fun i15 hi15=>?_)
   refine zB4 ?_
   refine WT.idxA (j:=j) (s:=1) hT Z Z Z Z Z Z Z Z Z zo ?_
   refine WT.storeAt hT 1 0 Z Z Z Z Z Z Z Z Z Z (by simp;omega) Z Z ?_
   rw[show (vs.map ci).set (0+j*1) (ci 0)=(vs.set j 0).map ci from ci_set vs j 0]
   refine zB4 ?_
   refine AW.cond Z (fun ht=>?_) (fun ht=>?_)
   ·refine zB4 ?_
    refine WT.idxA (j:=j) (s:=1) hT Z Z Z Z Z Z Z Z Z zo ?_
    refine WT.storeAt hT 1 0 Z Z Z Z Z Z Z Z Z Z (by simp;omega) Z Z ?_
    rw[show ((vs.set j 0).map ci).set (0+j*1) (ci 1)=((vs.set j 0).set j 1).map ci from ci_set _ j 1]
    refine zB4 ?_
    refine⟨(vs.set j 0).set j 1,sM,zow,by simp[hvl],fun i y h hy=>?_⟩
    by_cases e:i=j
    ·subst e
     obtain rfl:x=y:=by rw[hxj] at hy;exact Option.some.inj hy
     rw[List.getElem?_set_self (by simp;omega)]
     unfold leafN
     rw[if_pos ht]
    ·rw[List.getElem?_set_ne (Ne.symm e),List.getElem?_set_ne (Ne.symm e)]
     exact hvs i y zo hy
   ·refine zB4 ?_
    refine⟨vs.set j 0,sM,zow,by simp[hvl],fun i y h hy=>?_⟩
    by_cases e:i=j
    ·subst e
     obtain rfl:x=y:=by rw[hxj] at hy;exact Option.some.inj hy
     rw[List.getElem?_set_self zo]
     unfold leafN
     rw[if_neg (by simpa using ht)]
    ·rw[List.getElem?_set_ne (Ne.symm e)]
     exact hvs i y zo hy
  ·intro vs F1 hF1 hP
   obtain⟨hvl,hvs⟩:=hP
   have hN1:=hN.mono hF1
   obtain rfl:vs=startV Ns:=by
    refine List.ext_getElem? fun i=>?_
    rcases Nat.lt_or_ge i fn with h | h
    ·obtain⟨x,hx⟩:∃x,Ns[i]?=some x:=⟨_,gE zo⟩
     rw[hvs i x h hx]
     unfold startV
     rw[List.getElem?_map,hx];rfl
    ·rw[List.getElem?_eq_none_iff.2 zo,List.getElem?_eq_none_iff.2 (by unfold startV;simp;omega)]
   refine zB4 ?_
   refine AW.block ?_
   refine AW.loopR (S:=VaS) (fun s=>[(61,ci s.k)]) (fun s=>[(iv,.cells false (s.vs.map ci))]::[(i6,.cells false r.ring)]::[(i5,.cells false [.slice fa fn fc,.int .i64 (place S (rootKey g w):Nat)])]::[(i4,.cells false [.int .i64 g.terms,.int .i64 g.nons,.int .i64 g.start,.slice ga gm gc])]::own)
    (fun s G=>s.vs=valsAt r Ns s.k∧(∀x∈s.vs,x≤r.M)∧s.k≤200∧∀k,k<s.k→valsAt r Ns (k+1)≠valsAt r Ns k) (fun s=>200-s.k) ⟨0,startV Ns,false⟩ sM oR ⟨rfl,?_,by show 0≤200;omega,fun k h=>absurd h (Nat.not_lt_zero k)⟩ ?_
   ·intro x hx
    obtain⟨y,_,rfl⟩:=List.mem_map.1 hx
    have:=(hR F (Frz.le.refl F)).one
    unfold leafN;split<;>omega
   intro s F2 hF2 hP2
   obtain⟨hsv,hsm,hsk,hsd⟩:=hP2
   have hsl:s.vs.length=fn:=by rw[hsv,valsAt_len];omega
   have hN2:=hN1.mono hF2
   have hF02:=hF1.trans hF2
   unfold RingI.ring
   refine zB4 ?_
   refine AW.cond Z (fun hk=>?_) (fun hk=>?_)
   ·have hk:s.k<200:=by simp at hk;omega
    refine zB4 ?_
    refine AW.block ?_
    refine zB4 ?_
    refine AW.range (S:=VaS) (fun t=>[(16,.bool t.ch)]) (fun t=>[(iv,.cells false (t.vs.map ci))]::[(i6,.cells false r.ring)]::[(i5,.cells false [.slice fa fn fc,.int .i64 (place S (rootKey g w):Nat)])]::[(i4,.cells false [.int .i64 g.terms,.int .i64 g.nons,.int .i64 g.start,.slice ga gm gc])]::own)
     (fun j t G=>RoundS r Ns s.vs j t.vs t.ch) fn ⟨0,s.vs,false⟩
     Z Z Z Z Z Z Z Z Z zo rfl rfl (fun _=>rfl) (fun _=>rfl) sM oR ⟨rfl,hsm,fun _=>rfl,fun h=>(by cases h)⟩ ?_ ?_
    ·intro j t F3 hF3 hj hRS
     obtain⟨tk,vs,ch⟩:=t
     have hRS:RoundS r Ns s.vs j vs ch:=hRS
     have hvl:vs.length=fn:=by rw[hRS.is,roundTo_len,hsl]
     have hN3:=hN2.mono hF3
     have hF03:=hF02.trans hF3
     unfold RingI.ring
     refine zB4 ?_
     refine WT.idxL hT hN3 Z Z Z Z Z Z Z Z Z zo (fun x hxj b5 off5 ro5 cs5 lx5 hb5 hp5 hrel5=>?_)
     obtain⟨pa,pn,pc,rfl,hpa⟩:=hrel5
     have hpal:=hpa.len
     have hpk:=hok.packs x (gM hxj)
     obtain⟨z,hz⟩:∃z,vs[j]?=some z:=⟨_,gE zo⟩
     refine zB4 ?_
     refine WT.allocT hT Z Z Z Z Z Z (fun i18 hi18=>?_)
     refine zB4 ?_
     refine AW.cond Z (fun ht=>?_) (fun ht=>?_)
     ·refine AW.exit ?_
      skip
      exact⟨⟨tk,vs,ch⟩,sM,zow,hRS.stay hxj ht⟩
     ·have ht:x.key.sym.term=false:=by simpa using ht
      refine zB4 ?_
      have nspec:∀G,Frz.le F3 G→(∀i b,(i,b)∈[(iv,Blk.cells false (vs.map ci))]→G i=some b)→Abs.Spec CC 53 [.agg ⟨nodeCells x pa pn pc⟩,.agg ⟨r.ring⟩,.func (.func r.gr) ⟨[]⟩ ⟨r.cr⟩,.slice (some ⟨iv,0,none⟩) fn (if fn=0 then 0 else 1)] G [] fun _ v o=>o=[]∧v=ci (nodeV r vs x)∧nodeV r vs x≤r.M:=fun G hG hBG=>
       node_spec G r (fun H hH=>hR H ((hF03.trans hG).trans hH)) (hpa.mono hG) zo (arr_ci (hBG iv _ me) hvl rfl) hRS.small (fun p hp k hk=>by rw[hvl,hNl];exact hok.kid k j ⟨x,p,hxj,hp,hk⟩)
      unfold nodeCells RingI.ring at nspec
      refine WT.callLend 1 Tryz.func53 Z Z Z Z Z Z Z nspec (fun v hv=>?_)
      obtain⟨rfl,hvM⟩:=hv
      cases ch with
      | true=>
       refine zB4 ?_
       refine WT.idxA (j:=j) (s:=1) hT Z Z Z Z Z Z Z Z Z zo ?_
       refine WT.storeAt hT 1 0 Z Z Z Z Z Z Z Z Z Z (by simp;omega) Z Z ?_
       rw[show (vs.map ci).set (0+j*1) (ci (nodeV r vs x))=(vs.set j (nodeV r vs x)).map ci from ci_set vs j _]
       refine zB4 ?_
       exact⟨⟨tk,vs.set j (nodeV r vs x),true⟩,sM,zow,hRS.put hxj ht hz hvM⟩
      | false=>
       refine zB4 ?_
       refine WT.idxA (j:=j) (s:=1) hT Z Z Z Z Z Z Z Z Z zo ?_
       refine WT.loadAt hT 1 Z Z Z Z Z Z me Z Z (ci_at hz) ?_
       skip
       obtain⟨fns,hfs,hfsb⟩:=(hR F3 hF03).hs
       refine WT.callC hfs hfsb Z Z Z Z Z Z Z ((hR F3 hF03).S (nodeV r vs x) z) (fun v hv=>?_)
       subst hv
       refine zB4 ?_
       refine WT.idxA (j:=j) (s:=1) hT Z Z Z Z Z Z Z Z Z zo ?_
       refine WT.storeAt hT 1 0 Z Z Z Z Z Z Z Z Z Z (by simp;omega) Z Z ?_
       rw[show (vs.map ci).set (0+j*1) (ci (nodeV r vs x))=(vs.set j (nodeV r vs x)).map ci from ci_set vs j _]
       refine zB4 ?_
       exact⟨⟨tk,vs.set j (nodeV r vs x),!decide (nodeV r vs x=z)⟩,sM,zow,by have:=hRS.put hxj ht hz hvM;rwa [Bool.false_or] at this⟩
    ·intro t F3 hF3 hRS
     obtain⟨tk,vs,ch⟩:=t
     have hRS:RoundS r Ns s.vs fn vs ch:=hRS
     have hvl:vs.length=fn:=by rw[hRS.is,roundTo_len,hsl]
     have hnext:vs=valsAt r Ns (s.k+1):=by rw[hRS.is,hsv,hNl];rfl
     unfold RingI.ring
     cases ch with
     | false=>
      have hsame:=hRS.same rfl
      refine zB4 ?_
      refine AW.cond Z (fun _=>?_) (fun h=>(by cases h))
      have hpl:place S (rootKey g w)<fn:=by
       have:=(gS (place_at hK.first)).1
       have e:Ns.length=S.length:=by rw[←hNs,List.length_map]
       omega
      obtain⟨y,hy⟩:∃y,vs[place S (rootKey g w)]?=some y:=⟨_,gE zo⟩
      refine zB4 ?_
      refine WT.idxA (j:=place S (rootKey g w)) (s:=1) hT Z Z Z Z Z Z Z Z Z zo ?_
      refine WT.loadAt hT 0 Z Z Z Z Z Z me Z Z (ci_at hy) ?_
      refine zB4 ?_
      refine AW.ret ⟨_,[],⟨_,_,rfl,⟨_,_,rfl,rfl,rfl⟩,rfl⟩,zsb,rfl,E,hE,.inr ⟨hst,S,hK,?_⟩⟩
      rw[hNs]
      exact .inl ⟨s.k,y,hk,by rw[←hnext,←hsv];exact hsame,by rw[←hsv,←hsame];exact hy,rfl⟩
     | true=>
      obtain⟨q,hq,hqd⟩:=hRS.diff rfl
      refine zB4 ?_
      refine AW.cond Z (fun h=>(by cases h)) (fun _=>?_)
      refine zB4 ?_
      refine⟨⟨s.k+1,vs,false⟩,(by show 200-(s.k+1)<200-s.k;omega),sM,zow,hnext,hRS.small,hk,fun k h=>?_⟩
      rcases Nat.lt_or_ge k s.k with h1 | h1
      ·exact hsd k h1
      ·obtain rfl:k=s.k:=by have:k<s.k+1:=h;omega
       rw[←hnext,←hsv]
       intro e;rw[e] at hqd;exact hqd rfl
   ·have hk:s.k=200:=by simp at hk;omega
    skip
    refine AW.exit ?_
    refine zB4 ?_
    refine AW.ret ⟨_,[],⟨_,_,rfl,⟨_,_,rfl,rfl,rfl⟩,rfl⟩,zsb,rfl,E,hE,.inr ⟨hst,S,hK,?_⟩⟩
    rw[hNs]
    exact .inr ⟨fun k h=>hsd k zo,rfl⟩
end Go.Proofs.D
set_option linter.unusedVariables false
set_option maxRecDepth 20000
set_option maxHeartbeats 0
open Go Go.Abs Go.Proofs Go.Proofs.D
namespace Go.Abs
section
variable {C:Ctx}{T:RT}{n:Nat}{k:Kno}{F:Frz}{own:Own}{ops rest:List Oper}{o:Oper}{Q:Kno→Frz→Own→List Rec→Prop}
theorem WT.clearO(hT:rowsOk C T=true)(p:Nat){t e:Nat}{ts:List TypeId}{r:Row}{xo:Operand}{b off c2 l:Nat}{cs zs cs':List Value}{own':Own}{z:Value}(hop:o.op=.call ⟨.builtin .clear,⟨[xo]⟩,⟨t::ts⟩⟩)(hw:wantK ops k o=some true)(hdst:o.dst=none)
  (hx:evK C k xo=some (.slice (some ⟨b,off,none⟩) (l+1) c2)) (hr:rowOf T t=some r) (hde:r.d=.slice e) (hz:zeroT T e=some z) (hzs:rowsL z.cells.toList (l+1)=zs) (h1:zs.all one=true) (hfit:off+zs.length≤cs.length) (hcs:spliceL cs off zs=cs') (hp:own[p]?=some [(b,.cells false cs)]) (ho:setO own p [(b,.cells false cs')]=some own')
  (h:WT C n ops rest k F own' (fun k2 F2 own2 rs=>Q k2 F2 own2 (⟨F,own,F,own',[]⟩::rs))):WT C n ops (o::rest) k F own Q:=by
 subst hzs hcs
 have hlk:looksK (evK C k) o.op=some []:=by rw[hop];rfl
 have hvs:vals (evK C k) [xo]=some [.slice (some ⟨b,off,none⟩) (l+1) c2]:=by simp[vals,hx]
 have e2:=setO_ok _ _ _ _ ho
 refine WT.step (l:=[]) hlk fun e0 h0 hk hs0=>?_
 have hb:=hs0.has hp me
 refine⟨undefA,h0.put b (some (.cells false (spliceL cs off (rowsL z.cells.toList (l+1))))),F,own',⟨0,fun N _=>?_⟩,Frz.le.refl F,?_,?_⟩
 ·refine step_val hk hw ?_ _
  rw[hop]
  have h6:Nat.ble (off+(rowsL z.cells.toList (l+1)).length) cs.length=true:=Nat.ble_eq_true_of_le hfit
  simp only[opA,hvs,builtinA,clearA,und_slice hT hr hde,zeroT_ok hT hz,hb,h1,h6,Bool.and_self,cond_true]
  rfl
 ·have:=hs0.put hp (q:=0) rfl (.cells false (spliceL cs off (rowsL z.cells.toList (l+1))))
  simp only[List.set_cons_zero] at this
  rw[e2] at this
  exact this
 ·rw[hdst]
  exact h
end
end Go.Abs
namespace Go.Proofs.D
theorem arr_ciR{F:Frz}{i n c:Nat}{vs:List Nat}{rest:List Value}(h:F i=some (.cells false (vs.map ci++rest)))(hn:vs.length=n)(hc:c=if n=0 then 0 else 1):Arr tNat F (some ⟨i,0,none⟩) n c vs where
 len:=hn.symm
 cap:=by rw[hc];split;exact .inl rfl;exact .inr rfl
 zero:=fun e=>by rw[hc] at e;split at e<;>omega
 nil:=fun e=>(by cases e)
 spot:=fun p e=>(by cases e;rfl)
 el:=fun j x hx=>⟨i,0,false,_,[ci x],rfl,h,by
  refine partL_of ?_ rfl
  obtain⟨h1,h2⟩:=gS hx
  show [ci x]=((vs.map ci++rest).drop (0+j*1)).take 1
  rw[Nat.zero_add,Nat.mul_one,List.drop_append_of_le_length (by simp;omega),←List.map_drop,List.drop_eq_getElem_cons h1,h2];rfl,rfl⟩
abbrev Lists(g:Nat)(args:List Value)(F:Frz)(B:List (Nat×Blk))(l:List Nat):Prop:=Abs.Spec CC g args F [B] fun F' v o=>∃B1,o=[B1]∧B1=[]∧∃a n c,v=.slice a n c∧Arr tNat F' a n c l
theorem compact0_spec(F:Frz):Lists 113 [.slice none 0 0] F [] []:=by
 unfold Lists
 refine Abs.Spec.fn (n:=61) Tryz.func113 rfl rfl fun own=>?_
 refine zB4 ?_
 refine AW.cond Z (fun _=>?_) (fun h=>(by cases h))
 refine zB4 ?_
 exact AW.ret ⟨_,[_],⟨_,_,rfl,rfl,rfl⟩,zsb,_,rfl,rfl,_,_,_,rfl,Arr.nil_ _ _⟩
theorem compact1_spec(F:Frz)(i x:Nat)(rest:List Value):Lists 113 [.slice (some ⟨i,0,none⟩) 1 1] F [(i,.cells false (ci x::rest))] [x]:=by
 unfold Lists
 refine Abs.Spec.fn (n:=61) Tryz.func113 rfl rfl fun own=>?_
 refine AW.freezeAll 0 Z Z (fun F1 hF1 hB1=>?_)
 have h1:Arr tNat F1 (some ⟨i,0,none⟩) 1 1 [x]:=arr_ciR (hB1 i _ me) rfl rfl
 refine zB4 ?_
 refine AW.cond Z (fun _=>?_) (fun h=>(by cases h))
 refine zB4 ?_
 exact AW.ret ⟨_,[_],⟨_,_,rfl,rfl,rfl⟩,zsb,_,rfl,rfl,_,_,_,rfl,h1⟩
def compact2(x y:Nat):List Nat:=if x=y then [x] else [x,y]
theorem compact2_spec(F:Frz)(i x y:Nat)(rest:List Value):Lists 113 [.slice (some ⟨i,0,none⟩) 2 1] F [(i,.cells false (ci x::ci y::rest))] (compact2 x y):=by
 unfold Lists
 refine Abs.Spec.fn (n:=61) Tryz.func113 rfl rfl fun own=>?_
 refine zB4 ?_
 refine AW.cond Z (fun h=>(by cases h)) (fun _=>?_)
 refine zB4 ?_
 refine AW.block ?_
 refine AW.loopR (S:=Nat) (fun k=>[(3,ci k)]) (fun _=>_) (fun k G=>k=1∨(k=2∧x≠y)) (fun k=>2-k) 1 sM oR (.inl rfl) ?_
 intro k F1 hF1 hk
 rcases hk with rfl | ⟨rfl,hxy⟩
 ·refine zB4 ?_
  refine AW.cond Z (fun _=>?_) (fun h=>(by cases h))
  refine zB4 ?_
  refine AW.block ?_
  refine zB4 ?_
  refine WT.idxA (j:=1) (s:=1) hT Z Z Z Z Z Z Z Z Z (by decide) ?_
  refine zB4 ?_
  refine WT.idxA (j:=0) (s:=1) hT Z Z Z Z Z Z Z Z Z (by decide) ?_
  refine zB4 ?_
  refine AW.cond Z (fun hc=>?_) (fun hc=>?_)
  ·have hc:x=y:=by simp at hc;omega
   subst hc
   refine zB4 ?_
   refine WT.slice Z Z Z Z Z Z Z Z (fun h0=>sliceA_some (lo:=1) (hi:=2) hT Z Z Z Z Z (by decide) (Nat.le_refl _) (.inr rfl) h0) ?_
   refine zB4 ?_
   refine AW.block ?_
   refine AW.loopR (S:=Unit) (fun _=>[]) (fun _=>_) (fun _ _=>True) (fun _=>0) () sM oR trivial ?_
   intro _ F2 hF2 _
   refine zB4 ?_
   refine AW.cond Z (fun h=>(by cases h)) (fun _=>?_)
   refine AW.exit ?_
   refine zB4 ?_
   refine WT.slice Z Z Z Z Z Z Z Z (fun h0=>sliceA_some (lo:=1) (hi:=2) hT Z Z Z Z Z (by decide) (Nat.le_refl _) (.inr rfl) h0) ?_
   refine WT.clearO hT 0 (l:=0) (zs:=[ci 0]) (cs':=ci x::ci 0::rest) Z Z Z Z Z Z Z Z Z (by simp) Z Z Z ?_
   refine WT.freezeAll 0 Z Z (fun F6 hF6 hB6'=>?_)
   have harr:Arr tNat F6 (some ⟨i,0,none⟩) 2 1 [x,0]:=arr_ciR (hB6' i _ me) rfl rfl
   obtain⟨sa,sc,hss,hsl⟩:=harr.slice (C:=CC) (lo:=0) (hi:=1) (Nat.zero_le _) (by decide) hT (t:=22) Z Z Z none (some (.int .i64 ((1:Nat):Int))) rfl rfl
   refine zB4 ?_
   refine WT.slice Z Z Z Z Z Z Z Z hss ?_
   refine zB4 ?_
   refine AW.ret ⟨_,[_],⟨_,_,rfl,rfl,rfl⟩,zsb,_,rfl,rfl,_,_,_,rfl,?_⟩
   unfold compact2
   rw[if_pos rfl]
   exact hsl
  ·have hc:x≠y:=fun e=>by subst e;simp at hc
   refine zB4 ?_
   exact⟨2,by decide,sM,zow,.inr ⟨rfl,hc⟩⟩
 ·refine zB4 ?_
  refine AW.cond Z (fun h=>(by cases h)) (fun _=>?_)
  refine AW.exit ?_
  refine AW.freezeAll 0 Z Z (fun F2 hF2 hB2=>?_)
  have h1:Arr tNat F2 (some ⟨i,0,none⟩) 2 1 [x,y]:=arr_ciR (hB2 i _ me) rfl rfl
  refine zB4 ?_
  refine AW.ret ⟨_,[_],⟨_,_,rfl,rfl,rfl⟩,zsb,_,rfl,rfl,_,_,_,rfl,?_⟩
  unfold compact2
  rw[if_neg hxy]
  exact h1
theorem leastOf_spec(F:Frz){a:Option Addr}{n c:Nat}{B B':List (Nat×Blk)}{l:List Nat}(hn:n≤12)(h1:∀G,Frz.le F G→Makes 146 [.slice a n c,.int .i64 0,.int .i64 (n:Nat)] G B B')(h2:∀G,Frz.le F G→Lists 113 [.slice a n c] G B' l)(hl:l.length≤2) :
  Lists 84 [.slice a n c,.int .i64 1] F B (l.take 1):=by
 unfold Lists
 refine Abs.Spec.fn (n:=15) Tryz.func84 rfl rfl fun own=>?_
 refine zB4 ?_
 refine WT.call1F 0 Tryz.func112 Z Z Z Z Z Z Z (fun _=>rfl) (sortSmall_spec F hn (h1 F (Frz.le.refl F))) (fun F2 v B2 hF2 hv=>?_)
 subst hv
 refine zB4 ?_
 refine WT.call1F 0 Tryz.func113 Z Z Z Z Z Z Z (fun _=>rfl) (h2 F2 hF2) (fun F3 v B3 hF3 hv=>?_)
 obtain⟨rfl,ra,rn,rc,rfl,hr⟩:=hv
 have hrl:=hr.len
 refine zB4 ?_
 refine WT.minT (x:=rn) (y:=1) Z Z Z Z Z Z ?_
 obtain⟨sa,sc,hss,hsl⟩:=hr.slice (C:=CC) (lo:=0) (hi:=min rn 1) (Nat.zero_le _) zo hT (t:=22) Z Z Z none (some (.int .i64 ((min rn 1:Nat):Int))) rfl rfl
 skip
 refine WT.slice Z Z Z Z Z Z Z Z hss ?_
 refine zB4 ?_
 refine AW.ret ⟨_,[_],⟨_,_,rfl,rfl,rfl⟩,zsb,_,rfl,rfl,_,_,_,rfl,?_⟩
 have e:(l.take (min rn 1)).drop 0=l.take 1:=by
  rw[List.drop_zero]
  cases l with
  | nil=>simp
  | cons x l=>rw[Nat.min_eq_right (by rw[hrl];simp)]
 rw[e] at hsl
 exact hsl
def optL(o:Option Nat):List Nat:=o.toList
def minO:Option Nat→Option Nat→Option Nat
 | none,b=>b
 | a,none=>a
 | some x,some y=>some (min x y)
def addO:Option Nat→Option Nat→Option Nat
 | some x,some y=>some (x+y)
 | _,_=>none
theorem least0_spec(F:Frz):Lists 84 [.slice none 0 0,.int .i64 1] F [] []:=
 leastOf_spec F (l:=[]) (by decide) (fun G _=>ins0_spec G) (fun G _=>compact0_spec G) (by decide)
theorem least1_spec(F:Frz)(i x:Nat)(rest:List Value):Lists 84 [.slice (some ⟨i,0,none⟩) 1 1,.int .i64 1] F [(i,.cells false (ci x::rest))] [x]:=
 leastOf_spec F (l:=[x]) (by decide) (fun G _=>ins1_spec G i x rest) (fun G _=>compact1_spec G i x rest) (by simp)
theorem least2_spec(F:Frz)(i x y:Nat)(rest:List Value):Lists 84 [.slice (some ⟨i,0,none⟩) 2 1,.int .i64 1] F [(i,.cells false (ci x::ci y::rest))] [min x y]:=by
 have h:=leastOf_spec F (l:=compact2 (min x y) (max x y)) (by decide) (fun G _=>ins2_spec G i x y rest) (fun G _=>compact2_spec G i _ _ rest) (by unfold compact2;split<;>simp)
 rw[show (compact2 (min x y) (max x y)).take 1=[min x y] by unfold compact2;split<;>rfl] at h
 exact h
section
variable {C:Ctx}{T:RT}{n:Nat}{k:Kno}{F:Frz}{own:Own}{ops rest:List Oper}{o:Oper}{Q:Kno→Frz→Own→List Rec→Prop}
theorem capNil(hT:rowsOk C T=true){t e:TypeId}{ts:List TypeId}{r:Row}{xo:Operand}(hop:o.op=.call ⟨.builtin .cap,⟨[xo]⟩,⟨t::ts⟩⟩)(hw:wantK ops k o=some true){dst:Nat}(hdst:o.dst=some dst)(hn:Nat.blt dst n=true)
  (hx:evK C k xo=some (.slice none 0 0)) (hr:rowOf T t=some r) (hd:r.d=.slice e)
  (h:WT C n ops rest ((dst,.int .i64 ((0:Nat):Int))::k) F own (fun k2 F2 own2 rs=>Q k2 F2 own2 (⟨F,own,F,own,[]⟩::rs))):WT C n ops (o::rest) k F own Q:=by
 refine WT.still (l:=[]) hw (by rw[hop];rfl) (fun h0 _=>?_) (by rw[hdst,putK_some hn];exact h)
 rw[hop]
 have hv:vals (evK C k) [xo]=some [.slice none 0 0]:=by simp[vals,hx]
 simp only[opA,hv,builtinA,capA,und_slice hT hr hd]
 rfl
theorem first0{h:Heap}{s m c:Nat}{a:Option Addr}(ha:∀p,a=some p→p.spot=none):firstA h s 0 (.slice a m c)=some []:=by
 match a,ha with
 | none,_=>rfl
 | some ⟨b,off,none⟩,_=>rfl
 | some ⟨b,off,some _⟩,ha=>have:=ha _ rfl;cases this
end
theorem numGrow_spec(F:Frz)(n:Nat)(hn:n≤1000) :
  Abs.Spec CC 114 [.slice none 0 0,.int .i64 n] F [] fun F' v o=>∃B',o=[B']∧((n=0∧v=.slice none 0 0∧B'=[])∨0<n∧∃b,v=.slice (some ⟨b,0,none⟩) 0 1∧PBld tNat F' b 0 B' []):=by
 refine Abs.Spec.fn (n:=27) Tryz.func114 rfl rfl fun own=>?_
 refine zC4 ?_
 refine AW.cond Z (fun h=>(by simp at h;omega)) (fun _=>?_)
 refine zC4 ?_
 refine capNil hT Z Z Z Z Z Z Z ?_
 refine zC4 ?_
 refine AW.cond Z (fun h=>?_) (fun h=>?_)
 ·have h:0<n:=by simp at h;omega
  rw[show n-(0-0)=n by omega]
  refine zC4 ?_
  refine capNil hT Z Z Z Z Z Z Z ?_
  skip
  refine WT.slice Z Z Z Z Z Z Z Z (v:=.slice none 0 0) (fun h0=>rfl) ?_
  refine zC4 ?_
  refine WT.appendN hT Z Z Z Z Z Z Z Z Z Z Z Z Z Z Z ⟨h,by decide,by decide⟩ zo zom (fun i9 hi9=>?_)
  refine zC4 ?_
  refine WT.slice Z Z Z Z Z Z Z Z (fun h0=>sliceA_some (lo:=0) (hi:=0) hT Z Z Z Z Z (Nat.le_refl _) (Nat.zero_le _) (.inr rfl) h0) ?_
  refine zC4 ?_
  refine AW.ret ⟨_,[_],⟨_,_,rfl,rfl,rfl⟩,zsb,_,rfl,.inr ⟨h,i9,rfl,rfl,by decide,_,[],rfl,?_,.nil⟩⟩
  exact partL_of rfl rfl
 ·have h:n=0:=by simp at h;omega
  subst h
  refine zC4 ?_
  refine AW.le (own2:=[]::own) (OwnLe.flat (List.Perm.refl _)) ?_
  exact AW.ret ⟨_,[[]],⟨_,_,rfl,rfl,rfl⟩,zsb,_,rfl,.inl ⟨rfl,rfl,rfl⟩⟩
structure GSn where
 b:Nat
 xs:List Nat
 B:List (Nat×Blk)
theorem cells_nat{F:Frz}:∀{xs:List Nat} {cs:List Value},Cells tNat F cs xs→cs=xs.map ci:=by
 intro xs cs h
 induction h with
 | nil=>rfl
 | cons h _ ih=>obtain rfl:_=_:=h;rw[ih];rfl
theorem numConcatOwn_spec(F:Frz){a:Option Addr}{m c:Nat}{L:List (List Nat)}(hL:Arr (tList tNat) F a m c L)(hm:m≤1000)(ht:L.flatten.length≤1000) :
  Abs.Spec CC 85 [.slice a m c] F [] fun F' v o=>∃B',o=[B']∧((L.flatten=[]∧v=.slice none 0 0∧B'=[])∨L.flatten≠[]∧∃i rest,v=.slice (some ⟨i,0,none⟩) L.flatten.length 1∧B'=[(i,.cells false (L.flatten.map ci++rest))]):=by
 have hml:=hL.len
 have step:∀j l,L[j]?=some l→(L.take (j+1)).flatten=(L.take j).flatten++l:=fun j l h=>by
  rw[List.take_add_one,h];simp
 have few:∀j,(L.take j).flatten.length≤L.flatten.length:=fun j=>by
  have:L.flatten=(L.take j).flatten++(L.drop j).flatten:=by rw[←List.flatten_append,List.take_append_drop]
  rw[this,List.length_append];omega
 refine Abs.Spec.fn (n:=36) Tryz.func85 rfl rfl fun own=>?_
 refine zC4 ?_
 refine AW.range (S:=Nat) (fun s=>[(3,.int .i64 (s:Nat))]) (fun _=>_) (fun j s G=>s=(L.take j).flatten.length) m 0 Z Z Z Z Z Z Z Z Z zo Z Z (fun _=>rfl) (fun _=>rfl) sM oR (by simp) ?_ ?_
 ·intro j s F1 hF1 hj hP
  have hL1:=hL.mono hF1
  have hfj:=few j
  have hP:s=(L.take j).flatten.length:=hP
  refine zC4 ?_
  refine WT.idxL hT hL1 Z Z Z Z Z Z Z Z Z zo (fun l hlj b1 off ro cs lx hb hp1 hrel=>?_)
  obtain⟨xa,xn,xc,rfl,hxa⟩:=hrel
  have hxl:=hxa.len
  have hst:=step j l hlj
  have hfj2:=few (j+1)
  rw[hst,List.length_append] at hfj2
  refine zC4 ?_
  refine AW.cond Z (fun h=>(by simp at h;omega)) (fun _=>?_)
  refine zC4 ?_
  refine⟨s+xn,sM,zow,?_⟩
  show s+xn=(L.take (j+1)).flatten.length
  rw[hst,List.length_append,←hP,hxl]
 ·intro s F1 hF1 hP
  have hP:s=(L.take m).flatten.length:=hP
  rw[List.take_of_length_le zo] at hP
  subst hP
  have hL1:=hL.mono hF1
  refine zC4 ?_
  refine WT.callN Tryz.func114 Z Z Z Z Z Z (numGrow_spec _ _ ht) (fun F2 v B2 hF2 hv=>?_)
  have hL2:=hL1.mono hF2
  rcases hv with ⟨hn,rfl,rfl⟩ | ⟨hn0,b,rfl,hb⟩
  ·have h0:L.flatten=[]:=List.eq_nil_of_length_eq_zero hn
   refine zC4 ?_
   refine AW.range (S:=Unit) (fun _=>[]) (fun _=>_) (fun j _ G=>True) m ()
    Z Z Z Z Z Z Z Z Z zo rfl rfl (fun _=>rfl) (fun _=>rfl) sM oR trivial ?_ ?_
   ·intro j u F3 hF3 hj _
    have hL3:=hL2.mono hF3
    refine zC4 ?_
    refine WT.idxL hT hL3 Z Z Z Z Z Z Z Z Z zo (fun l hlj b1 off ro cs lx hb hp1 hrel=>?_)
    obtain⟨xa,xn,xc,rfl,hxa⟩:=hrel
    have hxl:=hxa.len
    have hl0:l=[]:=by
     have h1:=few (j+1)
     rw[step j l hlj,List.length_append] at h1
     exact List.eq_nil_of_length_eq_zero zo
    obtain rfl:xn=0:=by rw[hxl,hl0];rfl
    refine zC4 ?_
    refine WT.append0 hT Z Z Z Z Z Z Z Z Z Z Z Z Z (fun h0 s0=>first0 hxa.spot) (by decide) zom ?_
    refine zC4 ?_
    exact⟨(),sM,zow,trivial⟩
   ·intro u F3 hF3 _
    refine zC4 ?_
    refine AW.le (own2:=[]::own) (OwnLe.flat (List.Perm.refl _)) ?_
    exact AW.ret ⟨_,[_],⟨_,_,rfl,rfl,rfl⟩,zsb,_,rfl,.inl ⟨h0,rfl,rfl⟩⟩
  ·refine zC4 ?_
   refine AW.range (S:=GSn) (fun u=>[(6,.slice (some ⟨u.b,0,none⟩) u.xs.length 1)]) (fun u=>u.B::own) (fun j u G=>PBld tNat G u.b u.xs.length u.B u.xs∧u.xs=(L.take j).flatten) m ⟨b,[],B2⟩
    Z Z Z Z Z Z Z Z Z zo rfl rfl (fun _=>rfl) (fun _=>rfl) sM oR ⟨hb,by simp⟩ ?_ ?_
   ·intro j u F3 hF3 hj hP
    obtain⟨hb3,hxs⟩:=hP
    have hL3:=hL2.mono hF3
    have hfj2:=few (j+1)
    refine zC4 ?_
    refine WT.idxL hT hL3 Z Z Z Z Z Z Z Z Z zo (fun l hlj b1 off ro cs lx hb hp1 hrel=>?_)
    obtain⟨xa,xn,xc,rfl,hxa⟩:=hrel
    have hxl:=hxa.len
    have hst:=step j l hlj
    rw[hst,List.length_append,←hxs,←hxl] at hfj2
    refine zC4 ?_
    obtain⟨ds,hds,hcs⟩:=news_arr hT hxa (t:=22) rfl rfl 3
    refine WT.appendP hT 0 hb3 Z (fun _=>rfl) Z Z Z Z Z Z Z Z Z Z Z (fun h0 s0=>hds _ h0 s0) hcs hxl (by decide) zom (fun b' B' hB'=>?_)
    have hl2:u.xs.length+xn=(u.xs++l).length:=by rw[List.length_append,←hxl]
    rw[hl2] at hB' ⊢
    refine zC4 ?_
    exact⟨⟨b',u.xs++l,B'⟩,sM,zow,hB',by rw[hst,←hxs]⟩
   ·intro u F3 hF3 hP
    obtain⟨hb3,hxs⟩:=hP
    rw[List.take_of_length_le zo] at hxs
    obtain⟨ub,uxs,uB⟩:=u
    have hb3:PBld tNat F3 ub uxs.length uB uxs:=hb3
    obtain⟨hlen,hpos,cs,old,rfl,hpo,hcs⟩:=hb3
    have ho:=cells_nat hcs
    have hcs2:cs=uxs.map ci++cs.drop uxs.length:=by
     obtain⟨e1,e2⟩:=partL_eq hpo
     have e3:old=cs.take uxs.length:=by rw[e1,List.drop_zero];show cs.take (uxs.length*1)=_;rw[Nat.mul_one]
     rw[←ho,e3,List.take_append_drop]
    have hxs:uxs=L.flatten:=hxs
    subst hxs
    refine zC4 ?_
    refine AW.ret ⟨_,[_],⟨_,_,rfl,rfl,rfl⟩,zsb,_,rfl,.inr ⟨fun e=>by rw[e] at hn0;exact absurd hn0 (Nat.lt_irrefl _),ub,cs.drop (L.flatten).length,rfl,?_⟩⟩
    rw[←hcs2]
def minL:List Nat→List Nat
 | x::y::_=>[min x y]
 | l=>l
theorem leastL_spec(F:Frz){l:List Nat}(hl:l.length≤2){v:Value}{B:List (Nat×Blk)}(h:(l=[]∧v=.slice none 0 0∧B=[])∨∃i rest,v=.slice (some ⟨i,0,none⟩) l.length 1∧B=[(i,.cells false (l.map ci++rest))])(hne:l=[]→v=.slice none 0 0∧B=[]) :
  Lists 84 [v,.int .i64 1] F B (minL l):=by
 match l,hl with
 | [],_=>obtain⟨rfl,rfl⟩:=hne rfl;exact least0_spec F
 | [x],_=>
  rcases h with ⟨h,_⟩ | ⟨i,rest,rfl,rfl⟩
  ·cases h
  ·exact least1_spec F i x rest
 | [x,y],_=>
  rcases h with ⟨h,_⟩ | ⟨i,rest,rfl,rfl⟩
  ·cases h
  ·exact least2_spec F i x y rest
theorem minL_opt(x y:Option Nat):minL (optL x++optL y)=optL (minO x y):=by cases x<;>cases y<;>rfl
theorem lplus_spec(F:Frz){ik:Nat}(hk:F ik=some (.cells false [.int .i64 1])){a b:Option Addr}{m n c d:Nat}{x y:Option Nat}(hx:Arr tNat F a m c (optL x))(hy:Arr tNat F b n d (optL y)) :
  Abs.Spec CC 83 [.slice a m c,.slice b n d,.pointer (some ⟨ik,0,none⟩)] F [] fun F' v o=>o=[]∧∃p q r,v=.slice p q r∧Arr tNat F' p q r (optL (minO x y)):=by
 refine Abs.Spec.fn (n:=12) Tryz.func83 rfl rfl fun own=>?_
 refine zB4 ?_
 refine AW.draw (ps:=[(4,2),(4,3)]) Z Z ?_
 refine zB4 ?_
 refine WT.buildT hT Z Z Z Z Z Z Z Z Z Z Z Z Z Z (fun i8 hi8=>?_)
 refine WT.freezeAll 0 Z Z (fun F1 hF1 hB1=>?_)
 have h8:Arr (tList tNat) F1 (some ⟨i8,0,none⟩) 2 1 [optL x,optL y]:=Bld.frozen (F:=F1) (B:=[(i8,.cells false [.slice a m c,.slice b n d])]) ⟨rfl,.inr ⟨i8,_,rfl,rfl,rfl,Cells.cons (R:=tList tNat) (x:=optL x) (l:=[_]) ⟨_,_,_,rfl,hx.mono hF1⟩ (Cells.single (R:=tList tNat) (x:=optL y) ⟨_,_,_,rfl,hy.mono hF1⟩),by decide⟩⟩ (Frz.le.refl _) hB1
 have hfl:[optL x,optL y].flatten=optL x++optL y:=by simp
 have hk1:=hF1 _ _ hk
 refine WT.callN Tryz.func85 Z Z Z Z Z Z (numConcatOwn_spec _ h8 (by decide) (by rw[hfl];cases x<;>cases y<;>simp[optL])) (fun F2 v B2 hF2 hv=>?_)
 rw[hfl] at hv
 have hk2:=hF2 _ _ hk1
 obtain⟨ca,cn,cc,rfl⟩:∃a n c,v=.slice a n c:=by
  rcases hv with ⟨_,rfl,_⟩ | ⟨_,i,rest,rfl,_⟩<;>exact⟨_,_,_,rfl⟩
 have hls:=fun G=>leastL_spec G (l:=optL x++optL y) (by cases x<;>cases y<;>simp[optL]) (hv.imp id fun h=>h.2) (fun e=>by
  rcases hv with ⟨_,h1,h2⟩ | ⟨h0,_⟩
  ·exact⟨h1,h2⟩
  ·exact absurd e h0)
 refine zB4 ?_
 refine WT.call1F 0 Tryz.func84 Z Z Z Z Z Z Z (fun _=>rfl) (hls _) (fun F3 v B3 hF3 hv3=>?_)
 obtain⟨rfl,ra,rn,rc,rfl,hr⟩:=hv3
 refine zB4 ?_
 refine⟨zrC,?_⟩
 skip
 exact AW.ret ⟨_,[],⟨_,_,rfl,rfl,rfl⟩,zsb,rfl,_,_,_,rfl,minL_opt x y▸hr⟩
structure NbS where
 a:Option Addr
 n:Nat
 c:Nat
 B:List (Nat×Blk)
 xs:List Nat
theorem optL_len(x:Option Nat):(optL x).length≤1:=by cases x<;>simp[optL]
theorem ltimes_spec(F:Frz){ik:Nat}(hk:F ik=some (.cells false [.int .i64 1])){a b:Option Addr}{m n c d:Nat}{x y:Option Nat}(hx:Arr tNat F a m c (optL x))(hy:Arr tNat F b n d (optL y))(hb:∀p q,x=some p→y=some q→p+q≤1000000000000) :
  Abs.Spec CC 86 [.slice a m c,.slice b n d,.pointer (some ⟨ik,0,none⟩)] F [] fun F' v o=>o=[]∧∃p q r,v=.slice p q r∧Arr tNat F' p q r (optL (addO x y)):=by
 have hxl:=hx.len
 have hyl:=hy.len
 have hx1:=optL_len x
 have hy1:=optL_len y
 refine Abs.Spec.fn (n:=34) Tryz.func86 rfl rfl fun own=>?_
 refine zB4 ?_
 refine AW.range (S:=NbS) (fun s=>[(6,.slice s.a s.n s.c)]) (fun s=>s.B::own) (fun j s G=>Bld tNat G s.a s.n s.c s.B s.xs∧(s.xs=[]→s.a=none∧s.B=[])∧s.xs=((optL x).take j).flatMap fun p=>(optL y).map fun q=>p+q) m ⟨none,0,0,[],[]⟩
  Z Z Z Z Z Z Z Z Z zo rfl rfl (fun _=>rfl) (fun _=>rfl) sM (OwnLe.flat (List.Perm.refl _)) ⟨Bld.nil_ _ _,fun _=>⟨rfl,rfl⟩,by simp⟩ ?_ ?_
 ·intro j s F1 hF1 hj hP
  obtain⟨hs,hsn,hsx⟩:=hP
  obtain rfl:j=0:=by omega
  have hsx:s.xs=[]:=hsx
  have hx2:=hx.mono hF1
  have hy2:=hy.mono hF1
  refine zB4 ?_
  refine WT.idxL hT hx2 Z Z Z Z Z Z Z Z Z zo (fun p hpj b3 off3 ro3 cs3 lx3 hb3 hp3 hrel3=>?_)
  obtain rfl:lx3=_:=hrel3
  obtain rfl:x=some p:=by
   cases x with
   | none=>cases hpj
   | some z=>have:some z=some p:=hpj;rw[this]
  refine zB4 ?_
  refine AW.range (S:=NbS) (fun s=>[(6,.slice s.a s.n s.c)]) (fun s=>s.B::own) (fun q s G=>Bld tNat G s.a s.n s.c s.B s.xs∧(s.xs=[]→s.a=none∧s.B=[])∧s.xs=((optL y).take q).map fun q=>p+q) n s
   Z Z Z Z Z Z Z Z Z zo rfl rfl (fun _=>rfl) (fun _=>rfl) sM oR ⟨hs,hsn,by rw[hsx];simp⟩ ?_ ?_
  ·intro q t F2 hF2 hq hP2
   obtain⟨ht,htn,htx⟩:=hP2
   obtain rfl:q=0:=by omega
   have htx:t.xs=[]:=htx
   have htl:=ht.len
   rw[htx] at htl
   have htl:t.n=0:=htl
   have hy3:=hy2.mono hF2
   refine zB4 ?_
   refine WT.idxL hT hy3 Z Z Z Z Z Z Z Z Z zo (fun z hzq b4 off4 ro4 cs4 lx4 hb4 hp4 hrel4=>?_)
   obtain rfl:lx4=_:=hrel4
   obtain rfl:y=some z:=by
    cases y with
    | none=>cases hzq
    | some u=>have:some u=some z:=hzq;rw[this]
   have hbz:=hb p z rfl rfl
   refine zC4 ?_
   refine WT.buildT hT Z Z Z Z Z Z Z Z Z Z Z Z Z Z (fun i27 hi27=>?_)
   refine WT.appendT (ys:=[p+z]) hT 1 ht Z (fun _=>rfl) Z Z Z Z Z Z Z Z Z Z Z (fun h0 s0=>news_own hT s0 0 Z Z Z Z) (Cells.single (R:=tNat) (x:=p+z) rfl) Z (by decide) zom (fun a2 c2 B2 hB2=>?_)
   refine zC4 ?_
   refine⟨⟨a2,t.n+1,c2,B2,t.xs++[p+z]⟩,sM,zow,hB2,fun e=>by simp at e,?_⟩
   rw[htx];rfl
  ·intro t F2 hF2 hP2
   obtain⟨ht,htn,htx⟩:=hP2
   skip
   refine⟨t,sM,zow,ht,htn,?_⟩
   rw[htx,List.take_of_length_le zo]
   simp[optL]
 ·intro s F1 hF1 hP
  obtain⟨hs,hsn,hsx⟩:=hP
  rw[List.take_of_length_le zo] at hsx
  have hsx:s.xs=optL (addO x y):=by rw[hsx];cases x<;>cases y<;>rfl
  have hk1:=hF1 _ _ hk
  obtain⟨sa,sn,sc,sB,sxs⟩:=s
  have hs:Bld tNat F1 sa sn sc sB sxs:=hs
  have hsx:sxs=optL (addO x y):=hsx
  have hsn:sxs=[]→sa=none∧sB=[]:=hsn
  have hls:=leastL_spec F1 (l:=sxs) (v:=.slice sa sn sc) (B:=sB) (by rw[hsx];cases x<;>cases y<;>simp[optL,addO]) ?_ ?_
  ·refine zB4 ?_
   refine WT.call1F 0 Tryz.func84 Z Z Z Z Z Z Z (fun _=>rfl) hls (fun F3 v B3 hF3 hv3=>?_)
   obtain⟨rfl,ra,rn,rc,rfl,hr⟩:=hv3
   refine zB4 ?_
   refine AW.ret ⟨_,[],⟨_,_,rfl,rfl,rfl⟩,zsb,rfl,_,_,_,rfl,?_⟩
   have e:minL sxs=optL (addO x y):=by rw[hsx];cases x<;>cases y<;>rfl
   exact e▸hr
  ·obtain⟨h1,⟨h2,rfl,rfl,rfl⟩ | ⟨i,cs,rfl,rfl,rfl,hc,_⟩⟩:=hs
   ·subst h2
    left
    exact⟨rfl,by rw[show sn=0 from h1],rfl⟩
   ·right
    exact⟨i,[],by rw[h1];rfl,by rw[cells_nat hc];simp⟩
  ·intro e
   obtain⟨h1,⟨h2,rfl,rfl,rfl⟩ | ⟨i,cs,rfl,rfl,rfl,hc,_⟩⟩:=hs
   ·rw[show sn=0 by rw[h1,h2];rfl];exact⟨rfl,rfl⟩
   ·have:=(hsn e).1;cases this
theorem lsame_spec(F:Frz){a b:Option Addr}{m n c d:Nat}{x y:Option Nat}(hx:Arr tNat F a m c (optL x))(hy:Arr tNat F b n d (optL y)) :
  Abs.Spec CC 82 [.slice a m c,.slice b n d] F [] fun _ v o=>o=[]∧v=.bool (decide (x=y)):=by
 have hxl:=hx.len
 have hx1:=optL_len x
 refine Abs.Spec.fn (n:=8) Tryz.func82 rfl rfl fun own=>?_
 refine zB4 ?_
 refine WT.callV Tryz.func45 Z Z Z Z Z Z (equal_spec _ hx hy zo) (fun v hv=>?_)
 subst hv
 refine zB4 ?_
 refine AW.ret ⟨_,[],⟨_,_,rfl,rfl,rfl⟩,zsb,rfl,?_⟩
 show Value.bool (decide (optL x=optL y))=_
 congr 1
 cases x<;>cases y<;>simp[optL]
theorem lrule_spec(F:Frz){i:Nat}{ca:Option Addr}{cn cc:Nat}{cost:List Nat}(hi:F i=some (.cells false [.slice ca cn cc]))(hc:Arr tNat F ca cn cc cost)(n:Nat){z:Nat}(hz:cost[n]?=some z) :
  Abs.Spec CC 88 [ci n,.pointer (some ⟨i,0,none⟩)] F [] fun F' v o=>o=[]∧∃p q r,v=.slice p q r∧Arr tNat F' p q r (optL (some z)):=by
 have hcl:=hc.len
 have hzl:=(gS hz).1
 refine Abs.Spec.fn (n:=9) Tryz.func88 rfl rfl fun own=>?_
 refine zB4 ?_
 refine WT.idxL hT hc Z Z Z Z Z Z Z Z Z zo (fun y hy b3 off3 ro3 cs3 lx3 hb3 hp3 hrel3=>?_)
 obtain rfl:lx3=_:=hrel3
 obtain rfl:y=z:=by rw[hz] at hy;exact(Option.some.inj hy).symm
 refine zB4 ?_
 refine WT.buildT hT Z Z Z Z Z Z Z Z Z Z Z Z Z Z (fun i8 hi8=>?_)
 refine WT.freezeAll 0 Z Z (fun F1 hF1 hB1=>?_)
 have h8:Arr tNat F1 (some ⟨i8,0,none⟩) 1 1 [y]:=arr_ci (hB1 i8 _ me) rfl rfl
 refine zB4 ?_
 exact AW.ret ⟨_,[],⟨_,_,rfl,rfl,rfl⟩,zsb,rfl,_,_,_,rfl,h8⟩
structure LeastC(F:Frz)(ik ic:Nat)(ca:Option Addr)(cn cc:Nat)(cost:List Nat):Prop where
 k:F ik=some (.cells false [.int .i64 1])
 c:F ic=some (.cells false [.slice ca cn cc])
 arr:Arr tNat F ca cn cc cost
theorem LeastC.mono{F G:Frz}{ik ic:Nat}{ca:Option Addr}{cn cc:Nat}{cost:List Nat}(h:LeastC F ik ic ca cn cc cost)(hF:Frz.le F G):LeastC G ik ic ca cn cc cost:=⟨hF _ _ h.k,hF _ _ h.c,h.arr.mono hF⟩
def ringL(ik:Nat)(oa:Option Addr)(on oc:Nat):List Value:=[.slice none 0 0,.slice oa on oc,.func (.func 83) ⟨[]⟩ ⟨[.pointer (some ⟨ik,0,none⟩)]⟩,.func (.func 86) ⟨[]⟩ ⟨[.pointer (some ⟨ik,0,none⟩)]⟩,.func (.func 82) ⟨[]⟩ ⟨[]⟩]
def valO(vs:List (Option Nat))(k:Nat):Option Nat:=(vs[k]?).getD none
def packO(cost:List Nat)(vs:List (Option Nat))(p:NPack):Option Nat:=p.kids.foldl (fun a k=>addO a (valO vs k)) (cost[p.rule]?)
def nodeO(cost:List Nat)(vs:List (Option Nat))(x:Node):Option Nat:=x.packs.foldl (fun s p=>minO s (packO cost vs p)) none
structure NlS where
 a:Option Addr
 n:Nat
 c:Nat
 x:Option Nat
theorem node3_spec(F:Frz){ik ic:Nat}{ca:Option Addr}{cn cc:Nat}{cost:List Nat}(hC:LeastC F ik ic ca cn cc cost)(hcm:∀y∈cost,y≤1000){oa:Option Addr}{on oc:Nat}{x:Node}{pa:Option Addr}{pn pc:Nat}(hp:Arr tNPack F pa pn pc x.packs)(hpn:pn≤1000000){va:Option Addr}{vn vc:Nat}{vs:List (Option Nat)}(hv:Arr (tList tNat) F va vn vc (vs.map optL))(hvM:∀y,some y∈vs→y≤1000000)
  (hkid:∀p∈x.packs,p.rule<cost.length∧p.kids.length≤1000∧∀k∈p.kids,k<vs.length) :
  Abs.Spec CC 115 [.agg ⟨nodeCells x pa pn pc⟩,.agg ⟨ringL ik oa on oc⟩,.func (.func 88) ⟨[]⟩ ⟨[.pointer (some ⟨ic,0,none⟩)]⟩,.slice va vn vc] F [] fun F' v o=>o=[]∧∃p q r,v=.slice p q r∧Arr tNat F' p q r (optL (nodeO cost vs x)):=by
 have hpl:=hp.len
 have hvl:=hv.len
 rw[List.length_map] at hvl
 unfold nodeCells ringL
 refine Abs.Spec.fn (n:=51) Tryz.func115 rfl rfl fun own=>?_
 refine AW.seq (AW.reg ?_)
 refine WT.boxT Z Z Z Z Z Z (fun i4 hi4=>?_)
 refine WT.boxT Z Z Z Z Z Z (fun i5 hi5=>?_)
 refine zB7 ?_
 refine AW.range (S:=NlS) (fun s=>[(9,.slice s.a s.n s.c)]) (fun _=>[(i5,.cells false (ringL ik oa on oc))]::[(i4,.cells false (nodeCells x pa pn pc))]::own)
  (fun j s G=>Arr tNat G s.a s.n s.c (optL s.x)∧s.x=(x.packs.take j).foldl (fun s p=>minO s (packO cost vs p)) none) pn ⟨none,0,0,none⟩
  Z Z Z Z Z Z Z Z Z zo rfl rfl (fun _=>rfl) (fun _=>rfl) sM oR ⟨Arr.nil_ _ _,rfl⟩ ?_ ?_
 ·intro j s F1 hF1 hj hP
  obtain⟨hs,hsx⟩:=hP
  have hp1:=hp.mono hF1
  have hv1:=hv.mono hF1
  have hC1:=hC.mono hF1
  unfold nodeCells ringL
  refine zB7 ?_
  refine WT.idxL hT hp1 Z Z Z Z Z Z Z Z Z zo (fun p hpj b6 off6 ro6 cs6 lx6 hb6 hp6 hrel6=>?_)
  obtain⟨ka,kn,kc,rfl,hka,hkb⟩:=hrel6
  have hkal:=hka.len
  have hpm:=gM hpj
  obtain⟨hpr,hpk,hpks⟩:=hkid p hpm
  obtain⟨z,hz⟩:∃z,cost[p.rule]?=some z:=⟨_,gE hpr⟩
  have hz1:=hcm z (gM hz)
  refine zB7 ?_
  refine WT.allocT hT Z Z Z Z Z Z (fun i11 hi11=>?_)
  refine zB7 ?_
  refine WT.callCF0 Tryz.func88 Z Z Z Z Z Z Z Z (lrule_spec _ hC1.c hC1.arr p.rule hz) (fun F2 v hF2 hv2=>?_)
  obtain⟨ra,rn,rc,rfl,hr⟩:=hv2
  refine zB7 ?_
  refine AW.range (S:=NlS) (fun t=>[(12,.slice t.a t.n t.c)]) (fun _=>[(i11,.cells false [.int .i64 p.rule,.slice ka kn kc])]::[(i5,.cells false (ringL ik oa on oc))]::[(i4,.cells false (nodeCells x pa pn pc))]::own)
   (fun q t G=>Arr tNat G t.a t.n t.c (optL t.x)∧t.x=(p.kids.take q).foldl (fun a k=>addO a (valO vs k)) (cost[p.rule]?)∧∀y,t.x=some y→y≤1000+q*1000000) kn ⟨ra,rn,rc,some z⟩
   Z Z Z Z Z Z Z Z Z zo rfl rfl (fun _=>rfl) (fun _=>rfl) sM oR ⟨hr,by rw[hz];rfl,fun y hy=>by cases hy;omega⟩ ?_ ?_
  ·intro q t F3 hF3 hq hP2
   obtain⟨ht,htx,htb⟩:=hP2
   have hka3:=(hka.mono hF2).mono hF3
   have hv3:=(hv1.mono hF2).mono hF3
   have hC3:=(hC1.mono hF2).mono hF3
   unfold nodeCells ringL
   refine zB7 ?_
   refine WT.idxL hT hka3 Z Z Z Z Z Z Z Z Z zo (fun k hkq b8 off8 ro8 cs8 lx8 hb8 hp8 hrel8=>?_)
   obtain rfl:lx8=_:=hrel8
   have hkl:=hpks k (gM hkq)
   obtain⟨u,hu⟩:∃u,vs[k]?=some u:=⟨_,gE hkl⟩
   have hkv:(vs.map optL).length=vs.length:=List.length_map ..
   have hva:valO vs k=u:=by unfold valO;rw[hu];rfl
   refine zB7 ?_
   refine WT.idxL hT hv3 Z Z Z Z Z Z Z Z Z zo (fun l hlk b9 off9 ro9 cs9 lx9 hb9 hp9 hrel9=>?_)
   obtain⟨la,ln,lc,rfl,hla⟩:=hrel9
   obtain rfl:l=optL u:=by rw[List.getElem?_map,hu] at hlk;exact(Option.some.inj hlk).symm
   refine zB7 ?_
   have hbb:∀y z,t.x=some y→u=some z→y+z≤1000+(q+1)*1000000:=fun y z h1 h2=>by
    have h3:=htb y h1
    have h4:=hvM z (by rw[←h2];exact gM hu)
    omega
   refine WT.callCF0 Tryz.func86 Z Z Z Z Z Z Z Z (ltimes_spec _ hC3.k ht hla (fun y z h1 h2=>by have:=hbb y z h1 h2;omega)) (fun F4 v hF4 hv4=>?_)
   obtain⟨wa,wn,wc,rfl,hw⟩:=hv4
   refine zB7 ?_
   refine⟨⟨wa,wn,wc,addO t.x u⟩,sM,zow,hw,?_,fun y hy=>?_⟩
   ·rw[List.take_add_one,hkq,List.foldl_append,←htx];show _=addO t.x (valO vs k);rw[hva]
   ·have hy:addO t.x u=some y:=hy
    cases htt:t.x with
    | none=>rw[htt] at hy;cases hy
    | some a=>cases u with
     | none=>rw[htt] at hy;cases hy
     | some b=>
      rw[htt] at hy
      have e:a+b=y:=Option.some.inj hy
      have:=hbb a b htt rfl
      omega
  ·intro t F3 hF3 hP2
   obtain⟨ht,htx,htb⟩:=hP2
   rw[List.take_of_length_le zo] at htx
   have hC3:=(hC1.mono hF2).mono hF3
   have hs3:=(hs.mono hF2).mono hF3
   unfold nodeCells ringL
   refine zB7 ?_
   refine WT.callCF0 Tryz.func83 Z Z Z Z Z Z Z Z (lplus_spec _ hC3.k hs3 ht) (fun F4 v hF4 hv4=>?_)
   obtain⟨wa,wn,wc,rfl,hw⟩:=hv4
   refine zB7 ?_
   refine⟨⟨wa,wn,wc,minO s.x t.x⟩,sM,zow,hw,?_⟩
   rw[List.take_add_one,hpj,List.foldl_append,←hsx];show _=minO s.x (packO cost vs p);unfold packO;rw[←htx]
 ·intro s F1 hF1 hP
  obtain⟨hs,hsx⟩:=hP
  rw[List.take_of_length_le zo] at hsx
  refine zB7 ?_
  refine AW.ret ⟨_,[],⟨_,_,rfl,rfl,rfl⟩,zsb,rfl,_,_,_,rfl,?_⟩
  unfold nodeO
  rw[←hsx];exact hs
end Go.Proofs.D
set_option linter.unusedVariables false
set_option maxRecDepth 20000
set_option maxHeartbeats 0
open Go Go.Abs Go.Proofs Go.Proofs.D
namespace Go.Abs
theorem Spec.lendBF{C:Ctx}{f:FuncId}{args:List Value}{F:Frz}{P:Frz→Value→Prop}{B:List (Nat×Blk)}
  (spec:∀G,Frz.le F G→(∀i b,(i,b)∈B→G i=some b)→Spec C f args G [] fun F' v o=>o=[]∧P F' v) :
  Spec C f args F [B] fun F2 v o=>∃B',o=[B']∧B'=B∧∃F',P F' v∧∀i b,F' i=some b→F2 i=some b∨(i,b)∈B:=by
 intro own h hs
 have hs:St F (B::own) h:=hs
 obtain⟨s1,hle,hB⟩:=hs.freezeAll
 obtain⟨v,h',F',oout,h1,h2,h3,rfl,h4⟩:=spec _ hle hB own h s1
 have s0:StF F (B++own.flatten) h:=by simpa [St] using hs
 have hnd:=s0.nodup
 rw[List.map_append,List.nodup_append] at hnd
 have h3':StF F' own.flatten h':=h3
 have hF':∀i b,(i,b)∈B→F' i=some b:=fun i b hm=>h2 i b (hB i b hm)
 refine⟨v,h',fun i=>if (B.map (·.1)).contains i=true then none else F' i,[B],h1,fun i b q=>?_,?_,B,rfl,rfl,F',h4,fun i b q=>?_⟩
 ·have hn:(B.map (·.1)).contains i=false:=by
   cases hc:(B.map (·.1)).contains i with
   | false=>rfl
   | true=>
    obtain⟨p,hp,rfl⟩:=List.mem_map.1 (List.contains_iff_mem.1 hc)
    have:=s0.apart p (List.mem_append_left _ hp)
    rw[q] at this;cases this
  simp only[hn,Bool.false_eq_true,if_false]
  exact h2 i b (hle i b q)
 ·show StF _ (B++own.flatten) h'
  refine⟨fun i b q=>?_,fun p hp=>?_,fun p hp=>?_,?_,h3'.wf⟩
  ·split at q
   ·cases q
   ·exact h3'.frz i b q
  ·rcases List.mem_append.1 hp with hp | hp
   ·exact h3'.frz _ _ (hF' p.1 p.2 hp)
   ·exact h3'.has p hp
  ·rcases List.mem_append.1 hp with hp | hp
   ·show (if _ then _ else _)=_
    rw[if_pos (List.contains_iff_mem.2 (List.mem_map_of_mem hp))]
   ·show (if _ then _ else _)=_
    split
    ·rfl
    ·exact h3'.apart p hp
  ·rw[List.map_append,List.nodup_append]
   refine⟨hnd.1,h3'.nodup,fun a ha b hb=>?_⟩
   obtain⟨p,hp,rfl⟩:=List.mem_map.1 ha
   obtain⟨q,hq,rfl⟩:=List.mem_map.1 hb
   intro e
   have h5:=h3'.apart q hq
   rw[←e,hF' p.1 p.2 hp] at h5
   cases h5
 ·show (if _ then _ else _)=_∨_
  by_cases hc:(B.map (·.1)).contains i=true
  ·right
   obtain⟨p,hp,rfl⟩:=List.mem_map.1 (List.contains_iff_mem.1 hc)
   have:=hF' p.1 p.2 hp
   rw[q] at this
   obtain rfl:=Option.some.inj this
   exact hp
  ·left
   rw[if_neg hc];exact q
end Go.Abs