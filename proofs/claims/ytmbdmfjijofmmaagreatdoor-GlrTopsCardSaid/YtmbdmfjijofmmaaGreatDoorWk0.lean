/-
  Walks: what functions of the program do, over the abstract machine.
-/
import Derived.Test.YtmbdmfjijofmmaaGreatDoorCtx
import Derived.Sort.AssemblyPlain
import Derived.Sort.LotD5
set_option linter.unusedVariables false
set_option maxRecDepth 20000
set_option maxHeartbeats 0
open Go Go.Abs Go.Proofs Go.Proofs.D
namespace Go.Proofs.D
theorem CY(x m:Int)(hm:0<m):x % m=if x.tmod m<0 then x.tmod m+m else x.tmod m:=by
 rcases Int.le_total 0 x with h | h
 ·rw[Int.tmod_eq_emod_of_nonneg h,By];have:=Int.emod_nonneg x (show m≠0 by omega);omega
 ·have h1:=Int.tmod_add_mul_tdiv x m;have h2:x.tmod m<=0:=by have:=Int.tmod_nonneg m (show 0<=-x by omega);rw[Int.neg_tmod] at this;omega
  have h3:-m<x.tmod m:=by have:=Int.lt_tmod_of_pos x hm;omega
  split
  ·rename_i h4;have:x=(x.tmod m+m)+m*(x.tdiv m-1):=by rw[Int.mul_sub];omega
   rw[show x % m=((x.tmod m+m)+m*(x.tdiv m-1)) % m by rw[<-this],Int.add_mul_emod_self_left];exact T8 zo zo
  ·have h5:x.tmod m=0:=by omega
   rw[h5];exact Int.emod_eq_zero_of_dvd (Int.dvd_of_tmod_eq_zero h5)
def below(x:Int)(m:Nat):Nat:=(x % (m:Int)).toNat
theorem Cp(x:Int){m:Nat}(h:0<m):below x m<m:=by
 unfold below;have h1:=Int.emod_nonneg x (show (m:Int)≠0 by omega);have h2:=Int.emod_lt_of_pos x (show 0<(m:Int) by omega);omega
theorem vK(F:ar)(x:Int)(m:Nat)(hm:0<m)(hm2:m<=9223372036854775807):Abs.Spec CC 37 [.int .i64 x,.int .i64 m] F [] λ_ v o=>o=[]/\v=.int .i64 (below x m:Nat):=by
 have e1:=CY x m zo;have e2:-(m:Int)<x.tmod m:=Int.lt_tmod_of_pos x zo;have e3:(below x m:Int)=x % (m:Int):=by
  unfold below;exact Int.toNat_of_nonneg (Int.emod_nonneg x (show (m:Int)≠0 by omega))
 refine Abs.Spec.fn (n:=14) Tryz.func37 rfl rfl λown=>?_;refine au ?_;refine WT.O3 Z Z Z Z Z Z zo ?_;refine au ?_;refine AW.cond Z (λhc=>?_) (λhc=>?_)
 ·have hc:=Sm hc;refine au ?_;refine AW.ret ⟨_,[],⟨_,_,rfl,rfl,rfl⟩,RM _,rfl,?_⟩;show Value.int .i64 _=_;rw[e3,e1,If hc]
 ·have hc:=TL hc;refine au ?_;refine AW.ret ⟨_,[],⟨_,_,rfl,rfl,rfl⟩,RM _,rfl,?_⟩;show Value.int .i64 _=_;rw[e3,e1,By hc]
def mL(F:ar)(i:Nat)(B:List (Nat×aD))(l:List Int):Prop:=∃a n c,B=[(i,.cells false [.slice a n c])]/\bw fm F a n c l
theorem mL.mono{F G:ar}{i:Nat}{B:List (Nat×aD)}{l:List Int}(h:mL F i B l)(hF:ar.le F G):mL G i B l:=by
 obtain⟨a,n,c,e,h⟩:=h;exact⟨a,n,c,e,h.mono hF⟩
theorem fR(F:ar)(i:Nat){B:List (Nat×aD)}{l:List Int}(hl:mL F i B l)(m:Nat)(hm:0<m)(hm2:m<=9223372036854775807) :
  Abs.Spec CC 43 [.pointer (some ⟨i,0,none⟩),.int .i64 m] F [B] λ_ v o=>∃B',o=[B']/\∃r l',v=.int .i64 (r:Nat)/\r<m/\mL F i B' l':=by
 obtain⟨a,len,c,rfl,hl⟩:=hl;refine Abs.Spec.fn (n:=29) Tryz.func43 rfl rfl λown=>?_;have hlen:=hl.len;refine au ?_;refine AW.cond Z (λhc=>?_) (λhc=>?_)
 ·have h0:len=0:=by simpa using hc
  refine au ?_;exact AW.ret ⟨_,[_],⟨_,_,rfl,rfl,rfl⟩,RM _,_,rfl,0,l,rfl,hm,a,len,c,rfl,hl⟩
 ·have h0:len≠0:=by simpa using hc
  have hlt:0<l.length:=by omega
  refine au ?_;refine WT.bG (j:=0) hT hl Z Z Z Z Z Z Z Z Z hlt (λx hx b off ro cs lx hb hp hrel=>?_);obtain rfl:lx=[.int .i64 x]:=hrel;refine au ?_;obtain⟨a',c',hs,ha'⟩:=hl.slice (C:=CC) (lo:=1) (hi:=len) zo (AS _) hT (t:=22) Z Z Z (some (.int .i64 1)) none rfl rfl;refine WT.slice Z Z Z Z Z Z Z Z hs ?_;refine au ?_;refine WT.bN Tryz.func37 Z Z Z Z Z Z (vK _ x m hm hm2) (λv hv=>?_);subst hv;refine au ?_;exact AW.ret ⟨_,[_],⟨_,_,rfl,rfl,rfl⟩,RM _,_,rfl,below x m,_,rfl,Cp x hm,a',len-1,c',rfl,ha'⟩
theorem jh{α:Type}{p:α->Prop}{l:List α}{j:Nat}{x:α}(hx:l[j]?=some x)(h:∀y∈l.take j,p y)(h1:p x):∀y∈l.take (j+1),p y:=by
 intro y hy;rw[Rk,hx] at hy;simp at hy;rcases hy with hy | rfl
 ·exact h y hy
 ·exact h1
theorem GY(F:ar){a:Option Addr}{m c:Nat}{rs:List bz}(h:bw bK F a m c rs)(hm:m<=1000000){left:Nat}{b:Option Addr}{n d:Nat}{right:List Sym}(hr:bw fh F b n d right)(hn:n<=1000000) :
  Abs.Spec CC 44 [.slice a m c,.agg ⟨[.int .i64 left,.slice b n d]⟩] F [] λF' v o=>o=[]/\v=.bool (decide (⟨left,right⟩∈rs)):=by
 refine Abs.Spec.fn (n:=52) Tryz.func44 rfl rfl λown=>?_;have hlen:=h.len;have hrlen:=hr.len;refine AW.seq (AW.du ?_);refine WT.cC Z Z Z Z Z Z (λi0 hi0=>?_);refine au ?_;refine AW.range (S:=Unit) (λ_=>[]) (λ_=>_) (λj _ _=>∀x∈rs.take j,x≠⟨left,right⟩) m () Z Z Z Z Z Z Z Z Z zo Z Z (λ_=>rfl) (λ_=>rfl) sM oR (by simp) ?_ ?_
 ·intro j _ F' hF hj hP;have h:=h.mono hF;have hr:=hr.mono hF;refine au ?_;refine WT.bG hT h Z Z Z Z Z Z Z Z Z zo (λx hx b1 off ro cs lx hb hp hrel=>?_);obtain⟨b2,n2,d2,rfl,hx2⟩:=hrel;have hx2len:=hx2.len;refine au ?_;refine WT.aI hT Z Z Z Z Z Z (λi1 hi1=>?_);refine au ?_;have fin:x≠⟨left,right⟩->∀y∈rs.take (j+1),y≠⟨left,right⟩:=jh hx hP;refine WT.split 20 Z (λhne=>?_) (λhne=>?_)
  ·refine au ?_;refine AW.cond Z (λ_=>?_) (λhc=>(by cases hc));refine AW.exit ⟨(),sM,cy,fin ?_⟩;intro e;subst e;simp at hne
  ·refine au ?_;refine AW.cond Z (λhc=>?_) (λhc=>?_)
   ·refine AW.exit ⟨(),sM,cy,fin ?_⟩;simp at hc;intro e;rw[e] at hx2len;simp at hx2len;omega
   ·have hc:n2=n:=by simp at hc;omega
    have hne:x.left=left:=by simp at hne;omega
    refine au ?_;refine AW.range (S:=Bool) (λs=>[(7,.bool s)]) (λ_=>_) (λj s _=>s=decide (x.right.take j=right.take j)) n2 true Z Z Z Z Z Z Z Z Z zo Z Z (λ_=>rfl) (λ_=>rfl) sM oR (by simp) ?_ ?_
    ·intro q s F'' hF2 hq hP2;have hx2:=hx2.mono hF2;have hr:=hr.mono hF2;have hlt1:q<x.right.length:=by omega
     have hlt2:q<right.length:=by omega
     have tk:(x.right.take (q+1)=right.take (q+1))↔(x.right.take q=right.take q/\x.right[q]=right[q]):=by
      rw[Rk,Rk,gE hlt1,gE hlt2];constructor
      ·intro he;have:=List.append_inj' he rfl;simpa using this
      ·rintro⟨e1,e2⟩;rw[e1,e2]
     refine au ?_;refine WT.split 36 Z (λhs=>?_) (λhs=>?_)
     ·refine au ?_;refine WT.bG hT hx2 Z Z Z Z Z Z Z Z Z hlt1 (λy hy b3 off3 ro3 cs3 l3 hb3 hp3 hrel3=>?_);obtain rfl:=hrel3;refine au ?_;refine WT.bG hT hr Z Z Z Z Z Z Z Z Z hlt2 (λz hz b4 off4 ro4 cs4 l4 hb4 hp4 hrel4=>?_);obtain rfl:=hrel4;refine au ?_;refine⟨_,sM,cy,?_⟩;rw[gE hlt1] at hy;rw[gE hlt2] at hz;cases hy;cases hz;rw[hs] at hP2;have:=vM x.right[q] right[q];refine this.trans ?_;have h1:=Sm hP2.symm;simp[tk,h1]
     ·refine au ?_;refine⟨_,sM,cy,?_⟩;rw[hs] at hP2;have h1:=TL hP2.symm;simp[tk,h1]
    ·intro s F'' hF2 hs;rw[No zo,No zo] at hs;refine au ?_;refine AW.cond Z (λhc=>?_) (λhc=>?_)
     ·refine au ?_;refine AW.ret ⟨_,[],⟨_,_,rfl,rfl,rfl⟩,(SF ..).trans (SF ..),rfl,?_⟩;rw[hc] at hs;have e:=Sm hs.symm;have:(⟨left,right⟩:bz)∈rs:=by
       have:x=⟨left,right⟩:=by cases x;simp at hne e;simp[hne,e]
       rw[<-this];exact gM hx
      simp[this,ei]
     ·refine au ?_;refine⟨(),sM,cy,fin ?_⟩;rintro rfl;rw[hc] at hs;simp at hs
 ·intro _ F' hF hP;refine au ?_;refine AW.ret ⟨_,[],⟨_,_,rfl,rfl,rfl⟩,SF ..,rfl,?_⟩;rw[No zo] at hP;have:(⟨left,right⟩:bz)∉rs:=λhm=>hP _ hm rfl;simp[this,ei]
def bZ(t n:Nat)(y:Sym):Prop:=if y.term=true then y.n<t else y.n<n
def HE(t n:Nat)(r:bz):Prop:=r.left<n/\r.right.length<=3/\∀y∈r.right,bZ t n y
structure Small(g:af):Prop where
 ae:1<=g.ae/\g.ae<=3
 ak:1<=g.ak/\g.ak<=4
 start:g.start<g.ak
 rules:1<=g.rules.length/\g.rules.length<=8
 nodup:g.rules.Nodup
 ok:∀r∈g.rules,HE g.ae g.ak r
structure GS where
 xs:List bz
 a:Option Addr
 m:Nat
 c:Nat
 B:List (Nat×aD)
 Bs:List (Nat×aD)
structure GI where
 ys:List Sym
 a:Option Addr
 m:Nat
 c:Nat
 B:List (Nat×aD)
 Bs:List (Nat×aD)
theorem Ai(F:ar){a:Option Addr}{n c:Nat}{l:List Int}(hl:bw fm F a n c l) :
  Abs.Spec CC 8 [.slice a n c] F [] λF' v o=>o=[]/\∃g,E2 F' v g/\Small g:=by
 refine Abs.Spec.fn (n:=72) Tryz.func8 rfl rfl λown=>?_;refine AW.seq (AW.du ?_);refine WT.aI hT Z Z Z Z Z Z (λi2 hi2=>?_);refine au ?_;refine WT.cC Z Z Z Z Z Z (λi8 hi8=>?_);refine au ?_;refine WT.ph (B:=[(i8,.cells false [.slice a n c])]) 0 Tryz.func43 Z Z Z Z Z Z Z (λ_=>rfl) (fR F i8 ⟨a,n,c,rfl,hl⟩ 3 (by decide) (by decide)) (λv B1 hv=>?_);obtain⟨r1,l1,rfl,hr1,hs1⟩:=hv;refine au ?_;refine WT.ph 0 Tryz.func43 Z Z Z Z Z Z Z (λ_=>rfl) (fR F i8 hs1 4 (by decide) (by decide)) (λv B2 hv=>?_);obtain⟨r2,l2,rfl,hr2,hs2⟩:=hv;refine au ?_
 refine WT.aI hT Z Z Z Z Z Z (λi4 hi4=>?_);refine au ?_;refine WT.ph 1 Tryz.func43 Z Z Z Z Z Z Z (λ_=>rfl) (fR F i8 hs2 (1+r2) zo zo) (λv B3 hv=>?_);obtain⟨r3,l3,rfl,hr3,hs3⟩:=hv;refine au ?_;refine WT.ph 1 Tryz.func43 Z Z Z Z Z Z Z (λ_=>rfl) (fR F i8 hs3 8 (by decide) (by decide)) (λv B4 hv=>?_);obtain⟨r4,l4,rfl,hr4,hs4⟩:=hv;refine au ?_
 refine AW.range (S:=GS) (λ_=>[]) (λs=>[(i4,.cells false [.int .i64 (1+r1:Nat),.int .i64 (1+r2:Nat),.int .i64 r3,.slice s.a s.m s.c])]::s.B::s.Bs::[(i2,.cells false [.int .i64 0,.int .i64 0,.int .i64 0,.slice none 0 0])]::own)
  (λj s G=>dy bK G s.a s.m s.c s.B s.xs/\(∃l,mL G i8 s.Bs l)/\(∀r∈s.xs,HE (1+r1) (1+r2) r)/\s.xs.Nodup/\s.xs.length<=j/\(0<j->1<=s.xs.length)) (1+r4) ⟨[],none,0,0,[],B4⟩
  Z Z Z Z Z Z Z Z Z zo rfl rfl (λ_=>rfl) (λ_=>rfl) sM (ah.flat (Rc _)) ⟨dy.gq _ _,⟨_,hs4⟩,by simp,by simp,by simp,by simp⟩ ?_ ?_
 ·intro j s F1 hF1 hj hP;obtain⟨hb,⟨ls,hst⟩,hok,hnd,hlen,hpos⟩:=hP;have hm1:=hb.len;refine au ?_;refine WT.ph 2 Tryz.func43 Z Z Z Z Z Z Z (λ_=>rfl) (fR F1 i8 hst (1+r2) zo zo) (λv B5 hv=>?_);obtain⟨r5,l5,rfl,hr5,hs5⟩:=hv;refine au ?_;refine WT.aI hT Z Z Z Z Z Z (λi5 hi5=>?_);refine au ?_;refine WT.ph 3 Tryz.func43 Z Z Z Z Z Z Z (λ_=>rfl) (fR F1 i8 hs5 4 (by decide) (by decide)) (λv B6 hv=>?_);obtain⟨r6,l6,rfl,hr6,hs6⟩:=hv;refine au ?_
  refine AW.range (S:=GI) (λ_=>[]) (λs2=>[(i5,.cells false [.int .i64 r5,.slice s2.a s2.m s2.c])]::s2.B::[(i4,.cells false [.int .i64 (1+r1:Nat),.int .i64 (1+r2:Nat),.int .i64 r3,.slice s.a s.m s.c])]::s.B::s2.Bs::[(i2,.cells false [.int .i64 0,.int .i64 0,.int .i64 0,.slice none 0 0])]::own)
   (λj s G=>dy fh G s.a s.m s.c s.B s.ys/\(∃l,mL G i8 s.Bs l)/\(∀y∈s.ys,bZ (1+r1) (1+r2) y)/\s.ys.length=j) r6 ⟨[],none,0,0,[],B6⟩
   Z Z Z Z Z Z Z Z Z zo rfl rfl (λ_=>rfl) (λ_=>rfl) sM (ah.flat (Rc _)) ⟨dy.gq _ _,⟨_,hs6⟩,by simp,by simp⟩ ?_ ?_
  ·intro q s2 F2 hF2 hq hP2;obtain⟨hb2,⟨ls2,hst2⟩,hok2,hlen2⟩:=hP2;have hm2:=hb2.len;refine au ?_;refine WT.ph 4 Tryz.func43 Z Z Z Z Z Z Z (λ_=>rfl) (fR F2 i8 hst2 2 (by decide) (by decide)) (λv B7 hv=>?_);obtain⟨r7,l7,rfl,hr7,hs7⟩:=hv;refine au ?_;refine AW.cond Z (λhc=>?_) (λhc=>?_)
   ·refine AW.draw (ps:=[(1,5),(1,7)]) Z Z ?_;refine au ?_;refine WT.ph 4 Tryz.func43 Z Z Z Z Z Z Z (λ_=>rfl) (fR F2 i8 hs7 (1+r1) zo zo) (λv B8 hv=>?_);obtain⟨r8,l8,rfl,hr8,hs8⟩:=hv;refine au ?_;refine WT.bd hT Z Z Z Z Z Z Z Z Z Z Z Z Z Z (λi9 hi9=>?_);refine WT.bP (ys:=[⟨true,r8⟩]) hT 2 hb2 Z (λ_=>rfl) Z Z Z Z Z Z Z Z Z Z Z (λh0 s0=>bh hT s0 0 Z Z Z Z) (aF.single (x:=(⟨true,r8⟩:Sym)) rfl) Z (by decide) kq (λa3 c3 B3 hB3=>?_);refine au ?_;refine⟨oF,?_⟩;refine⟨⟨s2.ys++[⟨true,r8⟩],a3,s2.m+1,c3,B3,B8⟩,sM,cy,hB3,⟨_,hs8⟩,?_,by simp[hlen2]⟩
    intro y hy;rcases Rx.1 hy with hy | hy
    ·exact hok2 y hy
    ·obtain rfl:=Rh.1 hy;exact hr8
   ·refine AW.draw (ps:=[(1,5),(1,7)]) Z Z ?_;refine au ?_;refine WT.ph 4 Tryz.func43 Z Z Z Z Z Z Z (λ_=>rfl) (fR F2 i8 hs7 (1+r2) zo zo) (λv B8 hv=>?_);obtain⟨r8,l8,rfl,hr8,hs8⟩:=hv;refine au ?_;refine WT.bd hT Z Z Z Z Z Z Z Z Z Z Z Z Z Z (λi9 hi9=>?_);refine WT.bP (ys:=[⟨false,r8⟩]) hT 2 hb2 Z (λ_=>rfl) Z Z Z Z Z Z Z Z Z Z Z (λh0 s0=>bh hT s0 0 Z Z Z Z) (aF.single (x:=(⟨false,r8⟩:Sym)) rfl) Z (by decide) kq (λa3 c3 B3 hB3=>?_);refine au ?_;refine⟨oF,?_⟩;refine⟨⟨s2.ys++[⟨false,r8⟩],a3,s2.m+1,c3,B3,B8⟩,sM,cy,hB3,⟨_,hs8⟩,?_,by simp[hlen2]⟩
    intro y hy;rcases Rx.1 hy with hy | hy
    ·exact hok2 y hy
    ·obtain rfl:=Rh.1 hy;exact hr8
  ·intro s2 F2 hF2 hP2;obtain⟨hb2,⟨ls2,hst2⟩,hok2,hlen2⟩:=hP2;have hm2:=hb2.len;refine AW.aw 1 Z Z (λF3 hF3 hB3=>?_);have hy:=hb2.frozen hF3 hB3;have hb:=(hb.mono hF2).mono hF3;have hst2:=hst2.mono hF3;refine au ?_;refine WT.eK 3 Tryz.func44 Z Z Z Z Z Z Z (λG hG hBG=>GY G (left:=r5) (hb.frozen hG hBG) kq (hy.mono hG) kq) (λv hv=>?_);subst hv;refine au ?_;refine AW.cond Z (λhc=>?_) (λhc=>?_)
   ·refine au ?_;refine WT.bd hT Z Z Z Z Z Z Z Z Z Z Z Z Z Z (λi9 hi9=>?_);refine WT.bP (ys:=[⟨r5,s2.ys⟩]) hT 4 hb Z (λ_=>rfl) Z Z Z Z Z Z Z Z Z Z Z (λh0 s0=>bh hT s0 0 Z Z Z Z) (aF.single (R:=bK) (x:=(⟨r5,s2.ys⟩:bz)) ⟨_,_,_,rfl,hy⟩) Z (by decide) kq (λa3 c3 B3 hB3=>?_);refine Qe ?_;refine⟨⟨s.xs++[⟨r5,s2.ys⟩],a3,s.m+1,c3,B3,s2.Bs⟩,sM,cy,hB3,⟨_,hst2⟩,?_,?_,?_,?_⟩
    ·intro r hr;rcases Rx.1 hr with hr | hr
     ·exact hok r hr
     ·obtain rfl:=Rh.1 hr;exact⟨by simp;omega,by simp;omega,hok2⟩
    ·rw[SD];refine⟨hnd,by simp,λx hx y hy=>?_⟩;obtain rfl:=Rh.1 hy;rintro rfl;simp[hx] at hc
    ·simp;omega
    ·simp
   ·refine au ?_;have hin:(⟨r5,s2.ys⟩:bz)∈s.xs:=by simpa using hc
    refine⟨{ s with Bs:=s2.Bs },sM,cy,hb,⟨_,hst2⟩,hok,hnd,by dsimp only;omega,λ_=>TJ hin⟩
 ·intro s F1 hF1 hP;obtain⟨hb,⟨ls,hst⟩,hok,hnd,hlen,hpos⟩:=hP;refine AW.aw 1 Z Z (λF3 hF3 hB3=>?_);have hx:=hb.frozen hF3 hB3;refine au ?_;have hx3:=hb.len;refine AW.ret ⟨_,[],⟨_,_,⟨_,rfl,λG h0 s0=>bV (s0.has (p:=3) Z me) (cl hT rfl)⟩,rfl,rfl⟩,bU,rfl,⟨1+r1,1+r2,r3,s.xs⟩,⟨_,_,_,rfl,hx⟩,?_⟩;exact⟨by dsimp only;omega,by dsimp only;omega,hr3,by dsimp only;omega,hnd,hok⟩
theorem vj(F:ar)(x:Int):Abs.Spec CC 175 [.int .i64 x] F [] λ_ v o=>o=[]/\v=.bool false:=by
 refine Abs.Spec.fn (n:=6) Tryz.func175 rfl rfl λown=>?_;refine au ?_;exact AW.ret ⟨_,[],⟨_,_,rfl,rfl,rfl⟩,RM _,rfl,by simp[ei]⟩
def dn(x y:Int):Int:=if x<y then -1 else if x > y then 1 else 0
theorem jF(F:ar)(x y:Int):Abs.Spec CC 124 [.int .i64 x,.int .i64 y] F [] λ_ v o=>o=[]/\v=.int .i64 (dn x y):=by
 refine Abs.Spec.fn (n:=20) Tryz.func124 rfl rfl λown=>?_;refine au ?_;refine WT.bN Tryz.func175 Z Z Z Z Z Z (vj _ x) (λv hv=>?_);subst hv;refine au ?_;refine WT.bN Tryz.func175 Z Z Z Z Z Z (vj _ y) (λv hv=>?_);subst hv;refine au ?_;refine AW.cond Z (λhc=>(by cases hc)) (λ_=>?_);refine au ?_;refine AW.cond Z (λhc=>(by cases hc)) (λ_=>?_);refine au ?_;refine AW.cond Z (λhc=>?_) (λhc=>?_)
 ·refine au ?_;exact AW.ret ⟨_,[],⟨_,_,rfl,rfl,rfl⟩,RM _,rfl,by simp at hc;simp[ei,dn,hc]⟩
 ·refine au ?_;refine AW.cond Z (λhc2=>?_) (λhc2=>?_)
  ·refine au ?_;exact AW.ret ⟨_,[],⟨_,_,rfl,rfl,rfl⟩,RM _,rfl,by simp at hc hc2;simp[ei,dn];omega⟩
  ·refine au ?_;exact AW.ret ⟨_,[],⟨_,_,rfl,rfl,rfl⟩,RM _,rfl,by simp at hc hc2;simp[ei,dn];omega⟩
def mQ:List Int->Int
 | []=>0
 | x::l=>if x=0 then mQ l else x
theorem uY{l:List Int}{j:Nat}(h:∀y∈l.take j,y=0):mQ l=mQ (l.drop j):=by
 induction j generalizing l with
 | zero=>simp
 | succ j ih=>
  cases l with
  | nil=>simp
  | cons x l=>
   have hx:x=0:=h x (by simp);simp only[mQ,hx,Sv,List.drop_succ_cons];exact ih (λy hy=>h y (by simp[hy]))
theorem Et(F:ar){a:Option Addr}{m c:Nat}{l:List Int}(hl:bw fm F a m c l)(hm:m<=1000000):Abs.Spec CC 123 [.slice a m c] F [] λ_ v o=>o=[]/\v=.int .i64 (mQ l):=by
 refine Abs.Spec.fn (n:=18) Tryz.func123 rfl rfl λown=>?_;have hlen:=hl.len;refine au ?_;refine AW.range (S:=Unit) (λ_=>[]) (λ_=>_) (λj _ _=>∀y∈l.take j,y=0) m () Z Z Z Z Z Z Z Z Z zo Z Z (λ_=>rfl) (λ_=>rfl) sM oR (by simp) ?_ ?_
 ·intro j _ F1 hF1 hj hP;have hl1:=hl.mono hF1;refine au ?_;refine WT.bG hT hl1 Z Z Z Z Z Z Z Z Z zo (λx hx b1 off ro cs lx hb hp hrel=>?_);obtain rfl:lx=_:=hrel;refine au ?_;refine AW.cond Z (λhc=>?_) (λhc=>?_)
  ·refine au ?_;refine AW.ret ⟨_,[],⟨_,_,rfl,rfl,rfl⟩,RM _,rfl,?_⟩;have hc:x≠0:=by simpa using hc
   rw[uY hP,RX (show j<l.length by omega)];have:l[j]=x:=by rw[gE zo] at hx;simpa using hx
   simp[mQ,this,hc,ei]
  ·refine au ?_;have hc:x=0:=by simpa using hc
   exact⟨(),sM,cy,jh hx hP hc⟩
 ·intro _ F1 hF1 hP;refine au ?_;refine AW.ret ⟨_,[],⟨_,_,rfl,rfl,rfl⟩,RM _,rfl,?_⟩;rw[uY hP,Su zo];rfl
def iq(a b:Sym):Int:=if a.term=b.term then dn a.n b.n else if a.term=true then -1 else 1
theorem DD(F:ar)(a b:Sym):Abs.Spec CC 184 [.agg ⟨[.bool a.term,.int .i64 a.n]⟩,.agg ⟨[.bool b.term,.int .i64 b.n]⟩] F [] λ_ v o=>o=[]/\v=.int .i64 (iq a b):=by
 refine Abs.Spec.fn (n:=17) Tryz.func184 rfl rfl λown=>?_;refine AW.seq (AW.du ?_);refine WT.cC Z Z Z Z Z Z (λi1 hi1=>?_);refine WT.cC Z Z Z Z Z Z (λi2 hi2=>?_);refine au ?_;refine AW.cond Z (λhc=>?_) (λhc=>?_)
 ·have hc:a.term≠b.term:=by simpa using hc
  refine au ?_;refine AW.cond Z (λhc2=>?_) (λhc2=>?_)
  ·refine au ?_;refine AW.ret ⟨_,[],⟨_,_,rfl,rfl,rfl⟩,bU,rfl,?_⟩;rw[iq,By hc,If hc2];rfl
  ·refine au ?_;refine AW.ret ⟨_,[],⟨_,_,rfl,rfl,rfl⟩,bU,rfl,?_⟩;rw[iq,By hc,By (by simp[hc2])];rfl
 ·have hc:a.term=b.term:=by simpa using hc
  refine au ?_;refine WT.bN Tryz.func124 Z Z Z Z Z Z (jF _ _ _) (λv hv=>?_);subst hv;refine au ?_;refine AW.ret ⟨_,[],⟨_,_,rfl,rfl,rfl⟩,bU,rfl,?_⟩;simp[iq,hc,ei]
def eG:List Sym->List Sym->Int
 | [],[]=>0
 | [],_::_=>-1
 | _::_,[]=>1
 | a::l,b::m=>if iq a b=0 then eG l m else iq a b
theorem jE:∀(j:Nat) (l m:List Sym),j<=l.length->j<=m.length->(∀i (h1:i<l.length) (h2:i<m.length),i<j->iq l[i] m[i]=0)->eG l m=eG (l.drop j) (m.drop j)
 | 0,l,m,_,_,_=>by simp
 | j+1,[],m,h,_,_=>by simp at h
 | j+1,_::_,[],_,h,_=>by simp at h
 | j+1,a::l,b::m,h1,h2,h=>by
  have h0:=h 0 (by simp) (by simp) zo;simp only[List.getElem_cons_zero] at h0;simp only[eG,h0,Sv,List.drop_succ_cons];exact jE j l m (by simpa using h1) (by simpa using h2) (λi h3 h4 h5=>h (i+1) (by simpa using h3) (by simpa using h4) zo)
theorem te(F:ar){a b:Option Addr}{m n c d:Nat}{xs ys:List Sym}(hx:bw fh F a m c xs)(hy:bw fh F b n d ys)(hm:m<=1000000)(hn:n<=1000000) :
  Abs.Spec CC 183 [.slice a m c,.slice b n d,.func (.func 184) ⟨[]⟩ ⟨[]⟩] F [] λ_ v o=>o=[]/\v=.int .i64 (eG xs ys):=by
 refine Abs.Spec.fn (n:=39) Tryz.func183 rfl rfl λown=>?_;have hxlen:=hx.len;have hylen:=hy.len;refine au ?_;refine AW.range (S:=Unit) (λ_=>[]) (λ_=>_) (λj _ _=>j<=n/\∀i (h1:i<xs.length) (h2:i<ys.length),i<j->iq xs[i] ys[i]=0) m () Z Z Z Z Z Z Z Z Z zo Z Z (λ_=>rfl) (λ_=>rfl) sM oR ⟨by omega,by omega⟩ ?_ ?_
 ·intro j _ F1 hF1 hj hP;obtain⟨hjn,hP⟩:=hP;have hx1:=hx.mono hF1;have hy1:=hy.mono hF1;refine au ?_;refine WT.bG hT hx1 Z Z Z Z Z Z Z Z Z zo (λx hxj b1 off ro cs lx hb hp hrel=>?_);obtain rfl:lx=_:=hrel;refine au ?_;refine WT.aI hT Z Z Z Z Z Z (λi1 hi1=>?_);refine au ?_;refine AW.cond Z (λhc=>?_) (λhc=>?_)
  ·have hc:n<=j:=by simp at hc;omega
   refine au ?_;refine AW.ret ⟨_,[],⟨_,_,rfl,rfl,rfl⟩,bU,rfl,?_⟩;rw[jE j xs ys zo zo hP,Su (show ys.length<=j by omega),RX (show j<xs.length by omega)];rfl
  ·have hc:j<n:=by simp at hc;omega
   refine au ?_;refine WT.bG hT hy1 Z Z Z Z Z Z Z Z Z zo (λy hyj b2 off2 ro2 cs2 ly hb2 hp2 hrel2=>?_);obtain rfl:ly=_:=hrel2;refine au ?_;refine WT.aI hT Z Z Z Z Z Z (λi2 hi2=>?_);refine au ?_;refine WT.fZ Tryz.func184 Z Z Z Z Z Z Z Z (DD _ x y) (λv hv=>?_);subst hv;have ex:xs[j]'zo=x:=by rw[gE zo] at hxj;simpa using hxj
   have ey:ys[j]'zo=y:=by rw[gE zo] at hyj;simpa using hyj
   refine au ?_;refine AW.cond Z (λhc2=>?_) (λhc2=>?_)
   ·have hc2:iq x y≠0:=by simpa using hc2
    refine au ?_;refine AW.ret ⟨_,[],⟨_,_,rfl,rfl,rfl⟩,bU,rfl,?_⟩;rw[jE j xs ys zo zo hP,RX (show j<xs.length by omega),RX (show j<ys.length by omega)];simp[eG,ex,ey,hc2,ei]
   ·have hc2:iq x y=0:=by simpa using hc2
    refine au ?_;refine⟨(),sM,cy,by omega,λi h1 h2 h3=>?_⟩;rcases Rw i j with h4 | h4
    ·exact hP i h1 h2 h4
    ·have:i=j:=by omega
     subst this;rw[ex,ey];exact hc2
 ·intro _ F1 hF1 hP;obtain⟨hjn,hP⟩:=hP;refine au ?_;have e:=jE m xs ys zo zo hP;rw[Su (show xs.length<=m by omega)] at e;refine AW.cond Z (λhc=>?_) (λhc=>?_)
  ·have hc:m<n:=by simp at hc;omega
   refine au ?_;refine AW.ret ⟨_,[],⟨_,_,rfl,rfl,rfl⟩,bU,rfl,?_⟩;rw[e,RX (show m<ys.length by omega)];rfl
  ·have hc:m=n:=by simp at hc;omega
   refine au ?_;refine AW.ret ⟨_,[],⟨_,_,rfl,rfl,rfl⟩,bU,rfl,?_⟩;rw[e,Su (show ys.length<=m by omega)];rfl
def uL(a b:bz):Int:=mQ [dn a.left b.left,eG a.right b.right]
theorem nq{x y:Int}:dn x y=0↔x=y:=by unfold dn;split<;>(try split)<;>omega
theorem tG{a b:Sym}:iq a b=0↔a=b:=by
 obtain⟨s,n⟩:=a;obtain⟨t,m⟩:=b;unfold iq;simp only[Sym.mk.injEq];by_cases h:s=t
 ·simp[h,nq];omega
 ·simp only[h,SL,false_and,iff_false];split<;>decide
theorem qw:∀(l m:List Sym),eG l m=0↔l=m
 | [],[]=>by simp[eG]
 | [],_::_=>by simp[eG]
 | _::_,[]=>by simp[eG]
 | a::l,b::m=>by
  simp only[eG,Rv];by_cases h:iq a b=0
  ·simp only[h,Sv,qw l m];simp[tG.1 h]
  ·rw[By h];constructor
   ·intro h2;exact absurd h2 h
   ·rintro⟨h2,_⟩;exact absurd (tG.2 h2) h
theorem z8{a b:bz}:uL a b=0↔a=b:=by
 obtain⟨x,l⟩:=a;obtain⟨y,m⟩:=b;simp only[uL,mQ,bz.mk.injEq];by_cases h:dn x y=0
 ·simp only[h,Sv];have h3:=nq.1 h;have:x=y:=by omega
  simp only[this,true_and];have h2:=qw l m;split
  ·rename_i h4;simp[h2.1 h4]
  ·rename_i h4;constructor
   ·intro h5;exact absurd h5 h4
   ·intro h5;exact absurd (h2.2 h5) h4
 ·rw[By h];constructor
  ·intro h2;exact absurd h2 h
  ·rintro⟨h2,_⟩;exact absurd (nq.2 (by rw[h2])) h
theorem sH(F:ar)(x y:bz){a b:Option Addr}{m n c d:Nat}(hx:bw fh F a m c x.right)(hy:bw fh F b n d y.right)(hm:m<=1000000)(hn:n<=1000000) :
  Abs.Spec CC 140 [.agg ⟨[.int .i64 x.left,.slice a m c]⟩,.agg ⟨[.int .i64 y.left,.slice b n d]⟩] F [] λ_ v o=>o=[]/\v=.int .i64 (uL x y):=by
 refine Abs.Spec.fn (n:=17) Tryz.func140 rfl rfl λown=>?_;refine AW.seq (AW.du ?_);refine WT.cC Z Z Z Z Z Z (λi1 hi1=>?_);refine WT.cC Z Z Z Z Z Z (λi2 hi2=>?_);refine au ?_;refine AW.draw (ps:=[(6,4),(8,4)]) Z Z ?_;refine au ?_;refine WT.bN Tryz.func124 Z Z Z Z Z Z (jF _ _ _) (λv hv=>?_);subst hv;refine au ?_;refine WT.bN Tryz.func183 Z Z Z Z Z Z (te _ hx hy hm hn) (λv hv=>?_);subst hv;refine WT.bd hT Z Z Z Z Z Z Z Z Z Z Z Z Z Z (λi9 hi9=>?_)
 refine WT.eK 0 Tryz.func123 Z Z Z Z Z Z Z (λG hG hBG=>Et G (l:=[dn x.left y.left,eG x.right y.right]) (dy.frozen (F:=F) (B:=[(i9,.cells false [.int .i64 (dn x.left y.left),.int .i64 (eG x.right y.right)])]) ⟨rfl,.inr ⟨i9,_,rfl,rfl,rfl,aF.cons (l:=[_]) Z (aF.single (x:=eG x.right y.right) rfl),by decide⟩⟩ hG hBG) (by decide)) (λv hv=>?_);subst hv;refine au ?_;refine⟨oF,?_⟩;exact AW.ret ⟨_,[],⟨_,_,rfl,rfl,rfl⟩,bU,rfl,rfl⟩
def idxOf{α:Type}(p:α->Bool):List α->Int
 | []=>-1
 | x::l=>if p x=true then 0 else if idxOf p l=-1 then -1 else idxOf p l+1
theorem wh{α:Type}(p:α->Bool):∀l:List α,-1<=idxOf p l
 | []=>by simp[idxOf]
 | x::l=>by have:=wh p l;simp only[idxOf];split<;>(try split)<;>omega
theorem pG{α:Type}{p:α->Bool}:∀{l:List α} {j:Nat},j<=l.length->(∀y∈l.take j,p y=false)->idxOf p l=if idxOf p (l.drop j)=-1 then -1 else idxOf p (l.drop j)+j
 | l,0,_,_=>by simp
 | [],j+1,h,_=>by simp at h
 | x::l,j+1,h,h2=>by
  have hx:p x=false:=h2 x (by simp);have ih:=@pG α p l j (by simpa using h) (λy hy=>h2 y (by simp[hy]));have:=wh p (l.drop j);simp only[idxOf,hx,List.drop_succ_cons];rw[ih];by_cases h3:idxOf p (l.drop j)=-1
  ·simp[h3]
  ·simp only[h3,SL];rw[By (by simp),By zo];omega
theorem o8{α:Type}{p:α->Bool}:∀{l:List α},0<=idxOf p l↔l.any p=true
 | []=>by simp[idxOf]
 | x::l=>by
  have ih:=@o8 α p l;have:=wh p l;simp only[idxOf,List.any_cons,Sr,<-ih];by_cases hx:p x=true
  ·simp[hx]
  ·rw[By hx];constructor
   ·intro h;right;split at h<;>omega
   ·intro h;rcases h with h | h
    ·exact absurd h hx
    ·rw[By zo];omega
theorem jG{α:Type}{p:α->Bool}{l:List α}:decide (idxOf p l≥0)=l.any p:=by
 rw[SH,RS];exact o8
theorem qD{α:Type}{p:α->Bool}{l:List α}{j:Nat}{x:α}(hx:l[j]?=some x)(hp:p x=true)(h:∀y∈l.take j,p y=false):idxOf p l=j:=by
 have hj:j<l.length:=(gS hx).1;rw[pG zo h,RX hj];have:l[j]=x:=by rw[gE hj] at hx;simpa using hx
 simp[idxOf,this,hp]
theorem mq{α:Type}{p:α->Bool}{l:List α}(h:∀y∈l,p y=false):idxOf p l=-1:=by
 rw[pG (j:=l.length) (AS _) (by simpa using h)];simp[idxOf]
theorem NZ{p:Prop} (h:p:=by
 have hxlen:=hx.len;refine au ?_;refine AW.range (S:=Unit) (λ_=>[]) (λ_=>_) (λj _ G=>G=F/\∀y∈xs.take j,p y=false) m () Z Z Z Z Z Z Z Z Z zo Z Z (λ_=>rfl) (λ_=>rfl) sM oR ⟨rfl,by simp⟩ ?_ ?_
 ·intro j _ F1 hF1 hj hP;obtain⟨rfl,hP⟩:=hP;refine au ?_;refine WT.bG hT hx Z Z Z Z Z Z Z Z Z zo (λx hxj b1 off ro cs lx hb hp1 hrel=>?_);obtain rfl:lx=_:=hrel;refine au ?_;refine WT.fZ hg hgb Z Z Z Z Z Z Z (hp x (gM hxj) ) (λv hv=>?_);subst hv;refine au ?_;refine AW.cond Z (λhc=>?_) (λhc=>?_)
  ·refine au ?_;refine AW.ret ⟨_,[],⟨_,_,rfl,rfl,rfl⟩,bU,rfl,?_⟩;rw[qD hxj hc hP];rfl
  ·refine au ?_;exact⟨(),sM,cy,rfl,jh hxj hP hc⟩
 ·intro _ F1 hF1 hP;obtain⟨rfl,hP⟩:=hP;rw[No zo] at hP;refine au ?_;refine AW.ret ⟨_,[],⟨_,_,rfl,rfl,rfl⟩,bU,rfl,?_⟩;rw[mq hP];rfl):p:=h
theorem wT(F:ar){a:Option Addr}{m c:Nat}{xs:List Sym}(hx:bw fh F a m c xs)(hm:m<=1000000)(p:Sym->Bool){g:Nat}{fn:Func}{first capt:List Value}(hg:CC.func g=some fn)(hgb:fn.body.isSome=true)
  (hp:∀x∈xs,  Abs.Spec CC g (first++[.agg ⟨[.bool x.term,.int .i64 x.n]⟩]++capt) F [] λ_ v o=>o=[]/\v=.bool (p x)) :
  Abs.Spec CC 109 [.slice a m c,.func (.func g) ⟨first⟩ ⟨capt⟩] F [] λ_ v o=>o=[]/\v=.int .i64 (idxOf p xs):=by
 refine Abs.Spec.fn (n:=19) Tryz.func109 rfl rfl λown=>?_;exact NZ
theorem nz(F:ar){a:Option Addr}{m c:Nat}{xs:List Sym}(hx:bw fh F a m c xs)(hm:m<=1000000)(p:Sym->Bool){g:Nat}{fn:Func}{first capt:List Value}(hg:CC.func g=some fn)(hgb:fn.body.isSome=true)
  (hp:∀x∈xs,  Abs.Spec CC g (first++[.agg ⟨[.bool x.term,.int .i64 x.n]⟩]++capt) F [] λ_ v o=>o=[]/\v=.bool (p x)) :
  Abs.Spec CC 55 [.slice a m c,.func (.func g) ⟨first⟩ ⟨capt⟩] F [] λ_ v o=>o=[]/\v=.bool (xs.any p):=by
 refine Abs.Spec.fn (n:=9) Tryz.func55 rfl rfl λown=>?_;refine au ?_;refine WT.bN Tryz.func109 Z Z Z Z Z Z (wT _ hx hm p hg hgb hp) (λv hv=>?_);subst hv;refine au ?_;refine AW.ret ⟨_,[],⟨_,_,rfl,rfl,rfl⟩,bU,rfl,?_⟩;rw[<-jG];rfl
theorem nE(F:ar){a:Option Addr}{m c:Nat}{xs:List bz}(hx:bw bK F a m c xs)(hm:m<=1000000)(p:bz->Bool){g:Nat}{fn:Func}{first capt:List Value}(hg:CC.func g=some fn)(hgb:fn.body.isSome=true)
  (hp:∀x∈xs,∀b n d,bw fh F b n d x.right->Abs.Spec CC g (first++[.agg ⟨[.int .i64 x.left,.slice b n d]⟩]++capt) F [] λ_ v o=>o=[]/\v=.bool (p x)) :
  Abs.Spec CC 108 [.slice a m c,.func (.func g) ⟨first⟩ ⟨capt⟩] F [] λ_ v o=>o=[]/\v=.int .i64 (idxOf p xs):=by
 refine Abs.Spec.fn (n:=19) Tryz.func108 rfl rfl λown=>?_;have hxlen:=hx.len;refine au ?_;refine AW.range (S:=Unit) (λ_=>[]) (λ_=>_) (λj _ G=>G=F/\∀y∈xs.take j,p y=false) m () Z Z Z Z Z Z Z Z Z zo Z Z (λ_=>rfl) (λ_=>rfl) sM oR ⟨rfl,by simp⟩ ?_ ?_
 ·intro j _ F1 hF1 hj hP;obtain⟨rfl,hP⟩:=hP;refine au ?_;refine WT.bG hT hx Z Z Z Z Z Z Z Z Z zo (λx hxj b1 off ro cs lx hb hp1 hrel=>?_);obtain⟨b2,n2,d2,rfl,hx2⟩:=hrel;refine au ?_;refine WT.fZ hg hgb Z Z Z Z Z Z Z (hp x (gM hxj) _ _ _ hx2) (λv hv=>?_);subst hv;refine au ?_;refine AW.cond Z (λhc=>?_) (λhc=>?_)
  ·refine au ?_;refine AW.ret ⟨_,[],⟨_,_,rfl,rfl,rfl⟩,bU,rfl,?_⟩;rw[qD hxj hc hP];rfl
  ·refine au ?_;exact⟨(),sM,cy,rfl,jh hxj hP hc⟩
 ·intro _ F1 hF1 hP;obtain⟨rfl,hP⟩:=hP;rw[No zo] at hP;refine au ?_;refine AW.ret ⟨_,[],⟨_,_,rfl,rfl,rfl⟩,bU,rfl,?_⟩;rw[mq hP];rfl
theorem zz(F:ar){a:Option Addr}{m c:Nat}{xs:List bz}(hx:bw bK F a m c xs)(hm:m<=1000000)(p:bz->Bool){g:Nat}{fn:Func}{first capt:List Value}(hg:CC.func g=some fn)(hgb:fn.body.isSome=true)
  (hp:∀x∈xs,∀b n d,bw fh F b n d x.right->Abs.Spec CC g (first++[.agg ⟨[.int .i64 x.left,.slice b n d]⟩]++capt) F [] λ_ v o=>o=[]/\v=.bool (p x)) :
  Abs.Spec CC 138 [.slice a m c,.func (.func g) ⟨first⟩ ⟨capt⟩] F [] λ_ v o=>o=[]/\v=.bool (xs.any p):=by
 refine Abs.Spec.fn (n:=9) Tryz.func138 rfl rfl λown=>?_;refine au ?_;refine WT.bN Tryz.func108 Z Z Z Z Z Z (nE _ hx hm p hg hgb hp) (λv hv=>?_);subst hv;refine au ?_;refine AW.ret ⟨_,[],⟨_,_,rfl,rfl,rfl⟩,bU,rfl,?_⟩;rw[<-jG];rfl
theorem wU(F:ar){a:Option Addr}{m c:Nat}{xs:List Nat}(hx:bw eS F a m c xs)(hm:m<=1000000)(p:Nat->Bool){g:Nat}{fn:Func}{first capt:List Value}(hg:CC.func g=some fn)(hgb:fn.body.isSome=true)
  (hp:∀x∈xs,  Abs.Spec CC g (first++[.int .i64 (x:Nat)]++capt) F [] λ_ v o=>o=[]/\v=.bool (p x)) :
  Abs.Spec CC 180 [.slice a m c,.func (.func g) ⟨first⟩ ⟨capt⟩] F [] λ_ v o=>o=[]/\v=.int .i64 (idxOf p xs):=by
 refine Abs.Spec.fn (n:=19) Tryz.func180 rfl rfl λown=>?_;exact NZ
theorem AF(F:ar){a:Option Addr}{m c:Nat}{xs:List Nat}(hx:bw eS F a m c xs)(hm:m<=1000000)(p:Nat->Bool){g:Nat}{fn:Func}{first capt:List Value}(hg:CC.func g=some fn)(hgb:fn.body.isSome=true)
  (hp:∀x∈xs,  Abs.Spec CC g (first++[.int .i64 (x:Nat)]++capt) F [] λ_ v o=>o=[]/\v=.bool (p x)) :
  Abs.Spec CC 126 [.slice a m c,.func (.func g) ⟨first⟩ ⟨capt⟩] F [] λ_ v o=>o=[]/\v=.bool (xs.any p):=by
 refine Abs.Spec.fn (n:=9) Tryz.func126 rfl rfl λown=>?_;refine au ?_;refine WT.bN Tryz.func180 Z Z Z Z Z Z (wU _ hx hm p hg hgb hp) (λv hv=>?_);subst hv;refine au ?_;refine AW.ret ⟨_,[],⟨_,_,rfl,rfl,rfl⟩,bU,rfl,?_⟩;rw[<-jG];rfl
def mh(g:af)(y:Sym):Bool:=if y.term=true then decide (y.n<g.ae) else decide (y.n<g.ak)
theorem Fg(F:ar)(g:af){a:Option Addr}{m c:Nat}(y:Sym) :
  Abs.Spec CC 137 [.agg ⟨[.int .i64 g.ae,.int .i64 g.ak,.int .i64 g.start,.slice a m c]⟩,.agg ⟨[.bool y.term,.int .i64 y.n]⟩] F [] λ_ v o=>o=[]/\v=.bool (mh g y):=by
 refine Abs.Spec.fn (n:=31) Tryz.func137 rfl rfl λown=>?_;refine AW.seq (AW.du ?_);refine WT.cC Z Z Z Z Z Z (λi1 hi1=>?_);refine WT.cC Z Z Z Z Z Z (λi2 hi2=>?_);refine au ?_;have e1:decide ((y.n:Int)≥0)=true:=by simp
 refine WT.split 8 Z (λ_=>?_) (λh=>(by rw[e1] at h;cases h));have e2:∀m:Nat,decide ((y.n:Int)<(m:Int))=decide (y.n<m):=λm=>by rw[decide_eq_decide];omega
 cases ht:y.term with
 | true=>
  refine au ?_;refine WT.split 18 Z (λh=>?_) (λh=>?_)
  ·refine au ?_;refine AW.ret ⟨_,[],⟨_,_,rfl,rfl,rfl⟩,bU,rfl,?_⟩;rw[e2] at h;simp only[mh,ht,Sv,h];rfl
  ·refine au ?_;refine AW.ret ⟨_,[],⟨_,_,rfl,rfl,rfl⟩,bU,rfl,?_⟩;rw[e2] at h;simp only[mh,ht,Sv,h];rfl
 | false=>
  refine au ?_;refine AW.ret ⟨_,[],⟨_,_,rfl,rfl,rfl⟩,bU,rfl,?_⟩;simp only[mh,ht,<-e2];rfl
def ai(g:af)(a:Option Addr)(m c:Nat):List Value:=[.int .i64 g.ae,.int .i64 g.ak,.int .i64 g.start,.slice a m c]
theorem A6(F:ar)(g:af){a:Option Addr}{m c:Nat}{i:Nat}{ro:Bool}(hi:F i=some (.cells ro (ai g a m c)))(y:Sym) :
  Abs.Spec CC 136 [.agg ⟨[.bool y.term,.int .i64 y.n]⟩,.pointer (some ⟨i,0,none⟩)] F [] λ_ v o=>o=[]/\v=.bool (!mh g y):=by
 unfold ai at hi;refine Abs.Spec.fn (n:=8) Tryz.func136 rfl rfl λown=>?_;refine AW.seq (AW.du ?_);refine WT.cC Z Z Z Z Z Z (λi2 hi2=>?_);refine au ?_;refine WT.bN Tryz.func137 Z Z Z Z Z Z (Fg _ g y) (λv hv=>?_);subst hv;refine au ?_;exact AW.ret ⟨_,[],⟨_,_,rfl,rfl,rfl⟩,bU,rfl,rfl⟩
theorem Bq(F:ar)(r:bz){a:Option Addr}{m c:Nat}{i:Nat}{ro:Bool}(hi:F i=some (.cells ro [.int .i64 r.left,.slice a m c]))(hr:bw fh F a m c r.right)(hm:m<=1000000)(x:bz)
  {b:Option Addr} {n d:Nat} (hx:bw fh F b n d x.right) (hn:n<=1000000) :
  Abs.Spec CC 139 [.agg ⟨[.int .i64 x.left,.slice b n d]⟩,.pointer (some ⟨i,0,none⟩)] F [] λ_ v o=>o=[]/\v=.bool (decide (x=r)):=by
 refine Abs.Spec.fn (n:=8) Tryz.func139 rfl rfl λown=>?_;refine AW.seq (AW.du ?_);refine WT.cC Z Z Z Z Z Z (λi2 hi2=>?_);refine au ?_;refine WT.bN Tryz.func140 Z Z Z Z Z Z (sH _ x r hx hr hn hm) (λv hv=>?_);subst hv;refine au ?_;refine AW.ret ⟨_,[],⟨_,_,rfl,rfl,rfl⟩,bU,rfl,?_⟩;have:(uL x r==0)=decide (x=r):=by
  rw[SH];simp[z8]
 rw[<-this];rfl
def gY(g:af)(pre:List bz)(r:bz):Nat:=
 if g.ak<=r.left then 3 else if 4<r.right.length then 2 else if r.right.any (λy=>!mh g y)=true then 3 else if pre.any (λx=>decide (x=r))=true then 6 else 0
def dQ(g:af):List bz->List bz->Nat
 | _,[]=>0
 | pre,r::l=>if gY g pre r=0 then dQ g (pre++[r]) l else gY g pre r
structure D9(g:af):Prop where
 ae:1<=g.ae/\g.ae<=8
 ak:1<=g.ak/\g.ak<=10
 start:g.start<g.ak
 rules:g.rules.length<=32
 right:∀r∈g.rules,r.right.length<=1000000
theorem ot(g:af):∀(j:Nat) (pre l:List bz),j<=l.length->(∀i (h:i<l.length),i<j->gY g (pre++l.take i) l[i]=0)->dQ g pre l=dQ g (pre++l.take j) (l.drop j)
 | 0,pre,l,_,_=>by simp
 | j+1,pre,[],h,_=>by simp at h
 | j+1,pre,r::l,h,h2=>by
  have h0:=h2 0 (by simp) zo;simp only[TV,R0,List.getElem_cons_zero] at h0;simp only[dQ,h0,Sv]
  rw[ot g j (pre++[r]) l (by simpa using h) (λi h3 h4=>by
   have:=h2 (i+1) (by simpa using h3) zo;simpa using this)]
  simp
theorem j5(F:ar)(g:af)(hg:D9 g){a:Option Addr}{m c:Nat}(hr:bw bK F a m c g.rules) :
  Abs.Spec CC 85 [.agg ⟨ai g a m c⟩] F [] λ_ v o=>o=[]/\v=.int .i64 (dQ g [] g.rules:Nat):=by
 unfold ai;have hlen:=hr.len;obtain⟨⟨ht1,ht2⟩,⟨hn1,hn2⟩,hst,hrl,hrr⟩:=hg;refine Abs.Spec.fn (n:=76) Tryz.func85 rfl rfl λown=>?_;refine AW.seq (AW.du ?_);refine WT.cC Z Z Z Z Z Z (λi1 hi1=>?_);refine WT.aw 0 Z Z (λF1 hF1 hB1=>?_);have hi1:=hB1 i1 _ me;have hr:=hr.mono hF1;refine au ?_;refine WT.split 8 Z (λh=>(by simp at h;omega)) (λ_=>?_);refine au ?_;refine WT.split 13 Z (λh=>(by simp at h;omega)) (λ_=>?_);refine au ?_;refine WT.split 18 Z (λh=>(by simp at h;omega)) (λ_=>?_);refine au ?_
 refine WT.split 23 Z (λh=>(by simp at h;omega)) (λ_=>?_);refine au ?_;refine AW.cond Z (λh=>(by simp at h;omega)) (λ_=>?_);refine au ?_;refine AW.cond Z (λh=>(by simp at h;omega)) (λ_=>?_);refine au ?_;refine AW.range (S:=Unit) (λ_=>[]) (λ_=>_) (λj _ _=>dQ g [] g.rules=dQ g (g.rules.take j) (g.rules.drop j)) m () Z Z Z Z Z Z Z Z Z zo Z Z (λ_=>rfl) (λ_=>rfl) sM oR (by simp) ?_ ?_
 ·intro j _ F2 hF2 hj hP;have hr2:=hr.mono hF2;refine au ?_;refine WT.bG hT hr2 Z Z Z Z Z Z Z Z Z zo (λx hxj b1 off ro cs lx hb hp1 hrel=>?_);obtain⟨b2,n2,d2,rfl,hx2⟩:=hrel;have hx2len:=hx2.len;have hxr:=hrr x (gM hxj);have hxj':g.rules.drop j=x::g.rules.drop (j+1):=by
   rw[RX (show j<g.rules.length by omega)];rw[gE zo] at hxj;have:=AT hxj;rw[this]
  have next:gY g (g.rules.take j) x=0->dQ g [] g.rules=dQ g (g.rules.take (j+1)) (g.rules.drop (j+1)):=by
   intro h0;rw[hP,hxj'];simp only[dQ,h0,Sv];rw[Rk,hxj];rfl
  have stop:∀e,e≠0->gY g (g.rules.take j) x=e->dQ g [] g.rules=e:=by
   intro e h1 h2;rw[hP,hxj'];simp only[dQ,h2,h1,SL]
  refine au ?_;refine WT.aI hT Z Z Z Z Z Z (λi4 hi4=>?_);refine au ?_;refine AW.aw 0 Z Z (λF3 hF3 hB3=>?_);have hi4:=hB3 i4 _ me;have hi1:=hF3 _ _ (hF2 _ _ hi1);have hr3:=hr2.mono hF3;have hx3:=hx2.mono hF3;refine AW.block ?_;refine au ?_;refine AW.cond Z (λh=>?_) (λh=>?_)
  ·have h:g.ak<=x.left:=by simp at h;omega
   refine au ?_;refine AW.ret ⟨_,[],⟨_,_,rfl,rfl,rfl⟩,bU,rfl,?_⟩;rw[stop 3 (by decide) (by simp[gY,h])];rfl
  ·have h1:¬g.ak<=x.left:=by simp at h;omega
   refine au ?_;refine AW.cond Z (λh=>?_) (λh=>?_)
   ·have h2:4<x.right.length:=by simp at h;omega
    refine au ?_;refine AW.ret ⟨_,[],⟨_,_,rfl,rfl,rfl⟩,bU,rfl,?_⟩;rw[stop 2 (by decide) (by simp[gY,h1,h2])];rfl
   ·have h2:¬4<x.right.length:=by simp at h;omega
    refine au ?_;refine WT.bN Tryz.func55 Z Z Z Z Z Z (nz _ hx3 zo (λy=>!mh g y) Tryz.func136 Z (λy _=>A6 _ g hi1 y)) (λv hv=>?_);subst hv;refine au ?_;refine AW.cond Z (λh=>?_) (λh3=>?_)
    ·refine au ?_;refine AW.ret ⟨_,[],⟨_,_,rfl,rfl,rfl⟩,bU,rfl,?_⟩;rw[stop 3 (by decide) (by rw[gY,By h1,By h2,If h])];rfl
    ·have h3':¬(x.right.any λy=>!mh g y)=true:=by rw[h3];decide
     refine au ?_;obtain⟨a',c',hs,ha'⟩:=hr3.slice (C:=CC) (lo:=0) (hi:=j) zo zo hT (t:=23) Z Z Z none (some (.int .i64 (j:Nat))) rfl rfl;refine WT.slice Z Z Z Z Z Z Z Z hs ?_;refine au ?_;refine WT.bN Tryz.func138 Z Z Z Z Z Z (zz _ ha' zo (λy=>decide (y=x)) Tryz.func139 Z (λy hy b n d hb=>Bq _ x hi4 hx3 zo y hb ?_)) (λv hv=>?_)
     ·rw[hb.len];exact hrr y (by simpa using List.mem_of_mem_take hy)
     subst hv;refine au ?_;rw[S6];refine AW.cond Z (λh=>?_) (λh4=>?_)
     ·refine au ?_;refine AW.ret ⟨_,[],⟨_,_,rfl,rfl,rfl⟩,bU,rfl,?_⟩;rw[stop 6 (by decide) (by rw[gY,By h1,By h2,By h3',If h])];rfl
     ·have h4':¬((g.rules.take j).any λy=>decide (y=x))=true:=by rw[h4];decide
      refine au ?_;exact⟨(),sM,cy,next (by rw[gY,By h1,By h2,By h3',By h4'])⟩
 ·intro _ F2 hF2 hP;refine au ?_;refine AW.ret ⟨_,[],⟨_,_,rfl,rfl,rfl⟩,bU,rfl,?_⟩;rw[hP,Su zo];rfl
structure Valid(g:af):Prop where
 range:D9 g
 right:∀r∈g.rules,r.left<g.ak/\r.right.length<=4/\∀y∈r.right,bZ g.ae g.ak y
 nodup:g.rules.Nodup
theorem Valid.u0{g:af}(h:Valid g):dQ g [] g.rules=0:=by
 rw[ot g g.rules.length [] g.rules (AS _) (λi h1 _=>?_)]
 ·simp[dQ]
 ·obtain⟨h2,h3,h4⟩:=h.right g.rules[i] (TG h1);rw[gY,By zo,By zo,By,By]
  ·intro h5;simp only[SG,RZ,RS] at h5;obtain⟨x,hx,rfl⟩:=h5;have hn:=h.nodup;rw[<-Si i g.rules,SD] at hn;refine hn.2.2 _ hx _ ?_ rfl;rw[RX h1];exact Rl ..
  ·intro h5;simp only[RZ,SR] at h5;obtain⟨y,hy,hb⟩:=h5;have:=h4 y hy;unfold bZ at this;unfold mh at hb;split at this<;>rename_i ht<;>simp[ht,this] at hb
theorem Small.valid{g:af}(h:Small g):Valid g where
 range:=⟨by have:=h.ae;omega,by have:=h.ak;omega,h.start,by have:=h.rules;omega,λr hr=>by have:=(h.ok r hr).2.1;omega⟩
 right:=λr hr=>⟨(h.ok r hr).1,by have:=(h.ok r hr).2.1;omega,(h.ok r hr).2.2⟩
 nodup:=h.nodup
theorem FY(F:ar)(ae most:Nat)(ht:0<ae/\ae<=1000)(hmost:most<=1000000){a:Option Addr}{m c:Nat}{l:List Int}(hl:bw fm F a m c l)(hm:m<=9223372036854775807) :
  Abs.Spec CC 49 [.int .i64 ae,.int .i64 most,.slice a m c] F [] λF' v o=>o=[]/\∃a m c w,v=.slice a m c/\bw eS F' a m c w/\w.length<=most/\∀t∈w,t<ae:=by
 refine Abs.Spec.fn (n:=28) Tryz.func49 rfl rfl λown=>?_;have hlen:=hl.len;refine au ?_;refine AW.range (S:=List Nat×Option Addr×Nat×Nat×List (Nat×aD)) (λs=>[(7,.slice s.2.1 s.2.2.1 s.2.2.2.1)]) (λs=>s.2.2.2.2::own) (λj s G=>dy eS G s.2.1 s.2.2.1 s.2.2.2.1 s.2.2.2.2 s.1/\s.1.length<=most/\∀t∈s.1,t<ae) m ⟨[],none,0,0,[]⟩ Z Z Z Z Z Z Z Z Z zo Z Z (λ_=>rfl) (λ_=>rfl) sM (ah.flat (Rc _)) ⟨dy.gq _ _,by simp,by simp⟩ ?_ ?_
 ·intro j s F1 hF1 hj hP;obtain⟨hb,hlen2,hlt⟩:=hP;have hblen:=hb.len;have hl1:=hl.mono hF1;refine au ?_;refine WT.bG hT hl1 Z Z Z Z Z Z Z Z Z zo (λx hxj b1 off ro cs lx hb1 hp1 hrel=>?_);obtain rfl:lx=_:=hrel;refine au ?_;refine AW.cond Z (λh=>?_) (λh=>?_)
  ·refine AW.exit ?_;refine AW.aw 0 Z Z (λF3 hF3 hB3=>?_);refine au ?_;exact AW.ret ⟨_,[],⟨_,_,rfl,rfl,rfl⟩,bU,rfl,_,_,_,s.1,rfl,hb.frozen hF3 hB3,hlen2,hlt⟩
  ·have h:s.1.length<most:=by simp at h;omega
   refine au ?_;refine WT.bN Tryz.func37 Z Z Z Z Z Z (vK _ x ae zo zo) (λv hv=>?_);subst hv;refine WT.bd hT Z Z Z Z Z Z Z Z Z Z Z Z Z Z (λi9 hi9=>?_);refine WT.bP (ys:=[below x ae]) hT 1 hb Z (λ_=>rfl) Z Z Z Z Z Z Z Z Z Z Z (λh0 s0=>bh hT s0 0 Z Z Z Z) (aF.single (R:=eS) (x:=below x ae) rfl) Z (by decide) kq (λa3 c3 B3 hB3=>?_);refine au ?_;refine⟨⟨s.1++[below x ae],a3,s.2.2.1+1,c3,B3⟩,sM,cy,hB3,by simp;omega,λt ht2=>?_⟩;rcases Rx.1 ht2 with ht2 | ht2
   ·exact hlt t ht2
   ·obtain rfl:=Rh.1 ht2;exact Cp x ht.1
 ·intro s F1 hF1 hP;obtain⟨hb,hlen2,hlt⟩:=hP;refine AW.aw 0 Z Z (λF3 hF3 hB3=>?_);refine au ?_;exact AW.ret ⟨_,[],⟨_,_,rfl,rfl,rfl⟩,bU,rfl,_,_,_,s.1,rfl,hb.frozen hF3 hB3,hlen2,hlt⟩
def oK(ae most:Nat)(w:List Nat):Nat:=if most<w.length then 2 else if w.any (λt=>decide (ae<=t))=true then 1 else 0
theorem CM(F:ar)(g:af){a:Option Addr}{m c:Nat}{i:Nat}{ro:Bool}(hi:F i=some (.cells ro (ai g a m c)))(t:Nat) :
  Abs.Spec CC 127 [.int .i64 t,.pointer (some ⟨i,0,none⟩)] F [] λ_ v o=>o=[]/\v=.bool (decide (g.ae<=t)):=by
 unfold ai at hi;refine Abs.Spec.fn (n:=12) Tryz.func127 rfl rfl λown=>?_;refine au ?_;refine AW.ret ⟨_,[],⟨_,_,rfl,rfl,rfl⟩,bU,rfl,?_⟩;simp[ei]
theorem DM(F:ar)(g:af){a:Option Addr}{m c:Nat}(most:Nat)(hmost:most<=1000000){b:Option Addr}{n d:Nat}{w:List Nat}(hw:bw eS F b n d w)(hn:n<=1000000) :
  Abs.Spec CC 77 [.agg ⟨ai g a m c⟩,.slice b n d,.int .i64 most] F [] λ_ v o=>o=[]/\v=.int .i64 (oK g.ae most w:Nat):=by
 unfold ai;have hlen:=hw.len;refine Abs.Spec.fn (n:=14) Tryz.func77 rfl rfl λown=>?_;refine AW.seq (AW.du ?_);refine WT.cC Z Z Z Z Z Z (λi1 hi1=>?_);refine WT.aw 0 Z Z (λF1 hF1 hB1=>?_);have hi1:=hB1 i1 _ me;refine au ?_;refine AW.cond Z (λh=>?_) (λh=>?_)
 ·have h:most<w.length:=by simp at h;omega
  refine au ?_;refine AW.ret ⟨_,[],⟨_,_,rfl,rfl,rfl⟩,bU,rfl,?_⟩;rw[oK,If h];rfl
 ·have h1:¬most<w.length:=by simp at h;omega
  refine au ?_;refine WT.bN Tryz.func126 Z Z Z Z Z Z (AF _ (hw.mono hF1) zo (λt=>decide (g.ae<=t)) Tryz.func127 Z (λt _=>CM _ g hi1 t)) (λv hv=>?_);subst hv;refine au ?_;refine AW.cond Z (λh=>?_) (λh=>?_)
  ·refine au ?_;refine AW.ret ⟨_,[],⟨_,_,rfl,rfl,rfl⟩,bU,rfl,?_⟩;rw[oK,By h1,If h];rfl
  ·refine au ?_;refine AW.ret ⟨_,[],⟨_,_,rfl,rfl,rfl⟩,bU,rfl,?_⟩;rw[oK,By h1,By (by rw[h];decide)];rfl
theorem Di{ae most:Nat}{w:List Nat}(h1:w.length<=most)(h2:∀t∈w,t<ae):oK ae most w=0:=by
 rw[oK,By zo,By];intro h;simp only[RZ,RS] at h;obtain⟨t,ht,h⟩:=h;have:=h2 t ht;omega
theorem A7(F:ar)(g:af)(hg:Valid g){a:Option Addr}{m c:Nat}(hr:bw bK F a m c g.rules){b:Option Addr}{n d:Nat}{w:List Nat}(hw:bw eS F b n d w)(hw1:w.length<=12)(hw2:∀t∈w,t<g.ae) :
  Abs.Spec CC 88 [.agg ⟨ai g a m c⟩,.slice b n d] F [] λ_ v o=>o=[]/\v=.int .i64 0:=by
 unfold ai;have hlen:=hw.len;refine Abs.Spec.fn (n:=14) Tryz.func88 rfl rfl λown=>?_;refine AW.seq (AW.du ?_);refine WT.cC Z Z Z Z Z Z (λi1 hi1=>?_);refine au ?_;refine WT.bN Tryz.func85 Z Z Z Z Z Z (j5 _ g hg.range hr) (λv hv=>?_);rw[hg.u0] at hv;subst hv;refine au ?_;refine AW.cond Z (λh=>(by cases h)) (λh=>?_);refine au ?_;refine WT.bN Tryz.func77 Z Z Z Z Z Z (DM _ g 12 (by decide) hw zo) (λv hv=>?_);rw[Di hw1 hw2] at hv;subst hv;refine au ?_;exact AW.ret ⟨_,[],⟨_,_,rfl,rfl,rfl⟩,bU,rfl,rfl⟩
theorem Fp(F:ar){a b:Option Addr}{m n c d:Nat}{l w0:List Int}(hl:bw fm F a m c l)(hw:bw fm F b n d w0)(hm:n<=9223372036854775807)(most:Nat)(hmost:most<=1000000) :
  Abs.Spec CC 14 [.slice a m c,.slice b n d,.int .i64 most] F [] λF' v o=>o=[]/\∃g a m c b n d w,v=.tuple ⟨[.agg ⟨ai g a m c⟩,.slice b n d]⟩/\Small g/\bw bK F' a m c g.rules/\bw eS F' b n d w/\w.length<=most/\∀t∈w,t<g.ae:=by
 refine Abs.Spec.fn (n:=17) Tryz.func14 rfl rfl λown=>?_;refine AW.seq (AW.du ?_);refine WT.aI hT Z Z Z Z Z Z (λi6 hi6=>?_);refine au ?_;refine WT.dH Tryz.func8 Z Z Z Z Z Z (Ai _ hl) (λF1 v hF1 hv=>?_);obtain⟨g,⟨ga,gm,gc,rfl,hgr⟩,hg⟩:=hv;refine WT.aI hT Z Z Z Z Z Z (λi8 hi8=>?_);refine au ?_;refine AW.draw (ps:=[(0,5)]) Z Z ?_;refine au ?_;have:=hg.ae;refine WT.dH Tryz.func49 Z Z Z Z Z Z (FY _ g.ae most zo hmost (hw.mono hF1) hm) (λF2 v hF2 hv=>?_);obtain⟨wa,wm,wc,w,rfl,hwr,hw1,hw2⟩:=hv;refine au ?_;refine⟨oF,?_⟩
 refine AW.ret ⟨_,[],⟨_,_,⟨_,rfl,λG h0 s0=>bV (s0.has (p:=1) Z me) (cl hT rfl)⟩,⟨_,_,rfl,rfl,rfl⟩,rfl⟩,bU,rfl,g,ga,gm,gc,wa,wm,wc,w,rfl,hg,hgr.mono hF2,hwr,hw1,hw2⟩
theorem Bf:∀(n x:Nat),0<x->x<2 ^ n->∃p q,x=2 ^ p*(2*q+1)/\p<n
 | 0,x,h,h2=>by simp at h2;omega
 | n+1,x,h,h2=>by
  rcases Nat.mod_two_eq_zero_or_one x with h3 | h3
  ·obtain⟨p,q,h4,h5⟩:=Bf n (x / 2) zo (by rw[Tv] at h2;omega);refine⟨p+1,q,?_,by omega⟩;rw[Tv,SU (2 ^ p) 2,S5,<-h4];omega
  ·exact⟨0,x / 2,by omega,by omega⟩
theorem Ks(q i:Nat):(2*q+1).testBit i=if i=0 then true else (2*q).testBit i:=by
 cases i with
 | zero=>simp
 | succ i=>
  rw[Nat.testBit_succ,Nat.testBit_succ,By zo];congr 1;omega
theorem Aa(p q j:Nat):(2 ^ p*(2*q+1)).testBit j=if j<p then false else if j=p then true else (2*q).testBit (j-p):=by
 have:=Nat.testBit_two_pow_mul_add (2*q+1) (b:=0) (i:=p) (SX p) j;rw[SJ] at this;rw[this];by_cases h:j<p
 ·simp[h]
 ·rw[By h,By h,Ks];by_cases h2:j=p
  ·simp[h2]
  ·rw[By zo,By h2]
theorem Bk(p q j:Nat):(2 ^ p*(2*q+1)-1).testBit j=if j<p then true else (2*q).testBit (j-p):=by
 have h1:2 ^ p*(2*q+1)-1=2 ^ p*(2*q)+(2 ^ p-1):=by
  have:=SX p;rw[Uo];omega
 rw[h1,Nat.testBit_two_pow_mul_add _ (by have:=SX p;omega)];by_cases h:j<p
 ·simp[h]
 ·simp[h]
theorem vq(p q j:Nat):(2 ^ p*(2*q+1) &&& (2 ^ p*(2*q+1)-1)).testBit j=((2 ^ p*(2*q+1)).testBit j&&!(j==p)):=by
 rw[Ut,Aa,Bk];by_cases h:j<p
 ·simp[h]
 ·by_cases h2:j=p
  ·subst h2;simp
  ·simp[h,h2]
theorem Lj{n p q:Nat}(h:2 ^ p*(2*q+1)<2 ^ n):2 ^ p*(2*q+1) &&& (2 ^ n-2 ^ p*(2*q+1))=2 ^ p:=by
 apply Nat.eq_of_testBit_eq;intro j;have hpos:0<2 ^ p*(2*q+1):=Nat.mul_pos (SX p) zo;have h1:(2 ^ n-2 ^ p*(2*q+1)).testBit j=(decide (j<n)&&!(2 ^ p*(2*q+1)-1).testBit j):=by
  rw[<-Nat.testBit_two_pow_sub_succ zo];congr 1;omega
 have hp:p<n:=by
  rcases Rw p n with h2 | h2
  ·exact h2
  ·have h3:=Rz (show 0<2 by decide) h2;have:2 ^ p*1<=2 ^ p*(2*q+1):=Sq _ zo;omega
 rw[Ut,h1,Aa,Bk,Uf];by_cases h2:j<p
 ·have:¬p=j:=by omega
  simp[h2,this]
 ·by_cases h3:j=p
  ·subst h3;simp[hp]
  ·have:¬p=j:=by omega
   simp[h2,h3,this];exact λh _=>h
theorem Hz:∀p,p<32->uW[(2 ^ p*125613361 % 4294967296) / 2 ^ 27]?=some p:=by decide +kernel
def Laid(F:ar):Prop:=∀p∈gA,F p.1=some p.2
theorem Laid.mono{F G:ar}(h:Laid F)(hF:ar.le F G):Laid G:=λp hp=>hF _ _ (h p hp)
theorem Laid.Aq{F:ar}(h:Laid F):F 0=some (.cells true (uW.map λx:Nat=>Value.int .u8 (x:Int))):=h _ me
theorem J4(F:ar)(hL:Laid F)(p q:Nat)(hx:2 ^ p*(2*q+1)<4294967296):Abs.Spec CC 171 [.int .u32 ((2 ^ p*(2*q+1):Nat):Int)] F [] λ_ v o=>o=[]/\v=.int .i64 p:=by
 have hL:=hL.Aq;have hp:p<32:=by
  rcases Rw p 32 with h2 | h2
  ·exact h2
  ·have h3:=Rz (show 0<2 by decide) h2;have:2 ^ p*1<=2 ^ p*(2*q+1):=Sq _ zo;omega
 have hneg:=Lj (n:=32) (p:=p) (q:=q) hx;have hpos:0<2 ^ p*(2*q+1):=Nat.mul_pos (SX p) zo;have htab:=Hz p hp;have hp2:2 ^ p<4294967296:=TT (by decide) hp;generalize 2 ^ p*(2*q+1)=x at hx hneg hpos;refine Abs.Spec.fn (n:=14) Tryz.func171 rfl rfl λown=>?_;refine au ?_;refine AW.cond Z (λh=>(by simp at h;omega)) (λ_=>?_);refine au ?_;refine WT.iE (v':=.int .u32 ((4294967296-x:Nat):Int)) 7 Z ?_ ?_
 ·have hs:IntKind.u32.signed=false:=rfl;have hbits:IntKind.u32.bits=32:=rfl;have h2:(2:Int) ^ 32=4294967296:=rfl;simp only[IntKind.wrap,hs,hbits,Ub,h2];congr 1;simp;omega
 refine WT.rp (x:=x) (y:=4294967296-x) Z Z Z Z Z Z hx zo ?_;rw[show x &&& (4294967296-x)=2 ^ p from hneg];refine WT.My (x:=2 ^ p) (y:=125613361) Z Z Z Z Z Z ?_;refine WT.H4 (y:=27) Z Z Z Z Z Z (by decide) ?_;refine WT.MH (len:=32) (s:=1) hT Z Z Z Z Z Z Z Z Z (by have:=Nat.mod_lt (2 ^ p*125613361) (show 0<4294967296 by decide);rw[Uq (by decide)];omega) ?_;refine WT.J9 hT hL (v:=.int .u8 p) Z Z Z Z Z Z Z ?_ ?_
 ·rw[Rn,RQ,Re,htab];rfl
 refine WT.conv hT (k2:=.i64) Z Z Z Z Z Z Z Z (wrap64 zo) ?_
 refine au ?_;exact AW.ret ⟨_,[],⟨_,_,rfl,rfl,rfl⟩,bU,rfl,rfl⟩
def Step(w:List Nat)(E:List (List Nat))(s:Sym)(i j:Nat):Prop:=
 if s.term=true then w[i]?=some s.n/\j=i+1 else ∃row x,E[s.n]?=some row/\row[i]?=some x/\x.testBit j=true
def Reads(w:List Nat)(E:List (List Nat)):List Sym->Nat->Nat->Prop
 | [],i,j=>i=j
 | s::l,i,j=>∃m,Step w E s i m/\Reads w E l m j
theorem Reads.snoc{w:List Nat}{E:List (List Nat)}{s:Sym}:∀{l:List Sym} {i j:Nat},Reads w E (l++[s]) i j↔∃m,Reads w E l i m/\Step w E s m j
 | [],i,j=>by simp[Reads]
 | a::l,i,j=>by
  simp only[Tl,Reads,Reads.snoc (l:=l)];constructor
  ·rintro⟨m,h1,m2,h2,h3⟩;exact⟨m2,⟨m,h1,h2⟩,h3⟩
  ·rintro⟨m2,⟨m,h1,h2⟩,h3⟩;exact⟨m,h1,m2,h2,h3⟩
structure ju(n len:Nat)(E:List (List Nat)):Prop where
 size:E.length=n
 row:∀r∈E,r.length=len+1
 bit:∀r∈E,∀x∈r,x<2 ^ (len+1)
theorem CR{w:List Nat}{E:List (List Nat)}{y:Sym}{s u2 x p q:Nat}(hs:s.testBit p=true)
  (hu4:∀j,u2.testBit j=true↔∃p',s.testBit p'=true/\(2 ^ p*(2*q+1)).testBit p'=false/\Step w E y p' j) (hst:∀j,x.testBit j=true↔Step w E y p j) :
  ∀j,(u2 ||| x).testBit j=true↔∃p',s.testBit p'=true/\(2 ^ p*(2*q+1) &&& (2 ^ p*(2*q+1)-1)).testBit p'=false/\Step w E y p' j:=by
 intro j;rw[Nat.testBit_or,Sr,hu4,hst];constructor
 ·rintro(⟨p',h1,h2,h3⟩ | h)
  ·exact⟨p',h1,by rw[vq,h2];rfl,h3⟩
  ·exact⟨p,hs,by rw[vq];simp,h⟩
 ·rintro⟨p',h1,h2,h3⟩;rw[vq] at h2;by_cases hp:p'=p
  ·subst hp;exact .inr h3
  ·refine .inl ⟨p',h1,?_,h3⟩;have:(p'==p)=false:=by simpa using hp
   simpa [this] using h2
theorem DV(F:ar)(hL:Laid F){n t:Nat}{w:List Nat}{E:List (List Nat)}{l:List Sym}{a1 a2 a3:Option Addr}{m1 m2 m3 c1 c2 c3:Nat}(hw:bw eS F a1 m1 c1 w)(hE:bw (cg Fv) F a2 m2 c2 E)(hl:bw fh F a3 m3 c3 l)
  (hE2:ju n w.length E) (hok:∀y∈l,bZ t n y) (hlen:w.length<=30) (hl2:l.length<=1000) (i0:Nat) (hi0:i0<=w.length) :
  Abs.Spec CC 118 [.slice a1 m1 c1,.slice a2 m2 c2,.slice a3 m3 c3,.int .i64 i0] F [] λ_ v o=>o=[]/\∃r:Nat,v=.int .u32 r/\r<2 ^ (w.length+1)/\∀j,r.testBit j=true↔Reads w E l i0 j:=by
 have hwlen:=hw.len;have hElen:=hE.len;have hllen:=hl.len;have pw:∀p,p<=31->2 ^ p<4294967296:=λp hp=>TT (n:=32) (by decide) zo;have pwl:2 ^ (w.length+1)<=4294967296:=Rz (j:=32) (by decide) zo;refine Abs.Spec.fn (n:=68) Tryz.func118 rfl rfl λown=>?_;refine au ?_;refine WT.AL (x:=1) (y:=i0) Z Z Z Z Z Z zo (by have:=pw i0 zo;omega) ?_;refine au ?_
 refine AW.range (S:=Nat) (λs=>[(9,.int .u32 (s:Nat))]) (λ_=>_) (λj s G=>s<2 ^ (w.length+1)/\∀q,s.testBit q=true↔Reads w E (l.take j) i0 q) m3 (1*2 ^ i0) Z Z Z Z Z Z Z Z Z zo Z Z (λ_=>rfl) (λ_=>rfl) sM oR ⟨?_,?_⟩ ?_ ?_
 ·rw[SW];exact TT (by decide) zo
 ·intro q;rw[SW,Uf];simp[Reads]
 ·intro j s F1 hF1 hj hP;obtain⟨hs1,hs2⟩:=hP;have hw:=hw.mono hF1;have hE:=hE.mono hF1;have hl:=hl.mono hF1;have hL:=hL.mono hF1;refine au ?_;refine WT.bG hT hl Z Z Z Z Z Z Z Z Z zo (λy hyj b1 off ro cs lx hb hp1 hrel=>?_);obtain rfl:lx=_:=hrel;have hyok:=hok y (gM hyj);refine au ?_;refine WT.aI hT Z Z Z Z Z Z (λi1 hi1=>?_);refine au ?_;refine AW.block ?_
  refine AW.cK (S:=Nat×Nat) (λs=>[(13,.int .u32 s.1),(12,.int .u32 s.2)]) (λ_=>_) (λu G=>ar.le F1 G/\u.1<2 ^ (w.length+1)/\u.2<2 ^ (w.length+1)/\(∀q,u.1.testBit q=true->s.testBit q=true)/\∀q,u.2.testBit q=true↔∃p,s.testBit p=true/\u.1.testBit p=false/\Step w E y p q) (λu=>u.1) (s,0)
   sM oR ⟨ar.le.refl _,hs1,SX _,λq h=>h,λq=>?_⟩ ?_
  ·constructor
   ·intro h;simp at h
   ·rintro⟨p,h1,h2,_⟩;simp only at h2;rw[h1] at h2;cases h2
  ·intro u F2 hF2 hP2;obtain⟨hF12,hu1,hu2,hu3,hu4⟩:=hP2;have hw:=hw.mono hF2;have hE:=hE.mono hF2;have hL:=hL.mono hF2;obtain⟨u1,u2⟩:=u;dsimp only at hu1 hu2 hu3 hu4;refine au ?_;refine AW.cond Z (λh=>?_) (λh=>?_)
   ·have hne:u1≠0:=by intro e;subst e;simp at h
    obtain⟨p,q,rfl,hp⟩:=Bf (w.length+1) u1 zo hu1;have hps:s.testBit p=true:=hu3 p (by rw[Aa];simp);have hle:2 ^ p*(2*q+1) &&& (2 ^ p*(2*q+1)-1)<=2 ^ p*(2*q+1)-1:=Nat.and_le_right;have fin:∀x,x<2 ^ (w.length+1)->(∀j,x.testBit j=true↔Step w E y p j)->(ar.le F1 F2/\(2 ^ p*(2*q+1) &&& (2 ^ p*(2*q+1)-1))<2 ^ (w.length+1)/\(u2 ||| x)<2 ^ (w.length+1)/\(∀j,(2 ^ p*(2*q+1) &&& (2 ^ p*(2*q+1)-1)).testBit j=true->s.testBit j=true)/\∀j,(u2 ||| x).testBit j=true↔∃p',s.testBit p'=true/\(2 ^ p*(2*q+1) &&& (2 ^ p*(2*q+1)-1)).testBit p'=false/\Step w E y p' j):=by
     intro x hx1 hx2;refine⟨hF12,by omega,Nat.or_lt_two_pow hu2 hx1,λj hj=>hu3 j ?_,CR hps hu4 hx2⟩;rw[Ut] at hj;simp only[IN] at hj;exact hj.1
    refine au ?_;refine AW.block ?_;refine au ?_;refine WT.bN Tryz.func171 Z Z Z Z Z Z (J4 _ hL p q zo) (λv hv=>?_);subst hv;refine WT.DR hT Z Z Z Z Z ?_;refine WT.nil ?_;refine AW.block ?_;refine au ?_;refine AW.cond Z (λh2=>?_) (λh2=>?_)
    ·have hyt:y.term=false:=by simpa using h2
     rw[bZ,By (by simp[hyt])] at hyok;have hElen2:=hE2.size;refine au ?_;refine WT.bG hT hE Z Z Z Z Z Z Z Z Z zo (λrow hrow b2 off2 ro2 cs2 lx2 hb2 hp2 hrel2=>?_);obtain⟨a4,n4,c4,rfl,hrow2⟩:=hrel2;have hrl:=hE2.row row (gM hrow);refine au ?_;refine WT.bG hT hrow2 Z Z Z Z Z Z Z Z Z zo (λx hx b3 off3 ro3 cs3 lx3 hb3 hp3 hrel3=>?_);obtain rfl:lx3=_:=hrel3;have hxb:=hE2.bit row (gM hrow) x (gM hx);refine au ?_;refine WT.DI (x:=u2) (y:=x) Z Z Z Z Z Z zo zo ?_;refine au ?_;refine WT.EA (x:=2 ^ p*(2*q+1)) (y:=1) Z Z Z Z Z Z zo zo ?_
     refine WT.rp (x:=2 ^ p*(2*q+1)) Z Z Z Z Z Z zo zo ?_;refine au ?_;refine⟨(_,u2 ||| x),?_,sM,cy,fin x hxb λj=>?_⟩
     ·dsimp only;omega
     ·rw[Step,By (by simp[hyt])];constructor
      ·intro hb;exact⟨row,x,hrow,hx,hb⟩
      ·rintro⟨row',x',h3,h4,h5⟩;rw[hrow] at h3;cases h3;rw[hx] at h4;cases h4;exact h5
    ·have hyt:y.term=true:=by simpa using h2
     refine au ?_;refine WT.split 51 Z (λh3=>?_) (λh3=>?_)
     ·have h3:p<w.length:=by simp at h3;omega
      refine au ?_;refine WT.bG hT hw Z Z Z Z Z Z Z Z Z zo (λx hx b3 off3 ro3 cs3 lx3 hb3 hp3 hrel3=>?_);obtain rfl:lx3=_:=hrel3;refine au ?_;refine AW.cond Z (λh4=>?_) (λh4=>?_)
      ·have h4:x=y.n:=by simp at h4;omega
       have e2:1*2 ^ (p+1)<2 ^ (w.length+1):=by rw[SW];exact TT (by decide) zo
       refine au ?_;refine WT.AL (x:=1) (y:=p+1) Z Z Z Z Z Z zo zo ?_;refine WT.DI (x:=u2) (y:=1*2 ^ (p+1)) Z Z Z Z Z Z zo zo ?_;refine au ?_;refine WT.EA (x:=2 ^ p*(2*q+1)) (y:=1) Z Z Z Z Z Z zo zo ?_;refine WT.rp (x:=2 ^ p*(2*q+1)) Z Z Z Z Z Z zo zo ?_;refine au ?_;refine⟨(_,u2 ||| (1*2 ^ (p+1))),?_,sM,cy,fin _ e2 λj=>?_⟩
       ·dsimp only;omega
       ·rw[Step,If hyt,SW,Uf,hx,h4];simp;omega
      ·have h4:x≠y.n:=by intro e;subst e;simp at h4
       refine au ?_;refine WT.EA (x:=2 ^ p*(2*q+1)) (y:=1) Z Z Z Z Z Z zo zo ?_;refine WT.rp (x:=2 ^ p*(2*q+1)) Z Z Z Z Z Z zo zo ?_;refine au ?_;have:=fin 0 (SX _) (λj=>by rw[Step,If hyt,hx];simp[h4]);rw[Nat.or_zero] at this;refine⟨(_,u2),?_,sM,cy,this⟩;dsimp only;omega
     ·have h3:w.length<=p:=by simp at h3;omega
      refine au ?_;refine AW.cond Z (λh4=>(by cases h4)) (λh4=>?_);refine au ?_;refine WT.EA (x:=2 ^ p*(2*q+1)) (y:=1) Z Z Z Z Z Z zo zo ?_;refine WT.rp (x:=2 ^ p*(2*q+1)) Z Z Z Z Z Z zo zo ?_;refine au ?_;have:=fin 0 (SX _) (λj=>by rw[Step,If hyt,Ry h3];simp);rw[Nat.or_zero] at this;refine⟨(_,u2),?_,sM,cy,this⟩;dsimp only;omega
   ·have h0:u1=0:=by simp at h;omega
    refine AW.exit ?_;refine au ?_;refine⟨u2,sM,cy,hu2,λq=>?_⟩;rw[hu4,Rk,hyj];rw[show (some y).toList=[y] from rfl,Reads.snoc,h0];constructor
    ·rintro⟨p,h1,_,h3⟩;exact⟨p,(hs2 p).1 h1,h3⟩
    ·rintro⟨p,h1,h3⟩;exact⟨p,(hs2 p).2 h1,by simp,h3⟩
 ·intro s F1 hF1 hP;obtain⟨hs1,hs2⟩:=hP;rw[No zo] at hs2;refine au ?_;exact AW.ret ⟨_,[],⟨_,_,rfl,rfl,rfl⟩,bU,rfl,s,rfl,hs1,hs2⟩
mutual
inductive iB(g:af)(w:List Nat):Sym->Nat->Nat->Prop
 | term {t i:Nat}:w[i]?=some t->iB g w ⟨true,t⟩ i (i+1)
 | ym {r:bz} {i j:Nat}:r∈g.rules->gH g w r.right i j->iB g w ⟨false,r.left⟩ i j
inductive gH(g:af)(w:List Nat):List Sym->Nat->Nat->Prop
 | nil {i:Nat}:gH g w [] i i
 | cons {s:Sym} {l:List Sym} {i m j:Nat}:iB g w s i m->gH g w l m j->gH g w (s::l) i j
end
theorem IC{g:af}{w:List Nat}{t i j:Nat}:iB g w ⟨true,t⟩ i j↔w[i]?=some t/\j=i+1:=by
 constructor
 ·intro h;cases h with | term h=>exact⟨h,rfl⟩
 ·rintro⟨h,rfl⟩;exact .term h
theorem KK{g:af}{w:List Nat}{n i j:Nat}:iB g w ⟨false,n⟩ i j↔∃r∈g.rules,r.left=n/\gH g w r.right i j:=by
 constructor
 ·intro h;cases h with | ym h1 h2=>exact⟨_,h1,rfl,h2⟩
 ·rintro⟨r,h,rfl,h2⟩;exact .ym h h2
theorem nt{g:af}{w:List Nat}{i j:Nat}:gH g w [] i j↔i=j:=by
 constructor
 ·intro h;cases h;rfl
 ·rintro rfl;exact .nil
theorem lG{g:af}{w:List Nat}{s:Sym}{l:List Sym}{i j:Nat}:gH g w (s::l) i j↔∃m,iB g w s i m/\gH g w l m j:=by
 constructor
 ·intro h;cases h with | cons h1 h2=>exact⟨_,h1,h2⟩
 ·rintro⟨m,h1,h2⟩;exact .cons h1 h2
def bit(E:List (List Nat))(n i j:Nat):Prop:=∃row x,E[n]?=some row/\row[i]?=some x/\x.testBit j=true
def xX(g:af)(w:List Nat)(E:List (List Nat)):Prop:=∀n i j,bit E n i j->iB g w ⟨false,n⟩ i j
def qk(w:List Nat)(E:List (List Nat))(r:bz)(i:Nat):Prop:=∀j,Reads w E r.right i j->bit E r.left i j
def kU(g:af)(w:List Nat)(E:List (List Nat)):Prop:=∀r∈g.rules,∀i,i<=w.length->qk w E r i
structure lU(g:af)(w:List Nat)(E:List (List Nat)):Prop where
 ok:ju g.ak w.length E
 iff:∀n i j,i<=w.length->(bit E n i j↔iB g w ⟨false,n⟩ i j)
theorem tF{g:af}{w:List Nat}{E:List (List Nat)}(h:xX g w E):∀{l:List Sym} {i j:Nat},Reads w E l i j->gH g w l i j
 | [],i,j,h1=>by rw[show i=j from h1];exact .nil
 | s::l,i,j,h1=>by
  obtain⟨m,h2,h3⟩:=h1;refine .cons ?_ (tF h h3);obtain⟨b,n⟩:=s;unfold Step at h2;cases b with
  | true=>rw[If rfl] at h2;obtain⟨h4,rfl⟩:=h2;exact .term h4
  | false=>rw[By (by simp)] at h2;exact h n i m h2
theorem uu{g:af}{w:List Nat}{E:List (List Nat)}(hE:ju g.ak w.length E)(h:kU g w E) :
  (∀{s:Sym} {i j:Nat},iB g w s i j->i<=w.length->Step w E s i j/\j<=w.length):=by
 intro s i j h1;refine iB.rec (motive_1:=λs i j _=>i<=w.length->Step w E s i j/\j<=w.length) (motive_2:=λl i j _=>i<=w.length->Reads w E l i j/\j<=w.length) ?_ ?_ ?_ ?_ h1
 ·intro t i h2 h3;have:=(gS h2).1;exact⟨by rw[Step,If rfl];exact⟨h2,rfl⟩,by omega⟩
 ·intro r i j hr h2 ih hi;obtain⟨h3,h4⟩:=ih hi;exact⟨by rw[Step,By (by simp)];exact h r hr i hi j h3,h4⟩
 ·intro i hi;exact⟨rfl,hi⟩
 ·intro s l i m j h2 h3 ih1 ih2 hi;obtain⟨h4,h5⟩:=ih1 hi;obtain⟨h6,h7⟩:=ih2 h5;exact⟨⟨m,h4,h6⟩,h7⟩
theorem lU.of{g:af}{w:List Nat}{E:List (List Nat)}(hE:ju g.ak w.length E)(h1:xX g w E)(h2:kU g w E):lU g w E:=
 ⟨hE,λn i j hi=>⟨h1 n i j,λh=>by
  have:=(uu hE h2 h hi).1;rw[Step,By (by simp)] at this;exact this⟩⟩
def total(E:List (List Nat)):Nat:=(E.map List.sum).sum
theorem rJ:∀{l:List Nat} {i x y:Nat},l[i]?=some x->(l.set i y).sum+x=l.sum+y
 | [],i,x,y,h=>by simp at h
 | a::l,0,x,y,h=>by simp at h;subst h;simp;omega
 | a::l,i+1,x,y,h=>by
  have:=rJ (l:=l) (i:=i) (x:=x) (y:=y) (by simpa using h);simp only[TN,Sy];omega
theorem zD{b:Nat}:∀{l:List Nat},(∀x∈l,x<=b)->l.sum<=l.length*b
 | [],_=>by simp
 | a::l,h=>by
  have h1:=h a me;have h2:=zD (b:=b) (l:=l) (λx hx=>h x (I9 _ hx));simp only[Sy,RG,R3,SW];omega
theorem Ib{n len:Nat}{E:List (List Nat)}(h:ju n len E):total E<=n*((len+1)*2 ^ (len+1)):=by
 unfold total;rw[<-h.size,<-Rq (f:=List.sum)];refine zD λx hx=>?_;obtain⟨row,hr,rfl⟩:=Rg.1 hx;rw[<-h.row row hr];refine zD λx hx=>?_;rw[h.row row hr];exact R9 (h.bit row hr x hx)
def put(E:List (List Nat))(n i x:Nat):List (List Nat):=match E[n]? with
 | some row=>E.set n (row.set i x)
 | none=>E
theorem put_eq{E:List (List Nat)}{n i x:Nat}{row:List Nat}(h:E[n]?=some row):put E n i x=E.set n (row.set i x):=by unfold put;rw[h]
theorem Fs{E:List (List Nat)}{n i x y:Nat}{row:List Nat}(h:E[n]?=some row)(h2:row[i]?=some x)(h3:x<y):total E<total (put E n i y):=by
 rw[put_eq h];unfold total;rw[SA];have h4:=rJ (l:=E.map List.sum) (i:=n) (x:=row.sum) (y:=(row.set i y).sum) (by rw[Re,h];rfl);have h5:=rJ (y:=y) h2;omega
theorem ju.put{n len:Nat}{E:List (List Nat)}(h:ju n len E){k i y:Nat}{row:List Nat}(h1:E[k]?=some row)(hy:y<2 ^ (len+1)):ju n len (put E k i y):=by
 rw[put_eq h1];have hrow:=gM h1;refine⟨by simp[h.size],λr hr=>?_,λr hr x hx=>?_⟩
 ·rcases SN hr with hr | rfl
  ·exact h.row r hr
  ·simp[h.row row hrow]
 ·rcases SN hr with hr | rfl
  ·exact h.bit r hr x hx
  ·rcases SN hx with hx | rfl
   ·exact h.bit row hrow x hx
   ·exact hy
theorem Kt{E:List (List Nat)}{k i y x:Nat}{row:List Nat}(h1:E[k]?=some row)(h2:row[i]?=some x){n' i' j':Nat} :
  bit (put E k i y) n' i' j'↔if n'=k/\i'=i then y.testBit j'=true else bit E n' i' j':=by
 rw[put_eq h1];have hk:k<E.length:=(gS h1).1;have hi:i<row.length:=(gS h2).1;unfold bit;by_cases hn:n'=k
 ·subst hn;simp only[RA hk,true_and];by_cases hi':i'=i
  ·subst hi';simp only[Sv];constructor
   ·rintro⟨r,z,h3,h4,h5⟩;cases h3;rw[RA hi] at h4;cases h4;exact h5
   ·intro h5;exact⟨_,y,rfl,by rw[RA hi],h5⟩
  ·simp only[hi',SL];constructor
   ·rintro⟨r,z,h3,h4,h5⟩;cases h3;rw[RO zo] at h4;exact⟨row,z,h1,h4,h5⟩
   ·rintro⟨r,z,h3,h4,h5⟩;rw[h1] at h3;cases h3;exact⟨_,z,rfl,by rw[RO zo];exact h4,h5⟩
 ·simp only[hn,false_and,SL];rw[RO zo]
structure ES where
 E:List (List Nat)
 bs:List (Nat×aD)
 again:Bool
structure MS where
 k:Nat
 vs:List Value
 bs:List (Nat×aD)
theorem mj(l:Nat):(bif l==0 then 0 else 1)=if l=0 then 0 else 1:=by cases l<;>rfl
theorem Ds{α:Type}(x y:α)(bs rest:List α):(x::((y::bs)++rest)).Perm ((y::(bs++[x]))++rest):=by
 simp only[Tl,RY];refine(List.Perm.swap y x _).trans (List.Perm.cons y ?_);have:(x::bs++rest).Perm (bs++x::rest):=S0.symm;simpa using this
theorem KZ{α:Type}(vs:List α)(k:Nat)(z x:α)(hk:0<k):(vs++List.replicate k z).set vs.length x=(vs++[x])++List.replicate (k-1) z:=by
 obtain⟨k,rfl⟩:∃k',k=k'+1:=⟨k-1,by omega⟩;rw[Ur _ _ (AS _),SV,TE,Tq];simp
theorem FL(F:ar)(hL:Laid F)(g:af)(hg:Valid g){a:Option Addr}{m c:Nat}(hr:bw bK F a m c g.rules){b:Option Addr}{n d:Nat}{w:List Nat}(hw:bw eS F b n d w)(hw1:w.length<=30) :
  Abs.Spec CC 64 [.agg ⟨ai g a m c⟩,.slice b n d] F [] λF' v o=>o=[]/\∃a c E,v=.slice a g.ak c/\bw (cg Fv) F' a g.ak c E/\lU g w E:=by
 unfold ai;have hrlen:=hr.len;have hwlen:=hw.len;have hgr:=hg.range.rules;have hgn:=hg.range.ak;refine Abs.Spec.fn (n:=73) Tryz.func64 rfl rfl λown=>?_;refine AW.seq (AW.du ?_);refine WT.cC Z Z Z Z Z Z (λi2 hi2=>?_);refine au ?_;refine WT.nD (l:=g.ak) hT Z Z Z Z Z Z Z Z Z Z Z Z kq (λio hio=>?_);rw[mj];refine au ?_;refine AW.range (S:=MS) (λ_=>[]) (λs=>((io,.cells false (s.vs++List.replicate s.k (.slice none 0 0)))::s.bs)::[(i2,.cells false [.int .i64 g.ae,.int .i64 g.ak,.int .i64 g.start,.slice a m c])]::own)
  (λj s G=>s.k=g.ak-j/\Abs.Rows yM s.vs s.bs (List.replicate j (List.replicate (w.length+1) 0))) g.ak ⟨g.ak,[],[]⟩ Z Z Z Z Z Z Z Z Z zo rfl rfl (λ_=>rfl) (λ_=>rfl) sM (ah.flat (Rc _)) ⟨rfl,Abs.Rows.nil⟩ ?_ ?_
 ·intro j s F1 hF1 hj hP;obtain⟨hk,hR⟩:=hP;have hvl:=hR.len.1;rw[Sa] at hvl;refine au ?_;refine WT.nD (l:=n+1) hT Z Z Z Z Z Z Z Z Z Z Z Z kq (λir hir=>?_);rw[mj];refine WT.dL (j:=j) (s:=1) hT Z Z Z Z Z Z Z Z Z hj ?_;refine WT.storeAt hT 1 0 Z Z Z Z Z Z Z Z Z Z (by simp;omega) Z Z ?_;refine au ?_;refine⟨⟨g.ak-(j+1),s.vs++[.slice (some ⟨ir,0,none⟩) (n+1) (if n+1=0 then 0 else 1)],s.bs++[(ir,.cells false (List.replicate (n+1) (.int .u32 0)))]⟩,sM,ah.flat ?_,rfl,?_⟩
  ·dsimp only;rw[show 0+j*1=s.vs.length by omega,KZ _ _ _ _ zo,show s.k-1=g.ak-(j+1) by omega];simp only[SC];exact Ds _ _ _ _
  ·rw[show List.replicate (j+1) (List.replicate (w.length+1) 0)=List.replicate j (List.replicate (w.length+1) 0)++[List.replicate (w.length+1) 0] from List.replicate_succ'];have:=hR.snoc (K:=yM) (id:=ir) (row:=List.replicate (w.length+1) 0) (c:=if n+1=0 then 0 else 1) (by simp);rw[Sa,TO,<-hwlen] at this;rw[<-hwlen];exact this
 ·intro s F1 hF1 hP;obtain⟨hk,hR0⟩:=hP;have hk0:s.k=0:=by omega
  have hr1:=hr.mono hF1;have hw1':=hw.mono hF1;have hL1:=hL.mono hF1;have hE0:ju g.ak w.length (List.replicate g.ak (List.replicate (w.length+1) 0)):=by
   refine⟨by simp,λr hr=>?_,λr hr x hx=>?_⟩
   ·rw[Sl hr];simp
   ·rw[Sl hr] at hx;rw[Sl hx];exact SX _
  have hS0:xX g w (List.replicate g.ak (List.replicate (w.length+1) 0)):=by
   rintro n i j ⟨row,x,h1,h2,h3⟩;rw[Sl (gM h1)] at h2;rw[Sl (gM h2)] at h3;simp at h3
  refine au ?_;refine AW.block ?_;refine AW.cK (S:=ES) (λs=>[(7,.bool s.again)]) (λt=>((io,.cells false (s.vs++List.replicate s.k (.slice none 0 0)))::t.bs)::[(i2,.cells false [.int .i64 g.ae,.int .i64 g.ak,.int .i64 g.start,.slice a m c])]::own)
   (λt G=>Abs.Rows yM s.vs t.bs t.E/\ju g.ak w.length t.E/\xX g w t.E/\(t.again=false->kU g w t.E)) (λt=>if t.again=true then 1+(g.ak*((w.length+1)*2 ^ (w.length+1))-total t.E) else 0) ⟨_,s.bs,true⟩
   sM oR ⟨hR0,hE0,hS0,λh=>(by cases h)⟩ ?_
  intro t F2 hF2 hP;obtain⟨hR,hE,hS,hC⟩:=hP;have hr2:=hr1.mono hF2;refine au ?_;refine AW.cond Z (λh=>?_) (λh=>?_)
  ·refine au ?_;refine AW.block ?_;refine au ?_;refine AW.range (S:=ES) (λs=>[(7,.bool s.again)]) (λt=>((io,.cells false (s.vs++List.replicate s.k (.slice none 0 0)))::t.bs)::[(i2,.cells false [.int .i64 g.ae,.int .i64 g.ak,.int .i64 g.start,.slice a m c])]::own)
    (λk u G=>Abs.Rows yM s.vs u.bs u.E/\ju g.ak w.length u.E/\xX g w u.E/\total t.E<=total u.E/\(u.again=true->total t.E<total u.E)/\(u.again=false->∀r∈g.rules.take k,∀i,i<=w.length->qk w u.E r i)) m ⟨t.E,t.bs,false⟩
    Z Z Z Z Z Z Z Z Z zo rfl rfl (λ_=>rfl) (λ_=>rfl) sM oR ⟨hR,hE,hS,AS _,λh=>(by cases h),by simp⟩ ?_ ?_
   ·intro k u F3 hF3 hk hP;obtain⟨hR,hE,hS,hT1,hT2,hC⟩:=hP;have hr3:=hr2.mono hF3;refine au ?_;refine WT.bG hT hr3 Z Z Z Z Z Z Z Z Z zo (λr hrk b1 off ro cs lx hb hp1 hrel=>?_);obtain⟨b2,n2,d2,rfl,hr4⟩:=hrel;obtain⟨hrl,hrr,hrs⟩:=hg.right r (gM hrk);refine au ?_;refine WT.aI hT Z Z Z Z Z Z (λi9 hi9=>?_);refine au ?_
    refine AW.range (S:=ES) (λs=>[(7,.bool s.again)]) (λt=>[(i9,.cells false [.int .i64 r.left,.slice b2 n2 d2])]::((io,.cells false (s.vs++List.replicate s.k (.slice none 0 0)))::t.bs)::[(i2,.cells false [.int .i64 g.ae,.int .i64 g.ak,.int .i64 g.start,.slice a m c])]::own)
     (λi u G=>Abs.Rows yM s.vs u.bs u.E/\ju g.ak w.length u.E/\xX g w u.E/\total t.E<=total u.E/\(u.again=true->total t.E<total u.E)/\(u.again=false->(∀r∈g.rules.take k,∀i,i<=w.length->qk w u.E r i)/\∀i',i'<i->qk w u.E r i')) (n+1) u
     Z Z Z Z Z Z Z Z Z zo rfl rfl (λ_=>rfl) (λ_=>rfl) sM oR ⟨hR,hE,hS,hT1,hT2,λh=>⟨hC h,by omega⟩⟩ ?_ ?_
    ·intro i u F4 hF4 hi hP;obtain⟨hR,hE,hS,hT1,hT2,hC⟩:=hP;have hw4:=((hw1'.mono hF2).mono hF3).mono hF4;have hL4:=((hL1.mono hF2).mono hF3).mono hF4;have hr5:=hr4.mono hF4;have hElen:=hE.size;have pwl:2 ^ (w.length+1)<=4294967296:=Rz (j:=32) (by decide) zo;obtain⟨row,hrow⟩:∃row,u.E[r.left]?=some row:=⟨_,gE zo⟩;have hrowlen:=hE.row row (gM hrow);obtain⟨x,hx⟩:∃x,row[i]?=some x:=⟨_,gE zo⟩;have hxb:=hE.bit row (gM hrow) x (gM hx);obtain⟨id,cc,hvs,hbs,hcc⟩:=hR.at r.left row hrow;have hvl:=hR.len.1
     have hcell:(row.map yM.cell)[0+i*1]?=some (.int .u32 x):=by rw[Rn,RQ,Re,hx];rfl
     have hout:(s.vs++List.replicate s.k (Value.slice none 0 0))[0+r.left*1]?=some (.slice (some ⟨id,0,none⟩) row.length cc):=by
      rw[Rn,RQ,Rj zo];exact hvs
     have harr:∀G,(∀i b,(i,b)∈((io,aD.cells false (s.vs++List.replicate s.k (Value.slice none 0 0)))::u.bs)->G i=some b)->bw (cg Fv) G (some ⟨io,0,none⟩) g.ak (if g.ak=0 then 0 else 1) u.E:=by
      intro G hBG;have:=Abs.Rows.arr (K:=yM) (R:=Fv) rfl (λ_ _=>rfl) (F:=G) (o:=io) (c:=if u.E.length=0 then 0 else 1) (ro:=false) hR (λi b hm=>hBG i b (I9 _ hm)) rfl (by rw[hBG io _ me,hk0];simp);rw[hElen] at this;exact this
     refine au ?_;refine WT.eK 1 Tryz.func118 Z Z Z Z Z Z Z (λG hG hBG=>DV G (hL4.mono hG) (t:=g.ae) (hw4.mono hG) (harr G hBG) (hr5.mono hG) hE hrs hw1 zo i zo) (λv hv=>?_);obtain⟨y,rfl,hy1,hy2⟩:=hv;have hxy:x ||| y<2 ^ (w.length+1):=Nat.or_lt_two_pow hxb hy1
     refine au ?_;refine WT.dL (j:=r.left) (s:=1) hT Z Z Z Z Z Z Z Z Z hrl ?_;refine WT.loadAt hT 1 Z Z Z Z Z Z me Z Z hout ?_;refine au ?_;refine WT.dL (j:=i) (s:=1) hT Z Z Z Z Z Z Z Z Z zo ?_;refine WT.loadAt hT 1 Z Z Z Z Z Z (I9 _ (gM hbs)) Z Z hcell ?_;refine WT.wo (x:=y) (y:=x) Z Z Z Z Z Z zo zo ?_;refine au ?_;refine AW.cond Z (λh=>?_) (λh=>?_)
     ·have hne:andNot y x≠0:=by intro e;rw[e] at h;simp at h
      refine au ?_;refine WT.dL (j:=r.left) (s:=1) hT Z Z Z Z Z Z Z Z Z hrl ?_;refine WT.loadAt hT 1 Z Z Z Z Z Z me Z Z hout ?_;refine au ?_;refine WT.dL (j:=i) (s:=1) hT Z Z Z Z Z Z Z Z Z zo ?_;refine WT.loadAt hT 1 Z Z Z Z Z Z (I9 _ (gM hbs)) Z Z hcell ?_;refine au ?_;refine WT.DI (x:=x) (y:=y) Z Z Z Z Z Z zo zo ?_;refine WT.dL (j:=i) (s:=1) hT Z Z Z Z Z Z Z Z Z zo ?_;refine WT.storeAt hT 1 (r.left+1) Z Z Z Z Z Z hbs Z Z Z (by simp;omega) Z Z ?_;refine au ?_;have hlt:x<x ||| y:=by
       rcases Rw x (x ||| y) with h1 | h1
       ·exact h1
       ·exfalso;have h2:x ||| y=x:=Nat.le_antisymm h1 Nat.left_le_or
        refine hne ((tM zo zo).2 λj hj=>?_);rw[<-h2,Nat.testBit_or,hj];simp
      have hT3:=Fs (y:=x ||| y) hrow hx hlt
      refine⟨⟨put u.E r.left i (x ||| y),u.bs.set r.left (id,.cells false ((row.set i (x ||| y)).map yM.cell)),true⟩,sM,ah.flat ?_,?_,hE.put hrow hxy,?_,by dsimp only;omega,λ_=>by dsimp only;omega,λh=>(by cases h)⟩
      ·rw[SA];rw[show 0+i*1=i by omega];exact Rc _
      ·rw[put_eq hrow];exact hR.set r.left row (row.set i (x ||| y)) id hrow (by simp) hbs
      ·intro n' i' j' hb';rw[Kt hrow hx] at hb';split at hb'
       ·rename_i he;obtain⟨rfl,rfl⟩:=he;rw[Nat.testBit_or,Sr] at hb';rcases hb' with hb' | hb'
        ·exact hS _ _ _ ⟨row,x,hrow,hx,hb'⟩
        ·exact .ym (gM hrk) (tF hS ((hy2 j').1 hb'))
       ·exact hS _ _ _ hb'
     ·have he:andNot y x=0:=by simp at h;omega
      have he2:=(tM zo zo).1 he;refine au ?_;refine⟨u,sM,cy,hR,hE,hS,hT1,hT2,λh=>⟨(hC h).1,λi' hi'=>?_⟩⟩;rcases Rw i' i with h3 | h3
      ·exact(hC h).2 i' h3
      ·have:i'=i:=by omega
       subst this;intro j hj;exact⟨row,x,hrow,hx,he2 j ((hy2 j).2 hj)⟩
    ·intro u F4 hF4 hP;obtain⟨hR,hE,hS,hT1,hT2,hC⟩:=hP;refine⟨u,sM,cy,hR,hE,hS,hT1,hT2,λh=>jh hrk (hC h).1 λi hi=>(hC h).2 i zo⟩
   ·intro u F3 hF3 hP;obtain⟨hR,hE,hS,hT1,hT2,hC⟩:=hP;rw[No zo] at hC;refine⟨u,?_,sM,cy,hR,hE,hS,hC⟩;have:=Ib hE;rw[h,If rfl];split
    ·rename_i h4;have:=hT2 h4;omega
    ·omega
  ·refine AW.exit ?_;refine AW.aw 0 Z Z (λF3 hF3 hB3=>?_);have harr:bw (cg Fv) F3 (some ⟨io,0,none⟩) g.ak (if g.ak=0 then 0 else 1) t.E:=by
    have hElen:=hE.size;have:=Abs.Rows.arr (K:=yM) (R:=Fv) rfl (λ_ _=>rfl) (F:=F3) (o:=io) (c:=if t.E.length=0 then 0 else 1) (ro:=false) hR (λi b hm=>hB3 i b (I9 _ hm)) rfl (by rw[hB3 io _ me,hk0];simp);rw[hElen] at this;exact this
   refine au ?_;exact AW.ret ⟨_,[],⟨_,_,rfl,rfl,rfl⟩,bU,rfl,_,_,t.E,rfl,harr,lU.of hE hS (hC h)⟩
theorem C2(F:ar){a b:Option Addr}{m n c d:Nat}{xs ys:List Nat}(hx:bw eS F a m c xs)(hy:bw eS F b n d ys)(hm:m<=1000000) :
  Abs.Spec CC 12 [.slice a m c,.slice b n d] F [] λ_ v o=>o=[]/\v=.bool (decide (xs=ys)):=by
 refine Abs.Spec.fn (n:=26) Tryz.func12 rfl rfl λown=>?_;have hxlen:=hx.len;have hylen:=hy.len;refine au ?_;refine AW.cond Z (λhc=>?_) (λhc=>?_)
 ·refine au ?_;refine AW.ret ⟨_,[],⟨_,_,rfl,rfl,rfl⟩,bU,rfl,?_⟩;have:xs≠ys:=by rintro rfl;simp at hc;omega
  simp[this,ei]
 ·have hmn:m=n:=by simp at hc;omega
  refine au ?_;refine AW.range (S:=Unit) (λ_=>[]) (λ_=>_) (λj _ G=>xs.take j=ys.take j) m () Z Z Z Z Z Z Z Z Z zo Z Z (λ_=>rfl) (λ_=>rfl) sM oR (by simp) ?_ ?_
  ·intro j _ F1 hF1 hj hP;have hx1:=hx.mono hF1;have hy1:=hy.mono hF1;refine au ?_;refine WT.bG hT hx1 Z Z Z Z Z Z Z Z Z zo (λx hxj b1 off ro cs lx hb hp1 hrel=>?_);obtain rfl:lx=_:=hrel;refine au ?_;refine WT.bG hT hy1 Z Z Z Z Z Z Z Z Z zo (λy hyj b2 off2 ro2 cs2 ly hb2 hp2 hrel2=>?_);obtain rfl:ly=_:=hrel2;refine au ?_;refine AW.cond Z (λhc=>?_) (λhc=>?_)
   ·refine au ?_;refine AW.ret ⟨_,[],⟨_,_,rfl,rfl,rfl⟩,bU,rfl,?_⟩;have:xs≠ys:=by
     rintro rfl;rw[hxj] at hyj;cases hyj;simp at hc
    simp[this,ei]
   ·have hc:x=y:=by simp at hc;omega
    refine au ?_;refine⟨(),sM,cy,?_⟩;show xs.take (j+1)=ys.take (j+1);rw[Rk,Rk,hP,hxj,hyj,hc]
  ·intro _ F1 hF1 hP;rw[No zo,No zo] at hP;refine au ?_;refine AW.ret ⟨_,[],⟨_,_,rfl,rfl,rfl⟩,bU,rfl,?_⟩;simp[hP,ei]
theorem xz(x p:Nat):(x / 2 ^ p &&& 1)=if x.testBit p=true then 1 else 0:=by
 rw[Nat.and_one_is_mod,<-Nat.shiftRight_eq_div_pow];have:=Nat.testBit_eq_decide_div_mod_eq (x:=x) (i:=p);rw[Nat.shiftRight_eq_div_pow];rw[this];simp only[RS];rcases Nat.mod_two_eq_zero_or_one (x / 2 ^ p) with h | h<;>simp[h]
noncomputable def oQ(g:af)(w:List Nat)(n i j:Nat):Bool:=@decide (iB g w ⟨false,n⟩ i j) (Classical.propDecidable _)
theorem Ci{g:af}{w:List Nat}{n i j:Nat}:oQ g w n i j=true↔iB g w ⟨false,n⟩ i j:=by unfold oQ;exact @decide_eq_true_iff _ (Classical.propDecidable _)
theorem Ao(F:ar)(hL:Laid F)(g:af)(hg:Valid g){a:Option Addr}{m c:Nat}(hr:bw bK F a m c g.rules){b:Option Addr}{n d:Nat}{w:List Nat}(hw:bw eS F b n d w)(hw1:w.length<=12)(hw2:∀t∈w,t<g.ae) :
  Abs.Spec CC 62 [.agg ⟨ai g a m c⟩,.slice b n d] F [] λ_ v o=>o=[]/\v=.tuple ⟨[.bool (oQ g w g.start 0 w.length),.int .i64 0]⟩:=by
 unfold ai;have hwlen:=hw.len;have hgs:=hg.range.start;refine Abs.Spec.fn (n:=27) Tryz.func62 rfl rfl λown=>?_;refine AW.seq (AW.du ?_);refine WT.cC Z Z Z Z Z Z (λi1 hi1=>?_);refine au ?_;refine WT.bN Tryz.func88 Z Z Z Z Z Z (A7 _ g hg hr hw hw1 hw2) (λv hv=>?_);subst hv;refine au ?_;refine AW.cond Z (λh=>(by cases h)) (λh=>?_);refine au ?_;refine AW.draw (ps:=[(4,2),(10,2)]) Z Z ?_;refine au ?_;refine WT.dH Tryz.func64 Z Z Z Z Z Z (FL _ hL g hg hr hw zo) (λF1 v hF1 hv=>?_);obtain⟨ea,ec,E,rfl,hE,hE2⟩:=hv;have hElen:=hE2.ok.size
 refine au ?_;refine WT.bG hT hE Z Z Z Z Z Z Z Z Z zo (λrow hrow b1 off ro cs lx hb hp1 hrel=>?_);obtain⟨a2,n2,c2,rfl,hrow2⟩:=hrel;have hrl:=hE2.ok.row row (gM hrow);refine au ?_;refine WT.bG (j:=0) hT hrow2 Z Z Z Z Z Z Z Z Z zo (λx hx b3 off3 ro3 cs3 lx3 hb3 hp3 hrel3=>?_);obtain rfl:lx3=_:=hrel3;have hxb:=hE2.ok.bit row (gM hrow) x (gM hx);have pwl:2 ^ (w.length+1)<=4294967296:=Rz (j:=32) (by decide) zo;refine au ?_;refine WT.H4 (x:=x) (y:=n) Z Z Z Z Z Z zo ?_
 refine WT.rp (x:=x / 2 ^ n) (y:=1) Z Z Z Z Z Z (Uj (Uu _ _) zo) (by decide) ?_;refine au ?_;refine⟨oF,?_⟩;refine AW.ret ⟨_,[],⟨_,_,rfl,⟨_,_,rfl,rfl,rfl⟩,rfl⟩,bU,rfl,?_⟩;have e:oQ g w g.start 0 w.length=x.testBit n:=by
  rw[SH,Ci,<-hE2.iff _ _ _ zo,hwlen];constructor
  ·rintro⟨row',x',h3,h4,h5⟩;rw[hrow] at h3;cases h3;rw[hx] at h4;cases h4;exact h5
  ·intro hb;exact⟨row,x,hrow,hx,hb⟩
 rw[xz,e];cases x.testBit n<;>rfl
structure NS where
 xs:List Nat
 a:Option Addr
 m:Nat
 c:Nat
 B:List (Nat×aD)
theorem Cz{g:af}{w:List Nat}:∀{s:Sym} {i j:Nat},iB g w s i j->i<=j:=by
 intro s i j h;refine iB.rec (motive_1:=λs i j _=>i<=j) (motive_2:=λl i j _=>i<=j) ?_ ?_ ?_ ?_ h
 ·intro t i _;omega
 ·intro r i j _ _ ih;exact ih
 ·intro i;omega
 ·intro s l i m j _ _ ih1 ih2;omega
theorem zO{g:af}{w:List Nat}:∀{l:List Sym} {i j:Nat},gH g w l i j->i<=j
 | [],i,j,h=>by rw[nt.1 h];omega
 | s::l,i,j,h=>by
  obtain⟨m,h1,h2⟩:=lG.1 h;have:=Cz h1;have:=zO h2;omega
theorem A1{g:af}{w:List Nat}{a b:Nat}(hb:b<=w.length):∀{s:Sym} {i j:Nat},iB g w s i j->a<=i->j<=b->iB g ((w.take b).drop a) s (i-a) (j-a):=by
 intro s i j h;refine iB.rec (motive_1:=λs i j _=>a<=i->j<=b->iB g ((w.take b).drop a) s (i-a) (j-a)) (motive_2:=λl i j _=>a<=i->j<=b->gH g ((w.take b).drop a) l (i-a) (j-a)) ?_ ?_ ?_ ?_ h
 ·intro t i h2 hi hj;have:i+1-a=i-a+1:=by omega
  rw[this];refine .term ?_;rw[RI,RD,If zo,show a+(i-a)=i by omega];exact h2
 ·intro r i j hr _ ih hi hj;exact .ym hr (ih hi hj)
 ·intro i _ _;exact .nil
 ·intro s l i m j h1 h2 ih1 ih2 hi hj;have h3:=Cz h1;have h4:=zO h2;exact .cons (ih1 hi zo) (ih2 zo hj)
def aB(xs ys:List Bool):List Bool:=List.zipWith (λa b=>a||b) xs ys
def o5(j:Nat)(xs ys:List Bool):List Bool:=aB (xs.take j) (ys.take j)++xs.drop j
theorem yq(xs ys:List Bool):o5 0 xs ys=xs:=by simp[o5,aB]
theorem Bu{xs ys:List Bool}(h:xs.length=ys.length):o5 xs.length xs ys=aB xs ys:=by
 unfold o5;rw[No (AS _),No zo,Su (AS _),R0]
theorem uV{j:Nat}{xs ys:List Bool}(h:xs.length=ys.length):(o5 j xs ys).length=xs.length:=by
 unfold o5 aB;simp;omega
theorem rM{j:Nat}{xs ys:List Bool}{x:Bool}(h:xs.length=ys.length)(hx:xs[j]?=some x):(o5 j xs ys)[j]?=some x:=by
 have hj:=(gS hx).1;unfold o5 aB;rw[Rs (by simp;omega)];simp;rw[<-hx];congr 1;omega
theorem sX{j:Nat}{xs ys:List Bool}{x y:Bool}(h:xs.length=ys.length)(hx:xs[j]?=some x)(hy:ys[j]?=some y):o5 (j+1) xs ys=(o5 j xs ys).set j (x||y):=by
 have hj:=(gS hx).1;have hl:(aB (xs.take j) (ys.take j)).length=j:=by unfold aB;simp;omega
 unfold o5;rw[Rk,Rk,hx,hy];unfold aB;rw[List.zipWith_append (by simp;omega)];have hd:xs.drop j=x::xs.drop (j+1):=by
  rw[RX hj];rw[gE hj] at hx;rw[AT hx]
 rw[hd];unfold aB at hl;rw[Ur _ _ zo,hl,SV];simp
structure US where
 cur:List Bool
 ch:Bool
theorem pM(F:ar){it:Nat}{xs ys:List Bool}{b:Option Addr}{m n c d:Nat}(hm:m=xs.length)(hy:bw cd F b n d ys)(hlen:xs.length=ys.length)(hn:n<=1000000) :
  Abs.Spec CC 134 [.slice (some ⟨it,0,none⟩) m c,.slice b n d] F [[(it,.cells false (xs.map aL.cell))]] λ_ v o=>∃B',o=[B']/\B'=[(it,.cells false ((aB xs ys).map aL.cell))]/\v=.bool (decide (aB xs ys≠xs)):=by
 have hylen:=hy.len;refine Abs.Spec.fn (n:=28) Tryz.func134 rfl rfl λown=>?_;refine au ?_;refine AW.range (S:=US) (λs=>[(5,.bool s.ch)]) (λs=>[(it,.cells false (s.cur.map aL.cell))]::own) (λj s G=>s.cur=o5 j xs ys/\s.ch=decide (s.cur≠xs)) n ⟨xs,false⟩ Z Z Z Z Z Z Z Z Z zo Z Z (λ_=>rfl) (λ_=>rfl) sM oR ⟨(yq xs ys).symm,by simp⟩ ?_ ?_
 ·intro j s F1 hF1 hj hP;obtain⟨hcur,hch⟩:=hP;have hy1:=hy.mono hF1;obtain⟨x,hx⟩:∃x,xs[j]?=some x:=⟨_,gE zo⟩;have hcl:s.cur.length=xs.length:=by rw[hcur];exact uV hlen
  have hcx:(s.cur.map aL.cell)[0+j*1]?=some (.bool x):=by rw[Rn,RQ,Re,hcur,rM hlen hx];rfl
  refine au ?_;refine WT.bG hT hy1 Z Z Z Z Z Z Z Z Z zo (λy hyj b1 off ro cs lx hb hp hrel=>?_);obtain rfl:lx=_:=hrel;have hnext:=sX hlen hx hyj;rw[<-hcur] at hnext;have same:(x||y)=x->s.cur.set j (x||y)=s.cur:=by
   intro e;rw[e];apply R5;intro i;by_cases hi:i=j
   ·subst hi;rw[RA zo,hcur,rM hlen hx]
   ·rw[RO zo]
  refine au ?_;refine WT.split 16 Z (λh=>?_) (λh=>?_)
  ·refine au ?_;refine WT.dL (j:=j) (s:=1) hT Z Z Z Z Z Z Z Z Z zo ?_;refine WT.loadAt hT 0 Z Z Z Z Z Z me Z Z hcx ?_;refine au ?_;refine AW.cond Z (λh2=>?_) (λh2=>?_)
   ·have h2:x=false:=by simpa using h2
    refine au ?_;refine WT.dL (j:=j) (s:=1) hT Z Z Z Z Z Z Z Z Z zo ?_;refine WT.storeAt hT 0 0 Z Z Z Z Z Z Z Z Z Z (by simp;omega) Z Z ?_;refine au ?_;refine⟨⟨s.cur.set j true,true⟩,sM,ah.flat ?_,?_,?_⟩
    ·dsimp only;rw[SA,Rn,RQ];exact Rc _
    ·rw[hnext,h,h2];rfl
    ·have:s.cur.set j true≠xs:=by
      intro e;have this:(s.cur.set j true)[j]?=xs[j]?:=by rw[e]
      rw[RA zo,hx,h2] at this;cases this
     simp[this]
   ·have h2:x=true:=by simpa using h2
    refine au ?_;refine⟨s,sM,cy,?_,hch⟩;rw[hnext,same (by rw[h2];rfl)]
  ·refine au ?_;refine AW.cond Z (λh2=>(by cases h2)) (λh2=>?_);refine au ?_;refine⟨s,sM,cy,?_,hch⟩;rw[hnext,same (by rw[h];simp)]
 ·intro s F1 hF1 hP;obtain⟨hcur,hch⟩:=hP;rw[show n=xs.length by omega,Bu hlen] at hcur;refine au ?_;refine AW.ret ⟨_,[_],⟨_,_,rfl,rfl,rfl⟩,RM _,_,rfl,by rw[<-hcur],?_⟩;rw[<-hcur,<-hch];rfl
def ofRow(E:List Bool)(Fi:List (List Bool)):List Bool->List Sym->List Bool×Bool
 | out,[]=>(out,true)
 | out,s::l=>if s.term=true then (out.set s.n true,false) else
  if E.getD s.n false=true then ofRow E Fi (aB out (Fi.getD s.n [])) l else (aB out (Fi.getD s.n []),false)
theorem wB(F:ar){is ie io:Nat}{ro:Bool}{ae ak start rm rc ce co:Nat}{ra:Option Addr}{E:List Bool}{Fi:List (List Bool)}
  (hS:F is=some (.cells ro [.int .i64 ae,.int .i64 ak,.int .i64 start,.slice ra rm rc,.slice (some ⟨ie,0,none⟩) ak ce,.slice (some ⟨io,0,none⟩) ak co]))
  (hE:bw cd F (some ⟨ie,0,none⟩) ak ce E) (hFi:bw (cg cd) F (some ⟨io,0,none⟩) ak co Fi) (hFl:∀r∈Fi,r.length=ae) (ht:ae<=1000000)
  {a:Option Addr} {m c:Nat} {l:List Sym} (hl:bw fh F a m c l) (hm:m<=1000000) (hok:∀y∈l,bZ ae ak y) :
  Abs.Spec CC 133 [.pointer (some ⟨is,0,none⟩),.slice a m c] F [] λ_ v o=>∃B',o=[B']/\∃ir,B'=[(ir,.cells false ((ofRow E Fi (List.replicate ae false) l).1.map aL.cell))]/\
   (ofRow E Fi (List.replicate ae false) l).1.length=ae/\v=.tuple ⟨[.slice (some ⟨ir,0,none⟩) ae (if ae=0 then 0 else 1),.bool (ofRow E Fi (List.replicate ae false) l).2]⟩:=by
 have hllen:=hl.len;have hElen:=hE.len;have hFlen:=hFi.len;refine Abs.Spec.fn (n:=50) Tryz.func133 rfl rfl λown=>?_;refine au ?_;refine WT.nD (l:=ae) hT Z Z Z Z Z Z Z Z Z Z Z Z kq (λir hir=>?_);rw[mj];refine au ?_;refine AW.range (S:=List Bool) (λ_=>[]) (λs=>[(ir,.cells false (s.map aL.cell))]::own) (λj s G=>s.length=ae/\ofRow E Fi (List.replicate ae false) l=ofRow E Fi s (l.drop j)) m (List.replicate ae false) Z Z Z Z Z Z Z Z Z zo Z Z (λ_=>rfl) (λ_=>rfl) sM (ah.flat (by simp[aL])) ⟨by simp,by simp⟩ ?_ ?_
 ·intro j s F1 hF1 hj hP;obtain⟨hsl,hrun⟩:=hP;have hl1:=hl.mono hF1;have hS1:=hF1 _ _ hS;have hE1:=hE.mono hF1;have hFi1:=hFi.mono hF1;refine au ?_;refine WT.bG hT hl1 Z Z Z Z Z Z Z Z Z zo (λy hyj b1 off ro1 cs lx hb hp hrel=>?_);obtain rfl:lx=_:=hrel;have hyok:=hok y (gM hyj);have hdrop:l.drop j=y::l.drop (j+1):=by
   rw[RX (show j<l.length by omega)];rw[gE zo] at hyj;rw[AT hyj]
  rw[hdrop] at hrun;refine au ?_;refine WT.aI hT Z Z Z Z Z Z (λi8 hi8=>?_);refine au ?_;refine AW.cond Z (λh=>?_) (λh=>?_)
  ·have h:y.term=true:=h;rw[bZ,If h] at hyok;rw[ofRow,If h] at hrun;refine au ?_;refine WT.dL (j:=y.n) (s:=1) hT Z Z Z Z Z Z Z Z Z hyok ?_;refine WT.storeAt hT 1 0 Z Z Z Z Z Z Z Z Z Z (by simp;omega) Z Z ?_;refine au ?_;refine AW.ret ⟨_,[[(ir,.cells false ((s.set y.n true).map aL.cell))]],⟨_,_,rfl,⟨_,_,rfl,rfl,rfl⟩,rfl⟩,?_,_,rfl,ir,?_,?_,?_⟩
   ·rw[SA,show 0+y.n*1=y.n by omega];exact SF ..
   ·rw[hrun]
   ·rw[hrun];simp[hsl]
   ·rw[hrun];rfl
  ·have h:¬y.term=true:=by rw[show y.term=false from h];decide
   rw[bZ,By h] at hyok;rw[ofRow,By h] at hrun;refine au ?_;refine WT.bG hT hFi1 Z Z Z Z Z Z Z Z Z zo (λrow hrow b2 off2 ro2 cs2 lx2 hb2 hp2 hrel2=>?_);obtain⟨a4,n4,c4,rfl,hrow2⟩:=hrel2;have hrl:=hFl row (gM hrow);have hrl2:=hrow2.len;have hgetD:Fi.getD y.n []=row:=by rw[BY,hrow];rfl
   rw[hgetD] at hrun;have hnl:(aB s row).length=ae:=by unfold aB;simp;omega
   refine au ?_;refine WT.ph 1 Tryz.func134 Z Z Z Z Z Z Z (λ_=>rfl) (pM F1 (it:=ir) (xs:=s) (m:=ae) zo hrow2 zo zo) (λv B hv=>?_);obtain⟨rfl,rfl⟩:=hv;refine au ?_;refine WT.bG hT hE1 Z Z Z Z Z Z Z Z Z zo (λe he b3 off3 ro3 cs3 lx3 hb3 hp3 hrel3=>?_);obtain rfl:lx3=_:=hrel3;have hgE:E.getD y.n false=e:=by rw[BY,he];rfl
   rw[hgE] at hrun;refine au ?_;refine AW.cond Z (λh2=>?_) (λh2=>?_)
   ·have h2:e=false:=by simpa using h2
    rw[By (by rw[h2];decide)] at hrun;refine au ?_;refine AW.ret ⟨_,[[(ir,.cells false ((aB s row).map aL.cell))]],⟨_,_,rfl,⟨_,_,rfl,rfl,rfl⟩,rfl⟩,SF ..,_,rfl,ir,?_,?_,?_⟩
    ·rw[hrun]
    ·rw[hrun];exact hnl
    ·rw[hrun];rfl
   ·have h2:e=true:=by simpa using h2
    rw[If h2] at hrun;refine au ?_;exact⟨aB s row,sM,cy,hnl,hrun⟩
 ·intro s F1 hF1 hP;obtain⟨hsl,hrun⟩:=hP;rw[Su zo,ofRow] at hrun;refine au ?_;refine AW.ret ⟨_,[_],⟨_,_,rfl,⟨_,_,rfl,rfl,rfl⟩,rfl⟩,RM _,_,rfl,ir,?_,?_,?_⟩
  ·rw[hrun]
  ·rw[hrun];exact hsl
  ·rw[hrun];rfl
def ew(g:af)(E:List Bool)(Fi:List (List Bool)):Prop:=∀r∈g.rules,aB (Fi.getD r.left []) (ofRow E Fi (List.replicate g.ae false) r.right).1=Fi.getD r.left []/\
 ((ofRow E Fi (List.replicate g.ae false) r.right).2=true->E.getD r.left false=true)
structure vJ(F:ar)(is:Nat)(g:af)(ra:Option Addr)(rm rc:Nat)(E:List Bool)(Fi:List (List Bool)):Prop where
 bp:∃ie io ce co ro,F is=some (.cells ro [.int .i64 g.ae,.int .i64 g.ak,.int .i64 g.start,.slice ra rm rc,.slice (some ⟨ie,0,none⟩) g.ak ce,.slice (some ⟨io,0,none⟩) g.ak co])/\
  bw cd F (some ⟨ie,0,none⟩) g.ak ce E/\bw (cg cd) F (some ⟨io,0,none⟩) g.ak co Fi
 row:∀r∈Fi,r.length=g.ae
 rules:bw bK F ra rm rc g.rules
 closed:ew g E Fi
structure FS where
 a:Option Addr
 m:Nat
 c:Nat
 B:List (Nat×aD)
 vs:List Value
 bs:List (Nat×aD)
structure FM where
 E:List Bool
 Fi:List (List Bool)
 bs:List (Nat×aD)
 again:Bool
def fg:List Bool->Nat
 | []=>0
 | b::l=>(if b=true then 1 else 0)+fg l
def dm(M:List (List Bool)):Nat:=(M.map fg).sum
theorem qE:∀l:List Bool,fg l<=l.length
 | []=>AS _
 | b::l=>by have:=qE l;simp only[fg,RG];split<;>omega
theorem zS:∀{xs ys:List Bool},xs.length=ys.length->fg xs<=fg (aB xs ys)/\(aB xs ys≠xs->fg xs<fg (aB xs ys))
 | [],[],_=>by simp[aB]
 | [],_::_,h=>by simp at h
 | _::_,[],h=>by simp at h
 | x::xs,y::ys,h=>by
  obtain⟨h1,h2⟩:=@zS xs ys (by simpa using h);unfold aB at h1 h2;simp only[aB,Ti,fg];cases x with
  | true=>
   refine⟨by simp;omega,λhne=>?_⟩;have:List.zipWith (λa b=>a||b) xs ys≠xs:=by intro e;apply hne;simp[e]
   have:=h2 this;simp;omega
  | false=>
   cases y with
   | true=>exact⟨by simp;omega,λ_=>by simp;omega⟩
   | false=>
    refine⟨by simp;omega,λhne=>?_⟩;have:List.zipWith (λa b=>a||b) xs ys≠xs:=by intro e;apply hne;simp[e]
    have:=h2 this;simp;omega
theorem nR:∀{l:List Bool} {j:Nat},l[j]?=some false->fg (l.set j true)=fg l+1
 | [],j,h=>by simp at h
 | b::l,0,h=>by simp at h;subst h;simp[fg];omega
 | b::l,j+1,h=>by
  have:=@nR l j (by simpa using h);simp only[TN,fg];omega
theorem AO{n m:Nat}{M:List (List Bool)}(h:nA n m M):dm M<=n*m:=by
 unfold dm;rw[<-h.size,<-Rq (f:=fg)];refine zD λx hx=>?_;obtain⟨row,hr,rfl⟩:=Rg.1 hx;have:=qE row;rw[h.row row hr] at this;exact this
theorem xL{M:List (List Bool)}{i:Nat}{row row':List Bool}(h:M[i]?=some row):dm (M.set i row')+fg row=dm M+fg row':=by
 unfold dm;rw[SA];exact rJ (by rw[Re,h];rfl)
theorem fX{xs ys:List Bool}(h:xs.length=ys.length):(aB xs ys).length=xs.length:=by unfold aB;simp;omega
def pJ(ae:Nat)(E:List Bool)(Fi:List (List Bool))(r:bz):Prop:=aB (Fi.getD r.left []) (ofRow E Fi (List.replicate ae false) r.right).1=Fi.getD r.left []/\
 ((ofRow E Fi (List.replicate ae false) r.right).2=true->E.getD r.left false=true)
def Hy(E:List Bool)(M:List (List Bool))(r:bz):Prop:=∀pre n post,r.right=pre++⟨false,n⟩::post->(∀y∈pre,y.term=false/\E.getD y.n false=true)->Jo M r.left n=some true
structure TM where
 M:List (List Bool)
 bs:List (Nat×aD)
structure Q5 where
 ys:List (List Nat)
 a:Option Addr
 m:Nat
 c:Nat
 B:List (Nat×aD)
inductive Tree where
 | mk (aA:Int) (term:Nat) (kids:List Tree)
structure QR where
 j:Nat
 a:Option Addr
 c:Nat
 B:List (Nat×aD)
structure O4(g:af)(M:List (List Bool))(E:List Bool)(Fi:List (List Bool)):Prop where
 Aq:nA g.ak g.ak M
 first:ew g E Fi
 direct:∀r∈g.rules,Hy E M r
 trans:∀x y z,y<g.ak->Jo M x y=some true->Jo M y z=some true->Jo M x z=some true
 QS:∀i,i<g.ak->Jo M i i≠some true
mutual
inductive bj(g:af)(w:List Nat):Sym->Tree->Nat->Nat->Prop
 | leaf {t i:Nat} (h:w[i]?=some t):bj g w ⟨true,t⟩ (.mk (-1) t []) i (i+1)
 | node {k:Nat} {r:bz} {kids:List Tree} {i j:Nat} (h:g.rules[k]?=some r) (h2:aG g w r.right kids i j):bj g w ⟨false,r.left⟩ (.mk k 0 kids) i j
inductive aG(g:af)(w:List Nat):List Sym->List Tree->Nat->Nat->Prop
 | nil {i:Nat}:aG g w [] [] i i
 | cons {s:Sym} {l:List Sym} {t:Tree} {ts:List Tree} {i m j:Nat} (h:bj g w s t i m) (h2:aG g w l ts m j):aG g w (s::l) (t::ts) i j
end
mutual
theorem bj.le{g:af}{w:List Nat}:∀{t:Tree} {s:Sym} {i j:Nat},bj g w s t i j->i<=j/\(i<=w.length->j<=w.length)
 | .mk _ _ _,_,_,_,.leaf h=>⟨by omega,λ_=>by have:=(gS h).1;omega⟩
 | .mk _ _ ks,_,_,_,.node h h2=>aG.le h2
theorem aG.le{g:af}{w:List Nat}:∀{ts:List Tree} {l:List Sym} {i j:Nat},aG g w l ts i j->i<=j/\(i<=w.length->j<=w.length)
 | [],_,_,_,.nil=>⟨AS _,id⟩
 | t::ts,_,_,_,.cons h h2=>by
  have h3:=bj.le h;have h4:=aG.le h2;exact⟨by omega,λh5=>h4.2 (h3.2 h5)⟩
end
theorem aG.len{g:af}{w:List Nat}:∀{ts:List Tree} {l:List Sym} {i j:Nat},aG g w l ts i j->ts.length=l.length
 | [],_,_,_,.nil=>rfl
 | t::ts,_,_,_,.cons h h2=>by simp[aG.len h2]
theorem xK{E:List Bool}{Fi:List (List Bool)}:∀(l:List Sym) (out:List Bool),(∀y∈l,y.term=false/\E.getD y.n false=true)->(ofRow E Fi out l).2=true
 | [],_,_=>rfl
 | s::l,out,h=>by
  have h1:=h s me;unfold ofRow;rw[By (by simp[h1.1]),If h1.2];exact xK l _ λy hy=>h y (I9 _ hy)
mutual
theorem bj.empty{g:af}{w:List Nat}{E:List Bool}{Fi:List (List Bool)}(hc:ew g E Fi):∀{t:Tree} {s:Sym} {i j:Nat},bj g w s t i j->i=j->s.term=false/\E.getD s.n false=true
 | .mk _ _ _,_,_,_,.leaf h,e=>by omega
 | .mk _ _ ks,_,_,_,.node h h2,e=>⟨rfl,(hc _ (gM h)).2 (xK _ _ (aG.empty hc h2 e))⟩
theorem aG.empty{g:af}{w:List Nat}{E:List Bool}{Fi:List (List Bool)}(hc:ew g E Fi):∀{ts:List Tree} {l:List Sym} {i j:Nat},aG g w l ts i j->i=j->∀y∈l,y.term=false/\E.getD y.n false=true
 | [],_,_,_,.nil,_=>λy hy=>by simp at hy
 | t::ts,_,_,_,.cons h h2,e=>λy hy=>by
  have h3:=h.le.1;have h4:=h2.le.1;rcases Rt.1 hy with rfl | hy
  ·exact bj.empty hc h zo
  ·exact aG.empty hc h2 zo y hy
end
theorem M2(a b c d:Nat):((((a:Int)==(c:Int))&&(((b:Int)==(d:Int))&&true))=decide ((a,b)=(c,d))):=by
 rw[SH];simp only[IN,Sb,RS,RJ,Ui];omega
structure Item where
 aA:Nat
 dot:Nat
 gU:Nat
deriving DecidableEq
def bg(rs:List bz)(x:Item):Option Sym:=(rs[x.aA]?).bind λr=>r.right[x.dot]?
def kR(rs:List bz)(k:Nat)(x:Item):Prop:=∃r,rs[x.aA]?=some r/\x.dot<=r.right.length/\x.gU<=k
def cF(x:Item):Item:=⟨x.aA,x.dot+1,x.gU⟩
def dU(rs:List bz)(L:Nat->List Item)(k:Nat)(x:Item):Prop:=
 (∀n i r,bg rs x=some ⟨false,n⟩->rs[i]?=some r->r.left=n->(⟨i,0,k⟩:Item)∈L k)/\
 (∀r,rs[x.aA]?=some r->x.dot=r.right.length->∀y∈L x.gU,bg rs y=some ⟨false,r.left⟩->cF y∈L k)
structure ui(g:af)(v:List Nat)(L:Nat->List Item):Prop where
 ok:∀k,k<=v.length->∀x∈L k,kR g.rules k x
 start:∀i r,g.rules[i]?=some r->r.left=g.start->(⟨i,0,0⟩:Item)∈L 0
 closed:∀k,k<=v.length->∀x∈L k,dU g.rules L k x
 scan:∀k t,v[k]?=some t->∀x∈L k,bg g.rules x=some ⟨true,t⟩->cF x∈L (k+1)
theorem sx{rs:List bz}{i d f:Nat}{r:bz}(h:rs[i]?=some r):bg rs ⟨i,d,f⟩=r.right[d]?:=by
 unfold bg;simp[h]
theorem tP{g:af}{v w:List Nat}{L:Nat->List Item}(hL:ui g v L)(hv:w.take v.length=v)(hvl:v.length<=w.length) :
  ∀{s:Sym} {k m:Nat},iB g w s k m->k<=m/\(m<=v.length->∀x∈L k,bg g.rules x=some s->cF x∈L m):=by
 intro s k m h;refine iB.rec (motive_1:=λs k m _=>k<=m/\(m<=v.length->∀x∈L k,bg g.rules x=some s->cF x∈L m))
  (motive_2:=λl k m _=>k<=m/\(m<=v.length->∀i d f r,g.rules[i]?=some r->r.right.drop d=l->d<=r.right.length->(⟨i,d,f⟩:Item)∈L k->(⟨i,r.right.length,f⟩:Item)∈L m)) ?_ ?_ ?_ ?_ h
 ·intro t i hw;refine⟨by omega,λhm x hx hn=>hL.scan i t ?_ x hx hn⟩;rw[<-hv,RD,If zo];exact hw
 ·intro r i j hr hd ih;refine⟨ih.1,λhj x hx hn=>?_⟩;obtain⟨q,hq,rfl⟩:=R2 hr;have hq':g.rules[q]?=some g.rules[q]:=gE hq;have h1:=(hL.closed i (by have:=ih.1;omega) x hx).1 _ q _ hn hq' rfl;have h2:=ih.2 hj q 0 i _ hq' rfl zo h1;exact(hL.closed j hj _ h2).2 _ hq' rfl x hx hn
 ·intro i;refine⟨by omega,λhm i' d f r hr hl hd hx=>?_⟩;have:d=r.right.length:=by
   have:=congrArg List.length hl;simp at this;omega
  rw[this] at hx;exact hx
 ·intro s l i m j h1 h2 ih1 ih2;refine⟨by have:=ih1.1;have:=ih2.1;omega,λhj q d f r hr hl hd hx=>?_⟩;have hdl:d<r.right.length:=by
   have:=congrArg List.length hl;simp at this;omega
  have hn:bg g.rules ⟨q,d,f⟩=some s:=by
   rw[sx hr];have:(r.right.drop d)[0]?=some s:=by rw[hl];rfl
   simpa using this
  have h3:=ih1.2 (by have:=ih2.1;omega) _ hx hn;refine ih2.2 hj q (d+1) f r hr ?_ zo h3;have:(r.right.drop d).drop 1=l:=by rw[hl];rfl
  rw[Td] at this;exact this
theorem AM{g:af}{v w:List Nat}{L:Nat->List Item}(hL:ui g v L)(hv:w.take v.length=v)(hvl:v.length<=w.length){t:Nat}(ht:w[v.length]?=some t) :
  ∀{s:Sym} {k m:Nat},iB g w s k m->k<=v.length->v.length<m->∀x∈L k,bg g.rules x=some s->∃y∈L v.length,bg g.rules y=some ⟨true,t⟩:=by
 intro s k m h;refine iB.rec (motive_1:=λs k m _=>k<=v.length->v.length<m->∀x∈L k,bg g.rules x=some s->∃y∈L v.length,bg g.rules y=some ⟨true,t⟩)
  (motive_2:=λl k m _=>k<=v.length->v.length<m->∀i d f r,g.rules[i]?=some r->r.right.drop d=l->d<=r.right.length->(⟨i,d,f⟩:Item)∈L k->∃y∈L v.length,bg g.rules y=some ⟨true,t⟩) ?_ ?_ ?_ ?_ h
 ·intro t' i hw hk hm x hx hn;obtain rfl:i=v.length:=by omega
  rw[ht] at hw;cases hw;exact⟨x,hx,hn⟩
 ·intro r i j hr hd ih hk hm x hx hn;obtain⟨q,hq,rfl⟩:=R2 hr;have hq':g.rules[q]?=some g.rules[q]:=gE hq;have h1:=(hL.closed i hk x hx).1 _ q _ hn hq' rfl;exact ih hk hm q 0 i _ hq' rfl zo h1
 ·intro i hk hm;omega
 ·intro s l i m j h1 h2 ih1 ih2 hk hj q d f r hr hl hd hx;have hdl:d<r.right.length:=by
   have:=congrArg List.length hl;simp at this;omega
  have hn:bg g.rules ⟨q,d,f⟩=some s:=by
   rw[sx hr];have:(r.right.drop d)[0]?=some s:=by rw[hl];rfl
   simpa using this
  rcases Rw v.length m with hm | hm
  ·exact ih1 hk hm _ hx hn
  ·have h3:=(tP hL hv hvl h1).2 hm _ hx hn;refine ih2 hm hj q (d+1) f r hr ?_ zo h3;have:(r.right.drop d).drop 1=l:=by rw[hl];rfl
   rw[Td] at this;exact this
theorem wP{g:af}{v w:List Nat}{L:Nat->List Item}(hL:ui g v L)(hv:w.take v.length=v){t:Nat}(ht:w[v.length]?=some t)(h:iB g w ⟨false,g.start⟩ 0 w.length) :
  ∃y∈L v.length,bg g.rules y=some ⟨true,t⟩:=by
 have hvl:=(gS ht).1;obtain⟨r,hr,hrl,hd⟩:=KK.1 h;obtain⟨q,hq,rfl⟩:=R2 hr;have hq':g.rules[q]?=some g.rules[q]:=gE hq;have h0:=hL.start q _ hq' hrl;have key:∀(l:List Sym) (k m:Nat),gH g w l k m->k<=v.length->v.length<m->∀d,g.rules[q].right.drop d=l->d<=g.rules[q].right.length->(⟨q,d,0⟩:Item)∈L k->∃y∈L v.length,bg g.rules y=some ⟨true,t⟩:=by
  intro l
  induction l with
  | nil=>intro k m h hk hm;rw[nt.1 h] at hk;omega
  | cons s l ih=>
   intro k j h hk hj d hl hdl hx;obtain⟨m,h1,h2⟩:=lG.1 h;have hdl:d<g.rules[q].right.length:=by
    have:=congrArg List.length hl;simp at this;omega
   have hn:bg g.rules ⟨q,d,0⟩=some s:=by
    rw[sx hq'];have:(g.rules[q].right.drop d)[0]?=some s:=by rw[hl];rfl
    simpa using this
   rcases Rw v.length m with hm | hm
   ·exact AM hL hv zo ht h1 hk hm _ hx hn
   ·have h3:=(tP hL hv zo h1).2 hm _ hx hn;refine ih m j h2 hm hj (d+1) ?_ zo h3;have:(g.rules[q].right.drop d).drop 1=l:=by rw[hl];rfl
    rw[Td] at this;exact this
 exact key _ 0 w.length hd zo zo 0 rfl zo h0
def wz(g:af)(E:List Bool):Prop:=∀r∈g.rules,(∀y∈r.right,y.term=true\/E[y.n]?=some true)->E[r.left]?=some true
def Dq(E:List Bool)(r:bz):Bool:=!(r.right.any λy=>!y.term&&!(E.getD y.n false))
def trimmed(E:List Bool)(g:af):af:={ g with rules:=g.rules.filter (Dq E) }
theorem vP{E:List Bool}{r:bz}:Dq E r=true↔∀y∈r.right,y.term=true\/E[y.n]?=some true:=by
 unfold Dq;rw[SR,List.any_eq_false];constructor
 ·intro h y hy;have:=h y hy;cases ht:y.term with
  | true=>exact .inl rfl
  | false=>
   refine .inr ?_;rw[ht,BY] at this;cases he:E[y.n]? with
   | none=>rw[he] at this;simp at this
   | some b=>rw[he] at this;simp at this;rw[this]
 ·intro h y hy;rcases h y hy with h | h
  ·simp[h]
  ·rw[BY,h];simp
theorem ng{g:af}{w:List Nat}{E:List Bool}(hE:wz g E):∀{s:Sym} {i j:Nat},iB g w s i j->iB (trimmed E g) w s i j/\(s.term=true\/E[s.n]?=some true):=by
 intro s i j h;refine iB.rec (motive_1:=λs i j _=>iB (trimmed E g) w s i j/\(s.term=true\/E[s.n]?=some true)) (motive_2:=λl i j _=>gH (trimmed E g) w l i j/\∀y∈l,y.term=true\/E[y.n]?=some true) ?_ ?_ ?_ ?_ h
 ·intro t i h;exact⟨.term h,.inl rfl⟩
 ·intro r i j hr _ ih;exact⟨.ym (Ra.2 ⟨hr,vP.2 ih.2⟩) ih.1,.inr (hE r hr ih.2)⟩
 ·intro i;exact⟨.nil,λy hy=>by cases hy⟩
 ·intro s l i m j _ _ ih1 ih2;refine⟨.cons ih1.1 ih2.1,λy hy=>?_⟩;rcases Rt.1 hy with rfl | hy
  ·exact ih1.2
  ·exact ih2.2 y hy
def cI(O:List Int)(sum:Int)(s:Sym):Int:=
 if s.term=true/\0<=sum then sum+1 else if 0<=sum/\0<=O.getD s.n (-1) then sum+O.getD s.n (-1) else -1
def cR(O:List Int)(a:Int)(l:List Sym):Int:=l.foldl (cI O) a
def BV(O:List Int)(y:Sym):Prop:=y.term=true\/0<=O.getD y.n (-1)
theorem mE{O:List Int}:∀(l:List Sym) (a:Int),0<=cR O a l->0<=a/\∀y∈l,BV O y
 | [],a,h=>⟨h,λ_ h=>by cases h⟩
 | y::l,a,h=>by
  obtain⟨h1,h2⟩:=mE l (cI O a y) h;unfold cI at h1;by_cases c1:y.term=true/\0<=a
  ·exact⟨c1.2,λz hz=>by rcases Rt.1 hz with rfl | hz;exact .inl c1.1;exact h2 z hz⟩
  ·rw[By c1] at h1;by_cases c2:0<=a/\0<=O.getD y.n (-1)
   ·exact⟨c2.1,λz hz=>by rcases Rt.1 hz with rfl | hz;exact .inr c2.2;exact h2 z hz⟩
   ·rw[By c2] at h1;omega
theorem rY{O:List Int}{M:Int}(hM:1<=M)(hO:∀x∈O,x<=M):∀(l:List Sym) (a:Int),0<=a->(∀y∈l,BV O y)->0<=cR O a l/\cR O a l<=a+l.length*M
 | [],a,h,_=>by simp[cR,h]
 | y::l,a,h,hk=>by
  have hy:∀v,O.getD y.n (-1)=v->v<=M:=by
   rintro v rfl;rw[BY];cases e:O[y.n]? with
   | none=>simp;omega
   | some x=>simpa using hO x (gM e)
  have hy:=hy _ rfl;have h1:0<=cI O a y/\cI O a y<=a+M:=by
   unfold cI;by_cases c1:y.term=true/\0<=a
   ·rw[If c1];omega
   ·rw[By c1];have c2:0<=a/\0<=O.getD y.n (-1):=by
     rcases hk y me with h2 | h2
     ·exact absurd ⟨h2,h⟩ c1
     ·exact⟨h,h2⟩
    rw[If c2];omega
  obtain⟨h2,h3⟩:=rY hM hO l (cI O a y) h1.1 (λz hz=>hk z (I9 _ hz));have:((y::l).length:Int)*M=l.length*M+M:=by
   rw[RG];push_cast;rw[Int.add_mul,Int.one_mul]
  rw[this];refine⟨h2,?_⟩;show cR O (cI O a y) l<=_;omega
theorem DO(O:List Int)(a:Int)(y:Sym):-1<=cI O a y:=by
 unfold cI;split
 ·omega
 ·split<;>omega
theorem yF{O:List Int}:∀(l:List Sym) (a:Int),-1<=a->-1<=cR O a l
 | [],a,h=>h
 | y::l,a,h=>yF l (cI O a y) (DO O a y)
theorem xB{O:List Int}{M:Int}(hM:1<=M)(hO:∀x∈O,x<=M)(l:List Sym):cR O 0 l<=l.length*M:=by
 rcases Int.lt_or_le (cR O 0 l) 0 with h | h
 ·have:0<=(l.length:Int)*M:=Int.mul_nonneg zo zo;omega
 ·have:=(rY hM hO l 0 zo (mE l 0 h).2).2;omega
def gi(O:List Int):Nat:=O.countP λx=>decide (0<=x)
def pR(x:Int):Nat:=if x<0 then 1048577 else x.toNat
def jc(O:List Int):Nat:=(O.map pR).sum
structure kL(ak:Nat)(O:List Int):Prop where
 len:O.length=ak
 ge:∀x∈O,-1<=x
 le:∀x∈O,x<=((4 ^ gi O:Nat):Int)
def dp(g:af)(n:Nat):Prop:=∃w,iB g w ⟨false,n⟩ 0 w.length
def fy(g:af)(O:List Int):Prop:=∀n x,O[n]?=some x->0<=x->∃w,iB g w ⟨false,n⟩ 0 w.length/\(w.length:Int)=x
def gN(O:List Int)(r:bz):Prop:=0<=cR O 0 r.right->0<=O.getD r.left (-1)/\O.getD r.left (-1)<=cR O 0 r.right
theorem FF(O:List Int):gi O<=O.length:=List.countP_le_length
theorem DF{O:List Int}{i:Nat}{x y:Int}(h:O[i]?=some x)(hy:0<=y):gi (O.set i y)=gi O+(if 0<=x then 0 else 1):=by
 unfold gi
 induction O generalizing i with
 | nil=>simp at h
 | cons a O ih=>
  cases i with
  | zero=>
   simp at h;subst h;simp only[Tq,Tm];by_cases hx:0<=a<;>simp[hx,hy]
  | succ i=>
   simp only[TN,Tm];rw[ih (by simpa using h)];omega
theorem Gp(n:Nat)(h:n<=10):(4 ^ n:Nat)<=1048576:=by
 have:4 ^ n<=4 ^ 10:=Rz (by decide) h;exact this
theorem kL.max{ak:Nat}{O:List Int}(h:kL ak O)(hn:ak<=10):∀x∈O,x<=1048576:=λx hx=>by
 have h1:=h.le x hx;have h2:=Gp (gi O) (by have:=FF O;have:=h.len;omega);omega
theorem kL.sum{ak:Nat}{O:List Int}(h:kL ak O){l:List Sym}(hl:l.length<=4):cR O 0 l<=((4 ^ (gi O+1):Nat):Int):=by
 have hp:0<4 ^ gi O:=TK (by decide);have h1:=xB (M:=((4 ^ gi O:Nat):Int)) zo h.le l;have h2:(l.length:Int)*((4 ^ gi O:Nat):Int)<=4*((4 ^ gi O:Nat):Int):=Int.mul_le_mul_of_nonneg_right zo zo;rw[Tv,SU];push_cast at *;omega
theorem kL.put{ak:Nat}{O:List Int}(h:kL ak O){l:List Sym}(hl:l.length<=4){i:Nat}{x:Int}(hx:O[i]?=some x)(h1:0<=cR O 0 l)(h2:x<0\/cR O 0 l<x):kL ak (O.set i (cR O 0 l)):=by
 have hk:=DF hx h1;have hp:4 ^ gi O<=4 ^ gi (O.set i (cR O 0 l)):=Rz (by decide) (by rw[hk];omega);refine⟨by simp[h.len],λy hy=>?_,λy hy=>?_⟩
 ·rcases SN hy with hy | rfl
  ·exact h.ge y hy
  ·omega
 ·rcases SN hy with hy | rfl
  ·have:=h.le y hy;omega
  ·by_cases hx0:0<=x
   ·have:=h.le x (gM hx);omega
   ·rw[hk,By hx0];exact h.sum hl
theorem Jq{O:List Int}{i:Nat}{x y:Int}(h:O[i]?=some x)(hy:0<=y)(hy2:y<=1048576)(hlt:x<0\/y<x):jc (O.set i y)<jc O:=by
 unfold jc;rw[SA];have:=rJ (l:=O.map pR) (i:=i) (x:=pR x) (y:=pR y) (by rw[Re,h];rfl);have:pR y<pR x:=by
  unfold pR;rw[By zo];split<;>omega
 omega
theorem vT{g:af}{w u v:List Nat}:∀{s:Sym} {i j:Nat},iB g w s i j->iB g (u++(w++v)) s (u.length+i) (u.length+j):=by
 intro s i j h;refine iB.rec (motive_1:=λs i j _=>iB g (u++(w++v)) s (u.length+i) (u.length+j)) (motive_2:=λl i j _=>gH g (u++(w++v)) l (u.length+i) (u.length+j)) ?_ ?_ ?_ ?_ h
 ·intro t i h;refine .term (t:=t) (i:=u.length+i) ?_;have:=(gS h).1;rw[Rs zo,Nat.add_sub_cancel_left,Rj this];exact h
 ·intro r i j hr _ ih;exact .ym hr ih
 ·intro i;exact .nil
 ·intro s l i m j _ _ h1 h2;exact .cons h1 h2
theorem kZ{g:af}{w u v:List Nat}:∀{l:List Sym} {i j:Nat},gH g w l i j->gH g (u++(w++v)) l (u.length+i) (u.length+j)
 | [],i,j,h=>by rw[nt.1 h];exact .nil
 | s::l,i,j,h=>by
  obtain⟨m,h1,h2⟩:=lG.1 h;exact .cons (vT h1) (kZ h2)
theorem ia{g:af}:∀(l:List Sym),(∀y∈l,y.term=true\/dp g y.n)->∃w,gH g w l 0 w.length
 | [],_=>⟨[],.nil⟩
 | y::l,h=>by
  obtain⟨w2,h2⟩:=ia l (λz hz=>h z (I9 _ hz));have:∃w1,iB g w1 y 0 w1.length:=by
   cases y with
   | mk term n=>
    cases term with
    | true=>exact⟨[n],.term rfl⟩
    | false=>
     rcases h _ me with h | h
     ·cases h
     ·exact h
  obtain⟨w1,h1⟩:=this;refine⟨w1++w2,?_⟩;have e1:=vT (u:=[]) (v:=w2) h1;have e2:=kZ (u:=w1) (v:=[]) h2;simp only[SG,TQ,Rn,R0,SJ] at e1 e2;rw[Rf];exact .cons e1 e2
theorem Al{g:af}{r:bz}(hr:r∈g.rules)(h:∀y∈r.right,y.term=true\/dp g y.n):dp g r.left:=by
 obtain⟨w,hw⟩:=ia r.right h;exact⟨w,.ym hr hw⟩
theorem Eu{g:af}{O:List Int}(h:fy g O):∀(l:List Sym) (a:Int),0<=cR O a l->∃w,gH g w l 0 w.length/\a+w.length=cR O a l
 | [],a,_=>⟨[],.nil,by show a+0=a;omega⟩
 | y::l,a,h1=>by
  have e:cR O a (y::l)=cR O (cI O a y) l:=rfl;rw[e] at h1 ⊢;obtain⟨w2,h2,h3⟩:=Eu h l (cI O a y) h1;have h0:=(mE l (cI O a y) h1).1;obtain⟨w1,h4,h5⟩:∃w1,iB g w1 y 0 w1.length/\a+w1.length=cI O a y:=by
   unfold cI at h0 ⊢;by_cases c1:y.term=true/\0<=a
   ·rw[If c1];obtain⟨b,n⟩:=y;obtain rfl:b=true:=c1.1;exact⟨[n],.term rfl,rfl⟩
   ·rw[By c1] at h0 ⊢;by_cases c2:0<=a/\0<=O.getD y.n (-1)
    ·rw[If c2];obtain⟨b,n⟩:=y;obtain rfl:b=false:=by
      cases b with
      | false=>rfl
      | true=>exact absurd ⟨rfl,c2.1⟩ c1
     have h6:=c2.2;rw[BY] at h6 ⊢;cases e:O[n]? with
     | none=>
      have h6:0<=(O[n]?).getD (-1):=h6;rw[e] at h6;simp at h6
     | some z=>
      have h6:0<=(O[n]?).getD (-1):=h6;rw[e] at h6;obtain⟨w1,g1,g2⟩:=h n z e (by simpa using h6);exact⟨w1,g1,by rw[g2];rfl⟩
    ·rw[By c2] at h0;omega
  refine⟨w1++w2,?_,by rw[<-h3,<-h5,Rf];omega⟩;have e1:=vT (u:=[]) (v:=w2) h4;have e2:=kZ (u:=w1) (v:=[]) h2;simp only[SG,TQ,Rn,R0,SJ] at e1 e2;rw[Rf];exact .cons e1 e2
theorem fy.put{g:af}{O:List Int}(h:fy g O){r:bz}(hr:r∈g.rules)(h1:0<=cR O 0 r.right):fy g (O.set r.left (cR O 0 r.right)):=by
 intro n x hx h0;by_cases hn:n=r.left
 ·subst hn;rw[Tx] at hx;rw[If rfl] at hx;split at hx
  ·obtain rfl:=AT hx;obtain⟨w,h2,h3⟩:=Eu h r.right 0 h1;exact⟨w,.ym hr h2,by omega⟩
  ·cases hx
 ·rw[RO zo] at hx;exact h n x hx h0
def oT(O:List Int):List Bool:=O.map λx=>decide (0<=x)
structure pT(g:af)(E:List Bool):Prop where
 len:E.length=g.ak
 closed:wz g E
 sound:∀n,E[n]?=some true->dp g n
theorem E7{g:af}{O:List Int}(hO:kL g.ak O)(hs:fy g O)(hc:∀r∈g.rules,gN O r):pT g (oT O):=by
 have at_:∀n,(oT O)[n]?=some true↔0<=O.getD n (-1):=by
  intro n;unfold oT;rw[Re,BY];cases e:O[n]? with
  | none=>simp
  | some x=>simp
 refine⟨by simp[oT,hO.len],λr hr h=>?_,λn h=>?_⟩
 ·refine(at_ _).2 (hc r hr ?_).1
  refine (rY (M := ((4 ^ gi O : Nat) : Int)) (by
   have : 0 < 4 ^ gi O := TK (by decide)
   omega) hO.le r.right 0 zo (λy hy=>?_)).1
  rcases h y hy with h | h
  ·exact .inl h
  ·exact .inr ((at_ _).1 h)
 ·have:=(at_ n).1 h;rw[BY] at this;cases e:O[n]? with
  | none=>rw[e] at this;simp at this
  | some x=>
   rw[e] at this;obtain⟨w,h1,_⟩:=hs n x e (by simpa using this);exact⟨w,h1⟩
theorem pT.iff{g:af}{E:List Bool}(h:pT g E){n:Nat}:E[n]?=some true↔dp g n:=by
 refine⟨h.sound n,λ⟨w,hw⟩=>?_⟩;rcases (ng h.closed hw).2 with h | h
 ·cases h
 ·exact h
theorem BB{α:Type}(x a:α)(l:List α):(x::a::l).Perm (a::x::l):=List.Perm.swap _ _ _
theorem Jf{α:Type}(x a b:α)(l:List α):(x::a::b::l).Perm (a::b::x::l):=(S0 (l₁:=[a,b])).symm
theorem I8{α:Type}(x a b c:α)(l:List α):(x::a::b::c::l).Perm (a::b::c::x::l):=(S0 (l₁:=[a,b,c])).symm
def kA:Ty Item where
 size:=3
 rel:=λ_ l x=>l=[.int .i64 x.aA,.int .i64 x.dot,.int .i64 x.gU]
 len:=λ_ _ _ h=>by rw[h];rfl
 one:=λ_ _ _ h=>by rw[h];rfl
 mono:=λ_ _ _ _ _ h=>h
theorem KM{p:Prop} (h:p:=by
 obtain rfl:a=none:=by simpa using h
 obtain⟨rfl,rfl⟩:=hx.nil rfl;obtain rfl:xs=[]:=R8 hx.len.symm;refine au ?_;refine AW.le (own2:=[]::own) (ah.flat (Rc _)) ?_;exact AW.ret ⟨_,[[]],⟨_,_,rfl,rfl,rfl⟩,bU,_,rfl,_,_,rfl,(dy.gq _ _).vec⟩):p:=h
theorem KG{p:Prop} (h:p:=by
 refine WT.Kn hT Z Z Z Z Z Z Z Z Z Z Z Z (λh0 s0=>hds _ h0 s0) hcs hx.len (by decide) kq (λa' c' B' hB' _=>?_);refine au ?_;refine AW.le (ah.cons _ (ah.skip _ oR)) ?_;exact AW.ret ⟨_,[_],⟨_,_,rfl,rfl,rfl⟩,bU,_,rfl,_,_,rfl,hB'⟩):p:=h
theorem pz(F:ar){a:Option Addr}{m c:Nat}{xs:List Sym}(hx:bw fh F a m c xs)(hm:m<=1000000) :
  Abs.Spec CC 107 [.slice a m c] F [] λF' v o=>∃B',o=[B']/\∃a' c',v=.slice a' m c'/\dC fh F' a' m c' B' xs:=by
 refine Abs.Spec.fn (n:=8) Tryz.func107 rfl rfl λown=>?_;refine au ?_;refine WT.rz hT Z Z Z Z Z Z Z Z ?_;refine au ?_;refine AW.cond Z (λh=>?_) (λh=>?_)
 ·exact KM
 ·refine au ?_;refine WT.bd hT Z Z Z Z Z Z Z Z Z Z Z Z Z Z (λi5 hi5=>?_);refine au ?_;obtain⟨ds,hds,hcs⟩:=rR hT hx (t:=87) rfl rfl 91;exact KG
theorem uO(F:ar){a:Option Addr}{m c:Nat}{xs:List Item}(hx:bw kA F a m c xs)(hm:m<=1000000) :
  Abs.Spec CC 120 [.slice a m c] F [] λF' v o=>∃B',o=[B']/\∃a' c',v=.slice a' m c'/\dC kA F' a' m c' B' xs:=by
 refine Abs.Spec.fn (n:=8) Tryz.func120 rfl rfl λown=>?_;refine au ?_;refine WT.rz hT Z Z Z Z Z Z Z Z ?_;refine au ?_;refine AW.cond Z (λh=>?_) (λh=>?_)
 ·exact KM
 ·refine au ?_;refine WT.bd hT Z Z Z Z Z Z Z Z Z Z Z Z Z Z (λi5 hi5=>?_);refine au ?_;obtain⟨ds,hds,hcs⟩:=rR hT hx (t:=127) rfl rfl 208;exact KG
theorem qJ(F:ar)(n:Int):Abs.Spec CC 84 [.int .i64 n] F [] λ_ v o=>o=[]/\v=.agg ⟨[.bool false,.int .i64 n]⟩:=by
 refine Abs.Spec.fn (n:=5) Tryz.func84 rfl rfl λown=>?_;refine AW.seq (AW.du ?_);refine WT.aI hT Z Z Z Z Z Z (λi2 hi2=>?_);refine au ?_;exact AW.ret ⟨_,[],⟨_,_,⟨_,rfl,λG h0 s0=>bV (s0.has (p:=0) rfl me) (cl hT rfl)⟩,rfl,rfl⟩,bU,rfl,rfl⟩
theorem EJ(F:ar)(n:Int):Abs.Spec CC 115 [.int .i64 n] F [] λ_ v o=>o=[]/\v=.agg ⟨[.bool true,.int .i64 n]⟩:=by
 refine Abs.Spec.fn (n:=5) Tryz.func115 rfl rfl λown=>?_;refine AW.seq (AW.du ?_);refine WT.aI hT Z Z Z Z Z Z (λi2 hi2=>?_);refine au ?_;exact AW.ret ⟨_,[],⟨_,_,⟨_,rfl,λG h0 s0=>bV (s0.has (p:=0) rfl me) (cl hT rfl)⟩,rfl,rfl⟩,bU,rfl,rfl⟩
structure CS where
 j:Nat
 a:Option Addr
 c:Nat
 B:List (Nat×aD)
theorem x5(F:ar)(g:af){a:Option Addr}{m c:Nat}(hr:bw bK F a m c g.rules)(hm:m<=1000000)(hrr:∀r∈g.rules,r.right.length<=1000000) :
  Abs.Spec CC 52 [.agg ⟨ai g a m c⟩] F [] λF' v o=>∃B',o=[B']/\∃a' c',v=.agg ⟨ai g a' m c'⟩/\dy bK F' a' m c' B' g.rules:=by
 unfold ai;have hrl:=hr.len;refine Abs.Spec.fn (n:=28) Tryz.func52 rfl rfl λown=>?_;refine AW.seq (AW.du ?_);refine WT.cC Z Z Z Z Z Z (λi1 hi1=>?_);refine WT.aI hT Z Z Z Z Z Z (λi2 hi2=>?_);refine au ?_;refine WT.aI hT Z Z Z Z Z Z (λi3 hi3=>?_);refine au ?_
 refine AW.range (S:=CS) (λ_=>[]) (λs=>s.B::[(i3,.cells false [.int .i64 g.ae,.int .i64 g.ak,.int .i64 g.start,.slice s.a (g.rules.take s.j).length s.c])]::[(i2,.cells false [.int .i64 0,.int .i64 0,.int .i64 0,.slice none 0 0])]::[(i1,.cells false [.int .i64 g.ae,.int .i64 g.ak,.int .i64 g.start,.slice a m c])]::own)
  (λj s G=>s.j=j/\dy bK G s.a (g.rules.take s.j).length s.c s.B (g.rules.take s.j)) m ⟨0,none,0,[]⟩
  Z Z Z Z Z Z Z Z Z zo rfl rfl (λ_=>rfl) (λ_=>rfl) sM (ah.flat (Rc _)) ⟨rfl,by simpa using dy.gq _ _⟩ ?_ ?_
 ·intro j s F1 hF1 hj hP;obtain⟨rfl,hb⟩:=hP;have hr1:=hr.mono hF1;refine dA ?_;refine WT.bG hT hr1 Z Z Z Z Z Z Z Z Z zo (λr hrj b off ro cs lx hb1 hp1 hrel=>?_);obtain⟨ra,rn,rc,rfl,hra⟩:=hrel;have hral:=hra.len;have hrn:=hrr r (gM hrj);refine dA ?_;refine WT.aI hT Z Z Z Z Z Z (λi5 hi5=>?_);refine dA ?_;refine AW.draw (ps:=[(1,6),(1,8),(3,6)]) Z Z ?_;refine dA ?_;refine WT.lC Tryz.func107 Z Z Z Z Z Z (pz _ hra zo) (λF2 v B2 hF2 hv=>?_);obtain⟨ca,cc,rfl,hcv⟩:=hv;refine WT.aw 0 Z Z (λF3 hF3 hB3=>?_);have hca:=hcv.arr hF3 hB3
  have hb3:=(hb.mono hF2).mono hF3;refine dA ?_;refine WT.bd hT Z Z Z Z Z Z Z Z Z Z Z Z Z Z (λi9 hi9=>?_);have hlt:(g.rules.take s.j).length<=1000000:=by simp;omega
  refine WT.bP (ys:=[r]) hT 3 hb3 Z (λ_=>rfl) Z Z Z Z Z Z Z Z Z Z Z (λh0 s0=>bh hT s0 0 Z Z Z Z) (aF.single (R:=bK) (x:=r) ⟨_,_,_,rfl,hca⟩) Z (by decide) kq (λa3 c3 B3 hB3=>?_);have he:g.rules.take (s.j+1)=g.rules.take s.j++[r]:=by rw[Rk,hrj];rfl
  have hl2:(g.rules.take (s.j+1)).length=(g.rules.take s.j).length+1:=by rw[he];simp
  rw[<-he,<-hl2] at hB3;rw[<-hl2];refine dA ?_;refine⟨oF,?_⟩;exact⟨⟨s.j+1,a3,c3,B3⟩,sM,cy,rfl,hB3⟩
 ·intro s F1 hF1 hP;obtain⟨rfl,hb⟩:=hP;rw[No zo,<-hrl] at hb;rw[No zo,<-hrl];refine dA ?_;refine AW.perm (I8 _ _ _ _ _) ?_;refine AW.ret ⟨_,[_],⟨_,_,⟨_,rfl,λG h0 s0=>bV (s0.has (p:=1) Z me) (cl hT rfl)⟩,rfl,rfl⟩,bU,_,rfl,_,_,rfl,?_⟩;exact hb
structure Key where
 sym:Sym
 gU:Nat
 to:Nat
deriving DecidableEq
structure ob where
 aA:Nat
 kids:List Key
deriving DecidableEq
def Pk:Ty Key where
 size:=4
 rel:=λ_ l x=>l=[.bool x.sym.term,.int .i64 x.sym.n,.int .i64 x.gU,.int .i64 x.to]
 len:=λ_ _ _ h=>by rw[h];rfl
 one:=λ_ _ _ h=>by rw[h];rfl
 mono:=λ_ _ _ _ _ h=>h
def G7:Ty ob where
 size:=2
 rel:=λF l x=>∃a n c,l=[.int .i64 x.aA,.slice a n c]/\bw Pk F a n c x.kids
 len:=λ_ _ _ h=>by obtain⟨a,n,c,rfl,_⟩:=h;rfl
 one:=λ_ _ _ h=>by obtain⟨a,n,c,rfl,_⟩:=h;rfl
 mono:=λ_ _ _ _ hF h=>by obtain⟨a,n,c,e,h⟩:=h;exact⟨a,n,c,e,h.mono hF⟩
def po(w:List Nat)(E:List (List Nat))(s:Sym)(i j:Nat):Bool:=
 if s.term=true then decide (w[i]?=some s.n/\j=i+1)
 else match E[s.n]? with
  | some row=>match row[i]? with
   | some x=>x.testBit j
   | none=>false
  | none=>false
theorem Fw{w:List Nat}{E:List (List Nat)}{s:Sym}{i j:Nat}:po w E s i j=true↔Step w E s i j:=by
 unfold po Step;split
 ·simp
 ·split
  ·rename_i row h1;split
   ·rename_i x h2;refine⟨λh=>⟨row,x,h1,h2,h⟩,?_⟩;rintro⟨row',x',h3,h4,h5⟩;rw[h1] at h3;cases h3;rw[h2] at h4;cases h4;exact h5
   ·rename_i h2;refine⟨λh=>(by cases h),?_⟩;rintro⟨row',x',h3,h4,h5⟩;rw[h1] at h3;cases h3;rw[h2] at h4;cases h4
  ·rename_i h1;refine⟨λh=>(by cases h),?_⟩;rintro⟨row',x',h3,h4,h5⟩;rw[h1] at h3;cases h3
def splits(w:List Nat)(E:List (List Nat))(to:Nat):List Sym->Nat->List (List Key)
 | [],i=>if i=to then [[]] else []
 | s::l,i=>(List.range (to+1)).flatMap λm=>if po w E s i m=true then (splits w E to l m).map (⟨s,i,m⟩::·) else []
def zI(g:af)(w:List Nat)(E:List (List Nat))(k:Key)(i:Nat):List ob:=match g.rules[i]? with
 | some r=>if r.left=k.sym.n/\k.sym.term=false then (splits w E k.to r.right k.gU).map (ob.mk i) else []
 | none=>[]
def jI(g:af)(w:List Nat)(E:List (List Nat))(k:Key):List ob:=(List.range g.rules.length).flatMap (zI g w E k)
structure Jm(F:ar)(i3 i4 i5 i6 i7 i8:Nat)(k:Key)(aA:Nat)(b:Option Addr)(n d:Nat)(a:Option Addr)(m c:Nat):Prop where
 hk:F i3=some (.cells false [.bool k.sym.term,.int .i64 k.sym.n,.int .i64 k.gU,.int .i64 k.to])
 hi:F i5=some (.cells false [.int .i64 aA])
 hw:F i6=some (.cells false [.slice b n d])
 he:F i7=some (.cells false [.slice a m c])
 self:F i8=some (.cells false [.func (.func 200) ⟨[]⟩ ⟨[.pointer (some ⟨i3,0,none⟩),.pointer (some ⟨i4,0,none⟩),.pointer (some ⟨i5,0,none⟩),.pointer (some ⟨i6,0,none⟩),.pointer (some ⟨i7,0,none⟩),.pointer (some ⟨i8,0,none⟩)]⟩])
theorem Jm.mono{F G:ar}{i3 i4 i5 i6 i7 i8:Nat}{k:Key}{aA:Nat}{b:Option Addr}{n d:Nat}{a:Option Addr}{m c:Nat}(h:Jm F i3 i4 i5 i6 i7 i8 k aA b n d a m c)(hF:ar.le F G):Jm G i3 i4 i5 i6 i7 i8 k aA b n d a m c:=
 ⟨hF _ _ h.hk,hF _ _ h.hi,hF _ _ h.hw,hF _ _ h.he,hF _ _ h.self⟩
def MJ(F:ar)(i4:Nat)(B:List (Nat×aD))(outs:List ob):Prop:=∃a n c OB,B=(i4,.cells false [.slice a n c])::OB/\dy G7 F a n c OB outs
theorem MJ.mono{F G:ar}{i4:Nat}{B:List (Nat×aD)}{outs:List ob}(h:MJ F i4 B outs)(hF:ar.le F G):MJ G i4 B outs:=by
 obtain⟨a,n,c,OB,h1,h2⟩:=h;exact⟨a,n,c,OB,h1,h2.mono hF⟩
structure WS where
 u:Nat
 B:List (Nat×aD)
structure QO where
 j:Nat
 a:Option Addr
 n:Nat
 c:Nat
 B:List (Nat×aD)
theorem aW{α:Type}[Inhabited α]{d:Array α}{i:Nat}(h:i<d.size):d.toList[i]?=some d[i]!:=by
 rw[getElem!_pos d i h,RE,Uh h]
theorem dS{α:Type}[Inhabited α](d:Array α)(i j:Nat):(Go.Sort.swp d i j).toList=(d.toList.set i d[j]!).set j d[i]!:=by
 unfold Go.Sort.swp;simp
def jy{α:Type}(R:Ty α)(lt:α->α->Bool)(F:ar)(g:Nat)(first capt:List Value):Prop:=
 (∃fn,CC.func g=some fn/\fn.body.isSome=true)/\∀G,ar.le F G->∀lx ly x y,R.rel G lx x->R.rel G ly y->Abs.Spec CC g (first++[.agg ⟨lx⟩,.agg ⟨ly⟩]++capt) G [] λ_ v o=>o=[]/\∃z:Int,v=.int .i64 z/\(z<0↔lt x y=true)
theorem jy.mono{α:Type}{R:Ty α}{lt:α->α->Bool}{F G:ar}{g:Nat}{first capt:List Value}(h:jy R lt F g first capt)(hF:ar.le F G):jy R lt G g first capt:=
 ⟨h.1,λH hH=>h.2 H (hF.trans hH)⟩
structure VS(α:Type) where
 i:Nat
 d:Array α
 B:List (Nat×aD)
instance:Inhabited Item:=⟨⟨0,0,0⟩⟩
end Go.Proofs.D