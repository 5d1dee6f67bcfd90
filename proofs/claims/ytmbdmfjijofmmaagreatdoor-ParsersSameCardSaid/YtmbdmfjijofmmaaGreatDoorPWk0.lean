/-
  Walks: what functions of the program do, over the abstract machine.
-/
import Derived.Test.YtmbdmfjijofmmaaGreatDoorPCtx
import Derived.Sort.AssemblyPlain
import Derived.Sort.LotD5
set_option linter.unusedVariables false
set_option maxRecDepth 20000
set_option maxHeartbeats 0
open Go Go.Abs Go.Proofs Go.Proofs.D
namespace Go.Proofs.D
theorem DO(x m:Int)(hm:0<m):x % m=if x.tmod m<0 then x.tmod m+m else x.tmod m:=by
 rcases Int.le_total 0 x with h | h
 ·rw[Int.tmod_eq_emod_of_nonneg h,AT];have:=Int.emod_nonneg x (show m≠0 by omega);omega
 ·have h1:=Int.tmod_add_mul_tdiv x m;have h2:x.tmod m<=0:=by have:=Int.tmod_nonneg m (show 0<=-x by omega);rw[Int.neg_tmod] at this;omega
  have h3:-m<x.tmod m:=by have:=Int.lt_tmod_of_pos x hm;omega
  split
  ·rename_i h4;have:x=(x.tmod m+m)+m*(x.tdiv m-1):=by rw[Int.mul_sub];omega
   rw[show x % m=((x.tmod m+m)+m*(x.tdiv m-1)) % m by rw[<-this],Int.add_mul_emod_self_left];exact Uu zo zo
  ·have h5:x.tmod m=0:=by omega
   rw[h5];exact Int.emod_eq_zero_of_dvd (Int.dvd_of_tmod_eq_zero h5)
def below(x:Int)(m:Nat):Nat:=(x % (m:Int)).toNat
theorem Di(x:Int){m:Nat}(h:0<m):below x m<m:=by
 unfold below;have h1:=Int.emod_nonneg x (show (m:Int)≠0 by omega);have h2:=Int.emod_lt_of_pos x (show 0<(m:Int) by omega);omega
theorem wN(F:ar)(x:Int)(m:Nat)(hm:0<m)(hm2:m<=9223372036854775807):Abs.Spec CC 37 [.int .i64 x,.int .i64 m] F [] λ_ v o=>o=[]/\v=.int .i64 (below x m:Nat):=by
 have e1:=DO x m zo;have e2:-(m:Int)<x.tmod m:=Int.lt_tmod_of_pos x zo;have e3:(below x m:Int)=x % (m:Int):=by
  unfold below;exact Int.toNat_of_nonneg (Int.emod_nonneg x (show (m:Int)≠0 by omega))
 refine Abs.Spec.fn (n:=14) Tryz.func37 rfl rfl λown=>?_;refine aw ?_;refine WT.PC Z Z Z Z Z Z zo ?_;refine aw ?_;refine AW.cond Z (λhc=>?_) (λhc=>?_)
 ·have hc:=S4 hc;refine aw ?_;refine AW.ret ⟨_,[],⟨_,_,rfl,rfl,rfl⟩,Sk _,rfl,?_⟩;show Value.int .i64 _=_;rw[e3,e1,By hc]
 ·have hc:=UO hc;refine aw ?_;refine AW.ret ⟨_,[],⟨_,_,rfl,rfl,rfl⟩,Sk _,rfl,?_⟩;show Value.int .i64 _=_;rw[e3,e1,AT hc]
def mL(F:ar)(i:Nat)(B:List (Nat×aE))(l:List Int):Prop:=∃a n c,B=[(i,.cells false [.slice a n c])]/\bj iF F a n c l
theorem mL.mono{F G:ar}{i:Nat}{B:List (Nat×aE)}{l:List Int}(h:mL F i B l)(hF:ar.le F G):mL G i B l:=by
 obtain⟨a,n,c,e,h⟩:=h;exact⟨a,n,c,e,h.mono hF⟩
theorem gq(F:ar)(i:Nat){B:List (Nat×aE)}{l:List Int}(hl:mL F i B l)(m:Nat)(hm:0<m)(hm2:m<=9223372036854775807) :
  Abs.Spec CC 43 [.pointer (some ⟨i,0,none⟩),.int .i64 m] F [B] λ_ v o=>∃B',o=[B']/\∃r l',v=.int .i64 (r:Nat)/\r<m/\mL F i B' l':=by
 obtain⟨a,len,c,rfl,hl⟩:=hl;refine Abs.Spec.fn (n:=29) Tryz.func43 rfl rfl λown=>?_;have hlen:=hl.len;refine aw ?_;refine AW.cond Z (λhc=>?_) (λhc=>?_)
 ·have h0:len=0:=by simpa using hc
  refine aw ?_;exact AW.ret ⟨_,[_],⟨_,_,rfl,rfl,rfl⟩,Sk _,_,rfl,0,l,rfl,hm,a,len,c,rfl,hl⟩
 ·have h0:len≠0:=by simpa using hc
  have hlt:0<l.length:=by omega
  refine aw ?_;refine WT.bG (j:=0) hT hl Z Z Z Z Z Z Z Z Z hlt (λx hx b off ro cs lx hb hp hrel=>?_);obtain rfl:lx=[.int .i64 x]:=hrel;refine aw ?_;obtain⟨a',c',hs,ha'⟩:=hl.slice (C:=CC) (lo:=1) (hi:=len) zo (AS _) hT (t:=22) Z Z Z (some (.int .i64 1)) none rfl rfl;refine WT.slice Z Z Z Z Z Z Z Z hs ?_;refine aw ?_;refine WT.a6 Tryz.func37 Z Z Z Z Z Z (wN _ x m hm hm2) (λv hv=>?_);subst hv;refine aw ?_;exact AW.ret ⟨_,[_],⟨_,_,rfl,rfl,rfl⟩,Sk _,_,rfl,below x m,_,rfl,Di x hm,a',len-1,c',rfl,ha'⟩
theorem lq{α:Type}{p:α->Prop}{l:List α}{j:Nat}{x:α}(hx:l[j]?=some x)(h:∀y∈l.take j,p y)(h1:p x):∀y∈l.take (j+1),p y:=by
 intro y hy;rw[RZ,hx] at hy;simp at hy;rcases hy with hy | rfl
 ·exact h y hy
 ·exact h1
theorem HF(F:ar){a:Option Addr}{m c:Nat}{rs:List bW}(h:bj cC F a m c rs)(hm:m<=1000000){left:Nat}{b:Option Addr}{n d:Nat}{right:List Sym}(hr:bj fh F b n d right)(hn:n<=1000000) :
  Abs.Spec CC 44 [.slice a m c,.agg ⟨[.int .i64 left,.slice b n d]⟩] F [] λF' v o=>o=[]/\v=.bool (decide (⟨left,right⟩∈rs)):=by
 refine Abs.Spec.fn (n:=52) Tryz.func44 rfl rfl λown=>?_;have hlen:=h.len;have hrlen:=hr.len;refine AW.seq (AW.dp ?_);refine WT.cy Z Z Z Z Z Z (λi0 hi0=>?_);refine aw ?_;refine AW.range (S:=Unit) (λ_=>[]) (λ_=>_) (λj _ _=>∀x∈rs.take j,x≠⟨left,right⟩) m () Z Z Z Z Z Z Z Z Z zo Z Z (λ_=>rfl) (λ_=>rfl) sM oR (by simp) ?_ ?_
 ·intro j _ F' hF hj hP;have h:=h.mono hF;have hr:=hr.mono hF;refine aw ?_;refine WT.bG hT h Z Z Z Z Z Z Z Z Z zo (λx hx b1 off ro cs lx hb hp hrel=>?_);obtain⟨b2,n2,d2,rfl,hx2⟩:=hrel;have hx2len:=hx2.len;refine aw ?_;refine WT.aK hT Z Z Z Z Z Z (λi1 hi1=>?_);refine aw ?_;have fin:x≠⟨left,right⟩->∀y∈rs.take (j+1),y≠⟨left,right⟩:=lq hx hP;refine WT.split 20 Z (λhne=>?_) (λhne=>?_)
  ·refine aw ?_;refine AW.cond Z (λ_=>?_) (λhc=>(by cases hc));refine AW.exit ⟨(),sM,dH,fin ?_⟩;intro e;subst e;simp at hne
  ·refine aw ?_;refine AW.cond Z (λhc=>?_) (λhc=>?_)
   ·refine AW.exit ⟨(),sM,dH,fin ?_⟩;simp at hc;intro e;rw[e] at hx2len;simp at hx2len;omega
   ·have hc:n2=n:=by simp at hc;omega
    have hne:x.left=left:=by simp at hne;omega
    refine aw ?_;refine AW.range (S:=Bool) (λs=>[(7,.bool s)]) (λ_=>_) (λj s _=>s=decide (x.right.take j=right.take j)) n2 true Z Z Z Z Z Z Z Z Z zo Z Z (λ_=>rfl) (λ_=>rfl) sM oR (by simp) ?_ ?_
    ·intro q s F'' hF2 hq hP2;have hx2:=hx2.mono hF2;have hr:=hr.mono hF2;have hlt1:q<x.right.length:=by omega
     have hlt2:q<right.length:=by omega
     have tk:(x.right.take (q+1)=right.take (q+1))↔(x.right.take q=right.take q/\x.right[q]=right[q]):=by
      rw[RZ,RZ,gE hlt1,gE hlt2];constructor
      ·intro he;have:=List.append_inj' he rfl;simpa using this
      ·rintro⟨e1,e2⟩;rw[e1,e2]
     refine aw ?_;refine WT.split 36 Z (λhs=>?_) (λhs=>?_)
     ·refine aw ?_;refine WT.bG hT hx2 Z Z Z Z Z Z Z Z Z hlt1 (λy hy b3 off3 ro3 cs3 l3 hb3 hp3 hrel3=>?_);obtain rfl:=hrel3;refine aw ?_;refine WT.bG hT hr Z Z Z Z Z Z Z Z Z hlt2 (λz hz b4 off4 ro4 cs4 l4 hb4 hp4 hrel4=>?_);obtain rfl:=hrel4;refine aw ?_;refine⟨_,sM,dH,?_⟩;rw[gE hlt1] at hy;rw[gE hlt2] at hz;cases hy;cases hz;rw[hs] at hP2;have:=M2 x.right[q] right[q];refine this.trans ?_;have h1:=S4 hP2.symm;simp[tk,h1]
     ·refine aw ?_;refine⟨_,sM,dH,?_⟩;rw[hs] at hP2;have h1:=UO hP2.symm;simp[tk,h1]
    ·intro s F'' hF2 hs;rw[RN zo,RN zo] at hs;refine aw ?_;refine AW.cond Z (λhc=>?_) (λhc=>?_)
     ·refine aw ?_;refine AW.ret ⟨_,[],⟨_,_,rfl,rfl,rfl⟩,(Tf ..).trans (Tf ..),rfl,?_⟩;rw[hc] at hs;have e:=S4 hs.symm;have:(⟨left,right⟩:bW)∈rs:=by
       have:x=⟨left,right⟩:=by cases x;simp at hne e;simp[hne,e]
       rw[<-this];exact gM hx
      simp[this,ej]
     ·refine aw ?_;refine⟨(),sM,dH,fin ?_⟩;rintro rfl;rw[hc] at hs;simp at hs
 ·intro _ F' hF hP;refine aw ?_;refine AW.ret ⟨_,[],⟨_,_,rfl,rfl,rfl⟩,Tf ..,rfl,?_⟩;rw[RN zo] at hP;have:(⟨left,right⟩:bW)∉rs:=λhm=>hP _ hm rfl;simp[this,ej]
def ck(t n:Nat)(y:Sym):Prop:=if y.term=true then y.n<t else y.n<n
def Ik(t n:Nat)(r:bW):Prop:=r.left<n/\r.right.length<=3/\∀y∈r.right,ck t n y
structure Small(g:ai):Prop where
 ae:1<=g.ae/\g.ae<=3
 au:1<=g.au/\g.au<=4
 start:g.start<g.au
 rules:1<=g.rules.length/\g.rules.length<=8
 nodup:g.rules.Nodup
 ok:∀r∈g.rules,Ik g.ae g.au r
structure GS where
 xs:List bW
 a:Option Addr
 m:Nat
 c:Nat
 B:List (Nat×aE)
 Bs:List (Nat×aE)
structure GI where
 ys:List Sym
 a:Option Addr
 m:Nat
 c:Nat
 B:List (Nat×aE)
 Bs:List (Nat×aE)
theorem A6(F:ar){a:Option Addr}{n c:Nat}{l:List Int}(hl:bj iF F a n c l) :
  Abs.Spec CC 8 [.slice a n c] F [] λF' v o=>o=[]/\∃g,FR F' v g/\Small g:=by
 refine Abs.Spec.fn (n:=72) Tryz.func8 rfl rfl λown=>?_;refine AW.seq (AW.dp ?_);refine WT.aK hT Z Z Z Z Z Z (λi2 hi2=>?_);refine aw ?_;refine WT.cy Z Z Z Z Z Z (λi8 hi8=>?_);refine aw ?_;refine WT.pI (B:=[(i8,.cells false [.slice a n c])]) 0 Tryz.func43 Z Z Z Z Z Z Z (λ_=>rfl) (gq F i8 ⟨a,n,c,rfl,hl⟩ 3 (by decide) (by decide)) (λv B1 hv=>?_);obtain⟨r1,l1,rfl,hr1,hs1⟩:=hv;refine aw ?_;refine WT.pI 0 Tryz.func43 Z Z Z Z Z Z Z (λ_=>rfl) (gq F i8 hs1 4 (by decide) (by decide)) (λv B2 hv=>?_);obtain⟨r2,l2,rfl,hr2,hs2⟩:=hv;refine aw ?_
 refine WT.aK hT Z Z Z Z Z Z (λi4 hi4=>?_);refine aw ?_;refine WT.pI 1 Tryz.func43 Z Z Z Z Z Z Z (λ_=>rfl) (gq F i8 hs2 (1+r2) zo zo) (λv B3 hv=>?_);obtain⟨r3,l3,rfl,hr3,hs3⟩:=hv;refine aw ?_;refine WT.pI 1 Tryz.func43 Z Z Z Z Z Z Z (λ_=>rfl) (gq F i8 hs3 8 (by decide) (by decide)) (λv B4 hv=>?_);obtain⟨r4,l4,rfl,hr4,hs4⟩:=hv;refine aw ?_
 refine AW.range (S:=GS) (λ_=>[]) (λs=>[(i4,.cells false [.int .i64 (1+r1:Nat),.int .i64 (1+r2:Nat),.int .i64 r3,.slice s.a s.m s.c])]::s.B::s.Bs::[(i2,.cells false [.int .i64 0,.int .i64 0,.int .i64 0,.slice none 0 0])]::own)
  (λj s G=>dR cC G s.a s.m s.c s.B s.xs/\(∃l,mL G i8 s.Bs l)/\(∀r∈s.xs,Ik (1+r1) (1+r2) r)/\s.xs.Nodup/\s.xs.length<=j/\(0<j->1<=s.xs.length)) (1+r4) ⟨[],none,0,0,[],B4⟩
  Z Z Z Z Z Z Z Z Z zo rfl rfl (λ_=>rfl) (λ_=>rfl) sM (ah.flat (NO _)) ⟨dR.gz _ _,⟨_,hs4⟩,by simp,by simp,by simp,by simp⟩ ?_ ?_
 ·intro j s F1 hF1 hj hP;obtain⟨hb,⟨ls,hst⟩,hok,hnd,hlen,hpos⟩:=hP;have hm1:=hb.len;refine aw ?_;refine WT.pI 2 Tryz.func43 Z Z Z Z Z Z Z (λ_=>rfl) (gq F1 i8 hst (1+r2) zo zo) (λv B5 hv=>?_);obtain⟨r5,l5,rfl,hr5,hs5⟩:=hv;refine aw ?_;refine WT.aK hT Z Z Z Z Z Z (λi5 hi5=>?_);refine aw ?_;refine WT.pI 3 Tryz.func43 Z Z Z Z Z Z Z (λ_=>rfl) (gq F1 i8 hs5 4 (by decide) (by decide)) (λv B6 hv=>?_);obtain⟨r6,l6,rfl,hr6,hs6⟩:=hv;refine aw ?_
  refine AW.range (S:=GI) (λ_=>[]) (λs2=>[(i5,.cells false [.int .i64 r5,.slice s2.a s2.m s2.c])]::s2.B::[(i4,.cells false [.int .i64 (1+r1:Nat),.int .i64 (1+r2:Nat),.int .i64 r3,.slice s.a s.m s.c])]::s.B::s2.Bs::[(i2,.cells false [.int .i64 0,.int .i64 0,.int .i64 0,.slice none 0 0])]::own)
   (λj s G=>dR fh G s.a s.m s.c s.B s.ys/\(∃l,mL G i8 s.Bs l)/\(∀y∈s.ys,ck (1+r1) (1+r2) y)/\s.ys.length=j) r6 ⟨[],none,0,0,[],B6⟩
   Z Z Z Z Z Z Z Z Z zo rfl rfl (λ_=>rfl) (λ_=>rfl) sM (ah.flat (NO _)) ⟨dR.gz _ _,⟨_,hs6⟩,by simp,by simp⟩ ?_ ?_
  ·intro q s2 F2 hF2 hq hP2;obtain⟨hb2,⟨ls2,hst2⟩,hok2,hlen2⟩:=hP2;have hm2:=hb2.len;refine aw ?_;refine WT.pI 4 Tryz.func43 Z Z Z Z Z Z Z (λ_=>rfl) (gq F2 i8 hst2 2 (by decide) (by decide)) (λv B7 hv=>?_);obtain⟨r7,l7,rfl,hr7,hs7⟩:=hv;refine aw ?_;refine AW.cond Z (λhc=>?_) (λhc=>?_)
   ·refine AW.draw (ps:=[(1,5),(1,7)]) Z Z ?_;refine aw ?_;refine WT.pI 4 Tryz.func43 Z Z Z Z Z Z Z (λ_=>rfl) (gq F2 i8 hs7 (1+r1) zo zo) (λv B8 hv=>?_);obtain⟨r8,l8,rfl,hr8,hs8⟩:=hv;refine aw ?_;refine WT.be hT Z Z Z Z Z Z Z Z Z Z Z Z Z Z (λi9 hi9=>?_);refine WT.bX (ys:=[⟨true,r8⟩]) hT 2 hb2 Z (λ_=>rfl) Z Z Z Z Z Z Z Z Z Z Z (λh0 s0=>bw hT s0 0 Z Z Z Z) (aH.single (x:=(⟨true,r8⟩:Sym)) rfl) Z (by decide) kF (λa3 c3 B3 hB3=>?_);refine aw ?_;refine⟨oY,?_⟩;refine⟨⟨s2.ys++[⟨true,r8⟩],a3,s2.m+1,c3,B3,B8⟩,sM,dH,hB3,⟨_,hs8⟩,?_,by simp[hlen2]⟩
    intro y hy;rcases R5.1 hy with hy | hy
    ·exact hok2 y hy
    ·obtain rfl:=RK.1 hy;exact hr8
   ·refine AW.draw (ps:=[(1,5),(1,7)]) Z Z ?_;refine aw ?_;refine WT.pI 4 Tryz.func43 Z Z Z Z Z Z Z (λ_=>rfl) (gq F2 i8 hs7 (1+r2) zo zo) (λv B8 hv=>?_);obtain⟨r8,l8,rfl,hr8,hs8⟩:=hv;refine aw ?_;refine WT.be hT Z Z Z Z Z Z Z Z Z Z Z Z Z Z (λi9 hi9=>?_);refine WT.bX (ys:=[⟨false,r8⟩]) hT 2 hb2 Z (λ_=>rfl) Z Z Z Z Z Z Z Z Z Z Z (λh0 s0=>bw hT s0 0 Z Z Z Z) (aH.single (x:=(⟨false,r8⟩:Sym)) rfl) Z (by decide) kF (λa3 c3 B3 hB3=>?_);refine aw ?_;refine⟨oY,?_⟩;refine⟨⟨s2.ys++[⟨false,r8⟩],a3,s2.m+1,c3,B3,B8⟩,sM,dH,hB3,⟨_,hs8⟩,?_,by simp[hlen2]⟩
    intro y hy;rcases R5.1 hy with hy | hy
    ·exact hok2 y hy
    ·obtain rfl:=RK.1 hy;exact hr8
  ·intro s2 F2 hF2 hP2;obtain⟨hb2,⟨ls2,hst2⟩,hok2,hlen2⟩:=hP2;have hm2:=hb2.len;refine AW.ay 1 Z Z (λF3 hF3 hB3=>?_);have hy:=hb2.frozen hF3 hB3;have hb:=(hb.mono hF2).mono hF3;have hst2:=hst2.mono hF3;refine aw ?_;refine WT.jt 3 Tryz.func44 Z Z Z Z Z Z Z (λG hG hBG=>HF G (left:=r5) (hb.frozen hG hBG) kF (hy.mono hG) kF) (λv hv=>?_);subst hv;refine aw ?_;refine AW.cond Z (λhc=>?_) (λhc=>?_)
   ·refine aw ?_;refine WT.be hT Z Z Z Z Z Z Z Z Z Z Z Z Z Z (λi9 hi9=>?_);refine WT.bX (ys:=[⟨r5,s2.ys⟩]) hT 4 hb Z (λ_=>rfl) Z Z Z Z Z Z Z Z Z Z Z (λh0 s0=>bw hT s0 0 Z Z Z Z) (aH.single (R:=cC) (x:=(⟨r5,s2.ys⟩:bW)) ⟨_,_,_,rfl,hy⟩) Z (by decide) kF (λa3 c3 B3 hB3=>?_);refine QK ?_;refine⟨⟨s.xs++[⟨r5,s2.ys⟩],a3,s.m+1,c3,B3,s2.Bs⟩,sM,dH,hB3,⟨_,hst2⟩,?_,?_,?_,?_⟩
    ·intro r hr;rcases R5.1 hr with hr | hr
     ·exact hok r hr
     ·obtain rfl:=RK.1 hr;exact⟨by simp;omega,by simp;omega,hok2⟩
    ·rw[S5];refine⟨hnd,by simp,λx hx y hy=>?_⟩;obtain rfl:=RK.1 hy;rintro rfl;simp[hx] at hc
    ·simp;omega
    ·simp
   ·refine aw ?_;have hin:(⟨r5,s2.ys⟩:bW)∈s.xs:=by simpa using hc
    refine⟨{ s with Bs:=s2.Bs },sM,dH,hb,⟨_,hst2⟩,hok,hnd,by dsimp only;omega,λ_=>Ur hin⟩
 ·intro s F1 hF1 hP;obtain⟨hb,⟨ls,hst⟩,hok,hnd,hlen,hpos⟩:=hP;refine AW.ay 1 Z Z (λF3 hF3 hB3=>?_);have hx:=hb.frozen hF3 hB3;refine aw ?_;have hx3:=hb.len;refine AW.ret ⟨_,[],⟨_,_,⟨_,rfl,λG h0 s0=>br (s0.has (p:=3) Z me) (bO hT rfl)⟩,rfl,rfl⟩,bY,rfl,⟨1+r1,1+r2,r3,s.xs⟩,⟨_,_,_,rfl,hx⟩,?_⟩;exact⟨by dsimp only;omega,by dsimp only;omega,hr3,by dsimp only;omega,hnd,hok⟩
theorem vT(F:ar)(x:Int):Abs.Spec CC 175 [.int .i64 x] F [] λ_ v o=>o=[]/\v=.bool false:=by
 refine Abs.Spec.fn (n:=6) Tryz.func175 rfl rfl λown=>?_;refine aw ?_;exact AW.ret ⟨_,[],⟨_,_,rfl,rfl,rfl⟩,Sk _,rfl,by simp[ej]⟩
def aZ(x y:Int):Int:=if x<y then -1 else if x > y then 1 else 0
theorem dT(F:ar)(x y:Int):Abs.Spec CC 124 [.int .i64 x,.int .i64 y] F [] λ_ v o=>o=[]/\v=.int .i64 (aZ x y):=by
 refine Abs.Spec.fn (n:=20) Tryz.func124 rfl rfl λown=>?_;refine aw ?_;refine WT.a6 Tryz.func175 Z Z Z Z Z Z (vT _ x) (λv hv=>?_);subst hv;refine aw ?_;refine WT.a6 Tryz.func175 Z Z Z Z Z Z (vT _ y) (λv hv=>?_);subst hv;refine aw ?_;refine AW.cond Z (λhc=>(by cases hc)) (λ_=>?_);refine aw ?_;refine AW.cond Z (λhc=>(by cases hc)) (λ_=>?_);refine aw ?_;refine AW.cond Z (λhc=>?_) (λhc=>?_)
 ·refine aw ?_;exact AW.ret ⟨_,[],⟨_,_,rfl,rfl,rfl⟩,Sk _,rfl,by simp at hc;simp[ej,aZ,hc]⟩
 ·refine aw ?_;refine AW.cond Z (λhc2=>?_) (λhc2=>?_)
  ·refine aw ?_;exact AW.ret ⟨_,[],⟨_,_,rfl,rfl,rfl⟩,Sk _,rfl,by simp at hc hc2;simp[ej,aZ];omega⟩
  ·refine aw ?_;exact AW.ret ⟨_,[],⟨_,_,rfl,rfl,rfl⟩,Sk _,rfl,by simp at hc hc2;simp[ej,aZ];omega⟩
def jI:List Int->Int
 | []=>0
 | x::l=>if x=0 then jI l else x
theorem vE{l:List Int}{j:Nat}(h:∀y∈l.take j,y=0):jI l=jI (l.drop j):=by
 induction j generalizing l with
 | zero=>simp
 | succ j ih=>
  cases l with
  | nil=>simp
  | cons x l=>
   have hx:x=0:=h x (by simp);simp only[jI,hx,SU,UI];exact ih (λy hy=>h y (by simp[hy]))
theorem vd(F:ar){a:Option Addr}{m c:Nat}{l:List Int}(hl:bj iF F a m c l)(hm:m<=1000000):Abs.Spec CC 123 [.slice a m c] F [] λ_ v o=>o=[]/\v=.int .i64 (jI l):=by
 refine Abs.Spec.fn (n:=18) Tryz.func123 rfl rfl λown=>?_;have hlen:=hl.len;refine aw ?_;refine AW.range (S:=Unit) (λ_=>[]) (λ_=>_) (λj _ _=>∀y∈l.take j,y=0) m () Z Z Z Z Z Z Z Z Z zo Z Z (λ_=>rfl) (λ_=>rfl) sM oR (by simp) ?_ ?_
 ·intro j _ F1 hF1 hj hP;have hl1:=hl.mono hF1;refine aw ?_;refine WT.bG hT hl1 Z Z Z Z Z Z Z Z Z zo (λx hx b1 off ro cs lx hb hp hrel=>?_);obtain rfl:lx=_:=hrel;refine aw ?_;refine AW.cond Z (λhc=>?_) (λhc=>?_)
  ·refine aw ?_;refine AW.ret ⟨_,[],⟨_,_,rfl,rfl,rfl⟩,Sk _,rfl,?_⟩;have hc:x≠0:=by simpa using hc
   rw[vE hP,Sa (show j<l.length by omega)];have:l[j]=x:=by rw[gE zo] at hx;simpa using hx
   simp[jI,this,hc,ej]
  ·refine aw ?_;have hc:x=0:=by simpa using hc
   exact⟨(),sM,dH,lq hx hP hc⟩
 ·intro _ F1 hF1 hP;refine aw ?_;refine AW.ret ⟨_,[],⟨_,_,rfl,rfl,rfl⟩,Sk _,rfl,?_⟩;rw[vE hP,SP zo];rfl
def dw(a b:Sym):Int:=if a.term=b.term then aZ a.n b.n else if a.term=true then -1 else 1
theorem xg(F:ar)(a b:Sym):Abs.Spec CC 184 [.agg ⟨[.bool a.term,.int .i64 a.n]⟩,.agg ⟨[.bool b.term,.int .i64 b.n]⟩] F [] λ_ v o=>o=[]/\v=.int .i64 (dw a b):=by
 refine Abs.Spec.fn (n:=17) Tryz.func184 rfl rfl λown=>?_;refine AW.seq (AW.dp ?_);refine WT.cy Z Z Z Z Z Z (λi1 hi1=>?_);refine WT.cy Z Z Z Z Z Z (λi2 hi2=>?_);refine aw ?_;refine AW.cond Z (λhc=>?_) (λhc=>?_)
 ·have hc:a.term≠b.term:=by simpa using hc
  refine aw ?_;refine AW.cond Z (λhc2=>?_) (λhc2=>?_)
  ·refine aw ?_;refine AW.ret ⟨_,[],⟨_,_,rfl,rfl,rfl⟩,bY,rfl,?_⟩;rw[dw,AT hc,By hc2];rfl
  ·refine aw ?_;refine AW.ret ⟨_,[],⟨_,_,rfl,rfl,rfl⟩,bY,rfl,?_⟩;rw[dw,AT hc,AT (by simp[hc2])];rfl
 ·have hc:a.term=b.term:=by simpa using hc
  refine aw ?_;refine WT.a6 Tryz.func124 Z Z Z Z Z Z (dT _ _ _) (λv hv=>?_);subst hv;refine aw ?_;refine AW.ret ⟨_,[],⟨_,_,rfl,rfl,rfl⟩,bY,rfl,?_⟩;simp[dw,hc,ej]
def eW:List Sym->List Sym->Int
 | [],[]=>0
 | [],_::_=>-1
 | _::_,[]=>1
 | a::l,b::m=>if dw a b=0 then eW l m else dw a b
theorem jL:∀(j:Nat) (l m:List Sym),j<=l.length->j<=m.length->(∀i (h1:i<l.length) (h2:i<m.length),i<j->dw l[i] m[i]=0)->eW l m=eW (l.drop j) (m.drop j)
 | 0,l,m,_,_,_=>by simp
 | j+1,[],m,h,_,_=>by simp at h
 | j+1,_::_,[],_,h,_=>by simp at h
 | j+1,a::l,b::m,h1,h2,h=>by
  have h0:=h 0 (by simp) (by simp) zo;simp only[UW] at h0;simp only[eW,h0,SU,UI];exact jL j l m (by simpa using h1) (by simpa using h2) (λi h3 h4 h5=>h (i+1) (by simpa using h3) (by simpa using h4) zo)
theorem tX(F:ar){a b:Option Addr}{m n c d:Nat}{xs ys:List Sym}(hx:bj fh F a m c xs)(hy:bj fh F b n d ys)(hm:m<=1000000)(hn:n<=1000000) :
  Abs.Spec CC 183 [.slice a m c,.slice b n d,.func (.func 184) ⟨[]⟩ ⟨[]⟩] F [] λ_ v o=>o=[]/\v=.int .i64 (eW xs ys):=by
 refine Abs.Spec.fn (n:=39) Tryz.func183 rfl rfl λown=>?_;have hxlen:=hx.len;have hylen:=hy.len;refine aw ?_;refine AW.range (S:=Unit) (λ_=>[]) (λ_=>_) (λj _ _=>j<=n/\∀i (h1:i<xs.length) (h2:i<ys.length),i<j->dw xs[i] ys[i]=0) m () Z Z Z Z Z Z Z Z Z zo Z Z (λ_=>rfl) (λ_=>rfl) sM oR ⟨by omega,by omega⟩ ?_ ?_
 ·intro j _ F1 hF1 hj hP;obtain⟨hjn,hP⟩:=hP;have hx1:=hx.mono hF1;have hy1:=hy.mono hF1;refine aw ?_;refine WT.bG hT hx1 Z Z Z Z Z Z Z Z Z zo (λx hxj b1 off ro cs lx hb hp hrel=>?_);obtain rfl:lx=_:=hrel;refine aw ?_;refine WT.aK hT Z Z Z Z Z Z (λi1 hi1=>?_);refine aw ?_;refine AW.cond Z (λhc=>?_) (λhc=>?_)
  ·have hc:n<=j:=by simp at hc;omega
   refine aw ?_;refine AW.ret ⟨_,[],⟨_,_,rfl,rfl,rfl⟩,bY,rfl,?_⟩;rw[jL j xs ys zo zo hP,SP (show ys.length<=j by omega),Sa (show j<xs.length by omega)];rfl
  ·have hc:j<n:=by simp at hc;omega
   refine aw ?_;refine WT.bG hT hy1 Z Z Z Z Z Z Z Z Z zo (λy hyj b2 off2 ro2 cs2 ly hb2 hp2 hrel2=>?_);obtain rfl:ly=_:=hrel2;refine aw ?_;refine WT.aK hT Z Z Z Z Z Z (λi2 hi2=>?_);refine aw ?_;refine WT.eB Tryz.func184 Z Z Z Z Z Z Z Z (xg _ x y) (λv hv=>?_);subst hv;have ex:xs[j]'zo=x:=by rw[gE zo] at hxj;simpa using hxj
   have ey:ys[j]'zo=y:=by rw[gE zo] at hyj;simpa using hyj
   refine aw ?_;refine AW.cond Z (λhc2=>?_) (λhc2=>?_)
   ·have hc2:dw x y≠0:=by simpa using hc2
    refine aw ?_;refine AW.ret ⟨_,[],⟨_,_,rfl,rfl,rfl⟩,bY,rfl,?_⟩;rw[jL j xs ys zo zo hP,Sa (show j<xs.length by omega),Sa (show j<ys.length by omega)];simp[eW,ex,ey,hc2,ej]
   ·have hc2:dw x y=0:=by simpa using hc2
    refine aw ?_;refine⟨(),sM,dH,by omega,λi h1 h2 h3=>?_⟩;rcases R2 i j with h4 | h4
    ·exact hP i h1 h2 h4
    ·have:i=j:=by omega
     subst this;rw[ex,ey];exact hc2
 ·intro _ F1 hF1 hP;obtain⟨hjn,hP⟩:=hP;refine aw ?_;have e:=jL m xs ys zo zo hP;rw[SP (show xs.length<=m by omega)] at e;refine AW.cond Z (λhc=>?_) (λhc=>?_)
  ·have hc:m<n:=by simp at hc;omega
   refine aw ?_;refine AW.ret ⟨_,[],⟨_,_,rfl,rfl,rfl⟩,bY,rfl,?_⟩;rw[e,Sa (show m<ys.length by omega)];rfl
  ·have hc:m=n:=by simp at hc;omega
   refine aw ?_;refine AW.ret ⟨_,[],⟨_,_,rfl,rfl,rfl⟩,bY,rfl,?_⟩;rw[e,SP (show ys.length<=m by omega)];rfl
def vr(a b:bW):Int:=jI [aZ a.left b.left,eW a.right b.right]
theorem nA{x y:Int}:aZ x y=0↔x=y:=by unfold aZ;split<;>(try split)<;>omega
theorem uu{a b:Sym}:dw a b=0↔a=b:=by
 obtain⟨s,n⟩:=a;obtain⟨t,m⟩:=b;unfold dw;simp only[Sym.mk.injEq];by_cases h:s=t
 ·simp[h,nA];omega
 ·simp only[h,Te,false_and,iff_false];split<;>decide
theorem qW:∀(l m:List Sym),eW l m=0↔l=m
 | [],[]=>by simp[eW]
 | [],_::_=>by simp[eW]
 | _::_,[]=>by simp[eW]
 | a::l,b::m=>by
  simp only[eW,R1];by_cases h:dw a b=0
  ·simp only[h,SU,qW l m];simp[uu.1 h]
  ·rw[AT h];constructor
   ·intro h2;exact absurd h2 h
   ·rintro⟨h2,_⟩;exact absurd (uu.2 h2) h
theorem AX{a b:bW}:vr a b=0↔a=b:=by
 obtain⟨x,l⟩:=a;obtain⟨y,m⟩:=b;simp only[vr,jI,bW.mk.injEq];by_cases h:aZ x y=0
 ·simp only[h,SU];have h3:=nA.1 h;have:x=y:=by omega
  simp only[this,true_and];have h2:=qW l m;split
  ·rename_i h4;simp[h2.1 h4]
  ·rename_i h4;constructor
   ·intro h5;exact absurd h5 h4
   ·intro h5;exact absurd (h2.2 h5) h4
 ·rw[AT h];constructor
  ·intro h2;exact absurd h2 h
  ·rintro⟨h2,_⟩;exact absurd (nA.2 (by rw[h2])) h
theorem tw(F:ar)(x y:bW){a b:Option Addr}{m n c d:Nat}(hx:bj fh F a m c x.right)(hy:bj fh F b n d y.right)(hm:m<=1000000)(hn:n<=1000000) :
  Abs.Spec CC 140 [.agg ⟨[.int .i64 x.left,.slice a m c]⟩,.agg ⟨[.int .i64 y.left,.slice b n d]⟩] F [] λ_ v o=>o=[]/\v=.int .i64 (vr x y):=by
 refine Abs.Spec.fn (n:=17) Tryz.func140 rfl rfl λown=>?_;refine AW.seq (AW.dp ?_);refine WT.cy Z Z Z Z Z Z (λi1 hi1=>?_);refine WT.cy Z Z Z Z Z Z (λi2 hi2=>?_);refine aw ?_;refine AW.draw (ps:=[(6,4),(8,4)]) Z Z ?_;refine aw ?_;refine WT.a6 Tryz.func124 Z Z Z Z Z Z (dT _ _ _) (λv hv=>?_);subst hv;refine aw ?_;refine WT.a6 Tryz.func183 Z Z Z Z Z Z (tX _ hx hy hm hn) (λv hv=>?_);subst hv;refine WT.be hT Z Z Z Z Z Z Z Z Z Z Z Z Z Z (λi9 hi9=>?_)
 refine WT.jt 0 Tryz.func123 Z Z Z Z Z Z Z (λG hG hBG=>vd G (l:=[aZ x.left y.left,eW x.right y.right]) (dR.frozen (F:=F) (B:=[(i9,.cells false [.int .i64 (aZ x.left y.left),.int .i64 (eW x.right y.right)])]) ⟨rfl,.inr ⟨i9,_,rfl,rfl,rfl,aH.cons (l:=[_]) Z (aH.single (x:=eW x.right y.right) rfl),by decide⟩⟩ hG hBG) (by decide)) (λv hv=>?_);subst hv;refine aw ?_;refine⟨oY,?_⟩;exact AW.ret ⟨_,[],⟨_,_,rfl,rfl,rfl⟩,bY,rfl,rfl⟩
def idxOf{α:Type}(p:α->Bool):List α->Int
 | []=>-1
 | x::l=>if p x=true then 0 else if idxOf p l=-1 then -1 else idxOf p l+1
theorem w9{α:Type}(p:α->Bool):∀l:List α,-1<=idxOf p l
 | []=>by simp[idxOf]
 | x::l=>by have:=w9 p l;simp only[idxOf];split<;>(try split)<;>omega
theorem qd{α:Type}{p:α->Bool}:∀{l:List α} {j:Nat},j<=l.length->(∀y∈l.take j,p y=false)->idxOf p l=if idxOf p (l.drop j)=-1 then -1 else idxOf p (l.drop j)+j
 | l,0,_,_=>by simp
 | [],j+1,h,_=>by simp at h
 | x::l,j+1,h,h2=>by
  have hx:p x=false:=h2 x (by simp);have ih:=@qd α p l j (by simpa using h) (λy hy=>h2 y (by simp[hy]));have:=w9 p (l.drop j);simp only[idxOf,hx,UI];rw[ih];by_cases h3:idxOf p (l.drop j)=-1
  ·simp[h3]
  ·simp only[h3,Te];rw[AT (by simp),AT zo];omega
theorem pD{α:Type}{p:α->Bool}:∀{l:List α},0<=idxOf p l↔l.any p=true
 | []=>by simp[idxOf]
 | x::l=>by
  have ih:=@pD α p l;have:=w9 p l;simp only[idxOf,List.any_cons,SZ,<-ih];by_cases hx:p x=true
  ·simp[hx]
  ·rw[AT hx];constructor
   ·intro h;right;split at h<;>omega
   ·intro h;rcases h with h | h
    ·exact absurd h hx
    ·rw[AT zo];omega
theorem mq{α:Type}{p:α->Bool}{l:List α}:decide (idxOf p l≥0)=l.any p:=by
 rw[Ta,Su];exact pD
theorem BZ{α:Type}{p:α->Bool}{l:List α}{j:Nat}{x:α}(hx:l[j]?=some x)(hp:p x=true)(h:∀y∈l.take j,p y=false):idxOf p l=j:=by
 have hj:j<l.length:=(gS hx).1;rw[qd zo h,Sa hj];have:l[j]=x:=by rw[gE hj] at hx;simpa using hx
 simp[idxOf,this,hp]
theorem wj{α:Type}{p:α->Bool}{l:List α}(h:∀y∈l,p y=false):idxOf p l=-1:=by
 rw[qd (j:=l.length) (AS _) (by simpa using h)];simp[idxOf]
theorem OA{p:Prop} (h:p:=by
 have hxlen:=hx.len;refine aw ?_;refine AW.range (S:=Unit) (λ_=>[]) (λ_=>_) (λj _ G=>G=F/\∀y∈xs.take j,p y=false) m () Z Z Z Z Z Z Z Z Z zo Z Z (λ_=>rfl) (λ_=>rfl) sM oR ⟨rfl,by simp⟩ ?_ ?_
 ·intro j _ F1 hF1 hj hP;obtain⟨rfl,hP⟩:=hP;refine aw ?_;refine WT.bG hT hx Z Z Z Z Z Z Z Z Z zo (λx hxj b1 off ro cs lx hb hp1 hrel=>?_);obtain rfl:lx=_:=hrel;refine aw ?_;refine WT.eB hg hgb Z Z Z Z Z Z Z (hp x (gM hxj) ) (λv hv=>?_);subst hv;refine aw ?_;refine AW.cond Z (λhc=>?_) (λhc=>?_)
  ·refine aw ?_;refine AW.ret ⟨_,[],⟨_,_,rfl,rfl,rfl⟩,bY,rfl,?_⟩;rw[BZ hxj hc hP];rfl
  ·refine aw ?_;exact⟨(),sM,dH,rfl,lq hxj hP hc⟩
 ·intro _ F1 hF1 hP;obtain⟨rfl,hP⟩:=hP;rw[RN zo] at hP;refine aw ?_;refine AW.ret ⟨_,[],⟨_,_,rfl,rfl,rfl⟩,bY,rfl,?_⟩;rw[wj hP];rfl):p:=h
theorem xL(F:ar){a:Option Addr}{m c:Nat}{xs:List Sym}(hx:bj fh F a m c xs)(hm:m<=1000000)(p:Sym->Bool){g:Nat}{fn:Func}{first capt:List Value}(hg:CC.func g=some fn)(hgb:fn.body.isSome=true)
  (hp:∀x∈xs,  Abs.Spec CC g (first++[.agg ⟨[.bool x.term,.int .i64 x.n]⟩]++capt) F [] λ_ v o=>o=[]/\v=.bool (p x)) :
  Abs.Spec CC 109 [.slice a m c,.func (.func g) ⟨first⟩ ⟨capt⟩] F [] λ_ v o=>o=[]/\v=.int .i64 (idxOf p xs):=by
 refine Abs.Spec.fn (n:=19) Tryz.func109 rfl rfl λown=>?_;exact OA
theorem Cb(F:ar){a:Option Addr}{m c:Nat}{xs:List Sym}(hx:bj fh F a m c xs)(hm:m<=1000000)(p:Sym->Bool){g:Nat}{fn:Func}{first capt:List Value}(hg:CC.func g=some fn)(hgb:fn.body.isSome=true)
  (hp:∀x∈xs,  Abs.Spec CC g (first++[.agg ⟨[.bool x.term,.int .i64 x.n]⟩]++capt) F [] λ_ v o=>o=[]/\v=.bool (p x)) :
  Abs.Spec CC 55 [.slice a m c,.func (.func g) ⟨first⟩ ⟨capt⟩] F [] λ_ v o=>o=[]/\v=.bool (xs.any p):=by
 refine Abs.Spec.fn (n:=9) Tryz.func55 rfl rfl λown=>?_;refine aw ?_;refine WT.a6 Tryz.func109 Z Z Z Z Z Z (xL _ hx hm p hg hgb hp) (λv hv=>?_);subst hv;refine aw ?_;refine AW.ret ⟨_,[],⟨_,_,rfl,rfl,rfl⟩,bY,rfl,?_⟩;rw[<-mq];rfl
theorem wA(F:ar){a:Option Addr}{m c:Nat}{xs:List bW}(hx:bj cC F a m c xs)(hm:m<=1000000)(p:bW->Bool){g:Nat}{fn:Func}{first capt:List Value}(hg:CC.func g=some fn)(hgb:fn.body.isSome=true)
  (hp:∀x∈xs,∀b n d,bj fh F b n d x.right->Abs.Spec CC g (first++[.agg ⟨[.int .i64 x.left,.slice b n d]⟩]++capt) F [] λ_ v o=>o=[]/\v=.bool (p x)) :
  Abs.Spec CC 108 [.slice a m c,.func (.func g) ⟨first⟩ ⟨capt⟩] F [] λ_ v o=>o=[]/\v=.int .i64 (idxOf p xs):=by
 refine Abs.Spec.fn (n:=19) Tryz.func108 rfl rfl λown=>?_;have hxlen:=hx.len;refine aw ?_;refine AW.range (S:=Unit) (λ_=>[]) (λ_=>_) (λj _ G=>G=F/\∀y∈xs.take j,p y=false) m () Z Z Z Z Z Z Z Z Z zo Z Z (λ_=>rfl) (λ_=>rfl) sM oR ⟨rfl,by simp⟩ ?_ ?_
 ·intro j _ F1 hF1 hj hP;obtain⟨rfl,hP⟩:=hP;refine aw ?_;refine WT.bG hT hx Z Z Z Z Z Z Z Z Z zo (λx hxj b1 off ro cs lx hb hp1 hrel=>?_);obtain⟨b2,n2,d2,rfl,hx2⟩:=hrel;refine aw ?_;refine WT.eB hg hgb Z Z Z Z Z Z Z (hp x (gM hxj) _ _ _ hx2) (λv hv=>?_);subst hv;refine aw ?_;refine AW.cond Z (λhc=>?_) (λhc=>?_)
  ·refine aw ?_;refine AW.ret ⟨_,[],⟨_,_,rfl,rfl,rfl⟩,bY,rfl,?_⟩;rw[BZ hxj hc hP];rfl
  ·refine aw ?_;exact⟨(),sM,dH,rfl,lq hxj hP hc⟩
 ·intro _ F1 hF1 hP;obtain⟨rfl,hP⟩:=hP;rw[RN zo] at hP;refine aw ?_;refine AW.ret ⟨_,[],⟨_,_,rfl,rfl,rfl⟩,bY,rfl,?_⟩;rw[wj hP];rfl
theorem Al(F:ar){a:Option Addr}{m c:Nat}{xs:List bW}(hx:bj cC F a m c xs)(hm:m<=1000000)(p:bW->Bool){g:Nat}{fn:Func}{first capt:List Value}(hg:CC.func g=some fn)(hgb:fn.body.isSome=true)
  (hp:∀x∈xs,∀b n d,bj fh F b n d x.right->Abs.Spec CC g (first++[.agg ⟨[.int .i64 x.left,.slice b n d]⟩]++capt) F [] λ_ v o=>o=[]/\v=.bool (p x)) :
  Abs.Spec CC 138 [.slice a m c,.func (.func g) ⟨first⟩ ⟨capt⟩] F [] λ_ v o=>o=[]/\v=.bool (xs.any p):=by
 refine Abs.Spec.fn (n:=9) Tryz.func138 rfl rfl λown=>?_;refine aw ?_;refine WT.a6 Tryz.func108 Z Z Z Z Z Z (wA _ hx hm p hg hgb hp) (λv hv=>?_);subst hv;refine aw ?_;refine AW.ret ⟨_,[],⟨_,_,rfl,rfl,rfl⟩,bY,rfl,?_⟩;rw[<-mq];rfl
theorem xM(F:ar){a:Option Addr}{m c:Nat}{xs:List Nat}(hx:bj dD F a m c xs)(hm:m<=1000000)(p:Nat->Bool){g:Nat}{fn:Func}{first capt:List Value}(hg:CC.func g=some fn)(hgb:fn.body.isSome=true)
  (hp:∀x∈xs,  Abs.Spec CC g (first++[.int .i64 (x:Nat)]++capt) F [] λ_ v o=>o=[]/\v=.bool (p x)) :
  Abs.Spec CC 180 [.slice a m c,.func (.func g) ⟨first⟩ ⟨capt⟩] F [] λ_ v o=>o=[]/\v=.int .i64 (idxOf p xs):=by
 refine Abs.Spec.fn (n:=19) Tryz.func180 rfl rfl λown=>?_;exact OA
theorem Bo(F:ar){a:Option Addr}{m c:Nat}{xs:List Nat}(hx:bj dD F a m c xs)(hm:m<=1000000)(p:Nat->Bool){g:Nat}{fn:Func}{first capt:List Value}(hg:CC.func g=some fn)(hgb:fn.body.isSome=true)
  (hp:∀x∈xs,  Abs.Spec CC g (first++[.int .i64 (x:Nat)]++capt) F [] λ_ v o=>o=[]/\v=.bool (p x)) :
  Abs.Spec CC 126 [.slice a m c,.func (.func g) ⟨first⟩ ⟨capt⟩] F [] λ_ v o=>o=[]/\v=.bool (xs.any p):=by
 refine Abs.Spec.fn (n:=9) Tryz.func126 rfl rfl λown=>?_;refine aw ?_;refine WT.a6 Tryz.func180 Z Z Z Z Z Z (xM _ hx hm p hg hgb hp) (λv hv=>?_);subst hv;refine aw ?_;refine AW.ret ⟨_,[],⟨_,_,rfl,rfl,rfl⟩,bY,rfl,?_⟩;rw[<-mq];rfl
def mm(g:ai)(y:Sym):Bool:=if y.term=true then decide (y.n<g.ae) else decide (y.n<g.au)
theorem Gf(F:ar)(g:ai){a:Option Addr}{m c:Nat}(y:Sym) :
  Abs.Spec CC 137 [.agg ⟨[.int .i64 g.ae,.int .i64 g.au,.int .i64 g.start,.slice a m c]⟩,.agg ⟨[.bool y.term,.int .i64 y.n]⟩] F [] λ_ v o=>o=[]/\v=.bool (mm g y):=by
 refine Abs.Spec.fn (n:=31) Tryz.func137 rfl rfl λown=>?_;refine AW.seq (AW.dp ?_);refine WT.cy Z Z Z Z Z Z (λi1 hi1=>?_);refine WT.cy Z Z Z Z Z Z (λi2 hi2=>?_);refine aw ?_;have e1:decide ((y.n:Int)≥0)=true:=by simp
 refine WT.split 8 Z (λ_=>?_) (λh=>(by rw[e1] at h;cases h));have e2:∀m:Nat,decide ((y.n:Int)<(m:Int))=decide (y.n<m):=λm=>by rw[decide_eq_decide];omega
 cases ht:y.term with
 | true=>
  refine aw ?_;refine WT.split 18 Z (λh=>?_) (λh=>?_)
  ·refine aw ?_;refine AW.ret ⟨_,[],⟨_,_,rfl,rfl,rfl⟩,bY,rfl,?_⟩;rw[e2] at h;simp only[mm,ht,SU,h];rfl
  ·refine aw ?_;refine AW.ret ⟨_,[],⟨_,_,rfl,rfl,rfl⟩,bY,rfl,?_⟩;rw[e2] at h;simp only[mm,ht,SU,h];rfl
 | false=>
  refine aw ?_;refine AW.ret ⟨_,[],⟨_,_,rfl,rfl,rfl⟩,bY,rfl,?_⟩;simp only[mm,ht,<-e2];rfl
def ak(g:ai)(a:Option Addr)(m c:Nat):List Value:=[.int .i64 g.ae,.int .i64 g.au,.int .i64 g.start,.slice a m c]
theorem BV(F:ar)(g:ai){a:Option Addr}{m c:Nat}{i:Nat}{ro:Bool}(hi:F i=some (.cells ro (ak g a m c)))(y:Sym) :
  Abs.Spec CC 136 [.agg ⟨[.bool y.term,.int .i64 y.n]⟩,.pointer (some ⟨i,0,none⟩)] F [] λ_ v o=>o=[]/\v=.bool (!mm g y):=by
 unfold ak at hi;refine Abs.Spec.fn (n:=8) Tryz.func136 rfl rfl λown=>?_;refine AW.seq (AW.dp ?_);refine WT.cy Z Z Z Z Z Z (λi2 hi2=>?_);refine aw ?_;refine WT.a6 Tryz.func137 Z Z Z Z Z Z (Gf _ g y) (λv hv=>?_);subst hv;refine aw ?_;exact AW.ret ⟨_,[],⟨_,_,rfl,rfl,rfl⟩,bY,rfl,rfl⟩
theorem Cv(F:ar)(r:bW){a:Option Addr}{m c:Nat}{i:Nat}{ro:Bool}(hi:F i=some (.cells ro [.int .i64 r.left,.slice a m c]))(hr:bj fh F a m c r.right)(hm:m<=1000000)(x:bW)
  {b:Option Addr} {n d:Nat} (hx:bj fh F b n d x.right) (hn:n<=1000000) :
  Abs.Spec CC 139 [.agg ⟨[.int .i64 x.left,.slice b n d]⟩,.pointer (some ⟨i,0,none⟩)] F [] λ_ v o=>o=[]/\v=.bool (decide (x=r)):=by
 refine Abs.Spec.fn (n:=8) Tryz.func139 rfl rfl λown=>?_;refine AW.seq (AW.dp ?_);refine WT.cy Z Z Z Z Z Z (λi2 hi2=>?_);refine aw ?_;refine WT.a6 Tryz.func140 Z Z Z Z Z Z (tw _ x r hx hr hn hm) (λv hv=>?_);subst hv;refine aw ?_;refine AW.ret ⟨_,[],⟨_,_,rfl,rfl,rfl⟩,bY,rfl,?_⟩;have:(vr x r==0)=decide (x=r):=by
  rw[Ta];simp[AX]
 rw[<-this];rfl
def iv(g:ai)(pre:List bW)(r:bW):Nat:=
 if g.au<=r.left then 3 else if 4<r.right.length then 2 else if r.right.any (λy=>!mm g y)=true then 3 else if pre.any (λx=>decide (x=r))=true then 6 else 0
def ed(g:ai):List bW->List bW->Nat
 | _,[]=>0
 | pre,r::l=>if iv g pre r=0 then ed g (pre++[r]) l else iv g pre r
structure EX(g:ai):Prop where
 ae:1<=g.ae/\g.ae<=8
 au:1<=g.au/\g.au<=10
 start:g.start<g.au
 rules:g.rules.length<=32
 right:∀r∈g.rules,r.right.length<=1000000
theorem oI(g:ai):∀(j:Nat) (pre l:List bW),j<=l.length->(∀i (h:i<l.length),i<j->iv g (pre++l.take i) l[i]=0)->ed g pre l=ed g (pre++l.take j) (l.drop j)
 | 0,pre,l,_,_=>by simp
 | j+1,pre,[],h,_=>by simp at h
 | j+1,pre,r::l,h,h2=>by
  have h0:=h2 0 (by simp) zo;simp only[List.take_zero,Sq,UW] at h0;simp only[ed,h0,SU]
  rw[oI g j (pre++[r]) l (by simpa using h) (λi h3 h4=>by
   have:=h2 (i+1) (by simpa using h3) zo;simpa using this)]
  simp
theorem ml(F:ar)(g:ai)(hg:EX g){a:Option Addr}{m c:Nat}(hr:bj cC F a m c g.rules) :
  Abs.Spec CC 85 [.agg ⟨ak g a m c⟩] F [] λ_ v o=>o=[]/\v=.int .i64 (ed g [] g.rules:Nat):=by
 unfold ak;have hlen:=hr.len;obtain⟨⟨ht1,ht2⟩,⟨hn1,hn2⟩,hst,hrl,hrr⟩:=hg;refine Abs.Spec.fn (n:=76) Tryz.func85 rfl rfl λown=>?_;refine AW.seq (AW.dp ?_);refine WT.cy Z Z Z Z Z Z (λi1 hi1=>?_);refine WT.ay 0 Z Z (λF1 hF1 hB1=>?_);have hi1:=hB1 i1 _ me;have hr:=hr.mono hF1;refine aw ?_;refine WT.split 8 Z (λh=>(by simp at h;omega)) (λ_=>?_);refine aw ?_;refine WT.split 13 Z (λh=>(by simp at h;omega)) (λ_=>?_);refine aw ?_;refine WT.split 18 Z (λh=>(by simp at h;omega)) (λ_=>?_);refine aw ?_
 refine WT.split 23 Z (λh=>(by simp at h;omega)) (λ_=>?_);refine aw ?_;refine AW.cond Z (λh=>(by simp at h;omega)) (λ_=>?_);refine aw ?_;refine AW.cond Z (λh=>(by simp at h;omega)) (λ_=>?_);refine aw ?_;refine AW.range (S:=Unit) (λ_=>[]) (λ_=>_) (λj _ _=>ed g [] g.rules=ed g (g.rules.take j) (g.rules.drop j)) m () Z Z Z Z Z Z Z Z Z zo Z Z (λ_=>rfl) (λ_=>rfl) sM oR (by simp) ?_ ?_
 ·intro j _ F2 hF2 hj hP;have hr2:=hr.mono hF2;refine aw ?_;refine WT.bG hT hr2 Z Z Z Z Z Z Z Z Z zo (λx hxj b1 off ro cs lx hb hp1 hrel=>?_);obtain⟨b2,n2,d2,rfl,hx2⟩:=hrel;have hx2len:=hx2.len;have hxr:=hrr x (gM hxj);have hxj':g.rules.drop j=x::g.rules.drop (j+1):=by
   rw[Sa (show j<g.rules.length by omega)];rw[gE zo] at hxj;have:=BY hxj;rw[this]
  have next:iv g (g.rules.take j) x=0->ed g [] g.rules=ed g (g.rules.take (j+1)) (g.rules.drop (j+1)):=by
   intro h0;rw[hP,hxj'];simp only[ed,h0,SU];rw[RZ,hxj];rfl
  have stop:∀e,e≠0->iv g (g.rules.take j) x=e->ed g [] g.rules=e:=by
   intro e h1 h2;rw[hP,hxj'];simp only[ed,h2,h1,Te]
  refine aw ?_;refine WT.aK hT Z Z Z Z Z Z (λi4 hi4=>?_);refine aw ?_;refine AW.ay 0 Z Z (λF3 hF3 hB3=>?_);have hi4:=hB3 i4 _ me;have hi1:=hF3 _ _ (hF2 _ _ hi1);have hr3:=hr2.mono hF3;have hx3:=hx2.mono hF3;refine AW.block ?_;refine aw ?_;refine AW.cond Z (λh=>?_) (λh=>?_)
  ·have h:g.au<=x.left:=by simp at h;omega
   refine aw ?_;refine AW.ret ⟨_,[],⟨_,_,rfl,rfl,rfl⟩,bY,rfl,?_⟩;rw[stop 3 (by decide) (by simp[iv,h])];rfl
  ·have h1:¬g.au<=x.left:=by simp at h;omega
   refine aw ?_;refine AW.cond Z (λh=>?_) (λh=>?_)
   ·have h2:4<x.right.length:=by simp at h;omega
    refine aw ?_;refine AW.ret ⟨_,[],⟨_,_,rfl,rfl,rfl⟩,bY,rfl,?_⟩;rw[stop 2 (by decide) (by simp[iv,h1,h2])];rfl
   ·have h2:¬4<x.right.length:=by simp at h;omega
    refine aw ?_;refine WT.a6 Tryz.func55 Z Z Z Z Z Z (Cb _ hx3 zo (λy=>!mm g y) Tryz.func136 Z (λy _=>BV _ g hi1 y)) (λv hv=>?_);subst hv;refine aw ?_;refine AW.cond Z (λh=>?_) (λh3=>?_)
    ·refine aw ?_;refine AW.ret ⟨_,[],⟨_,_,rfl,rfl,rfl⟩,bY,rfl,?_⟩;rw[stop 3 (by decide) (by rw[iv,AT h1,AT h2,By h])];rfl
    ·have h3':¬(x.right.any λy=>!mm g y)=true:=by rw[h3];decide
     refine aw ?_;obtain⟨a',c',hs,ha'⟩:=hr3.slice (C:=CC) (lo:=0) (hi:=j) zo zo hT (t:=23) Z Z Z none (some (.int .i64 (j:Nat))) rfl rfl;refine WT.slice Z Z Z Z Z Z Z Z hs ?_;refine aw ?_;refine WT.a6 Tryz.func138 Z Z Z Z Z Z (Al _ ha' zo (λy=>decide (y=x)) Tryz.func139 Z (λy hy b n d hb=>Cv _ x hi4 hx3 zo y hb ?_)) (λv hv=>?_)
     ·rw[hb.len];exact hrr y (by simpa using List.mem_of_mem_take hy)
     subst hv;refine aw ?_;rw[Ux];refine AW.cond Z (λh=>?_) (λh4=>?_)
     ·refine aw ?_;refine AW.ret ⟨_,[],⟨_,_,rfl,rfl,rfl⟩,bY,rfl,?_⟩;rw[stop 6 (by decide) (by rw[iv,AT h1,AT h2,AT h3',By h])];rfl
     ·have h4':¬((g.rules.take j).any λy=>decide (y=x))=true:=by rw[h4];decide
      refine aw ?_;exact⟨(),sM,dH,next (by rw[iv,AT h1,AT h2,AT h3',AT h4'])⟩
 ·intro _ F2 hF2 hP;refine aw ?_;refine AW.ret ⟨_,[],⟨_,_,rfl,rfl,rfl⟩,bY,rfl,?_⟩;rw[hP,SP zo];rfl
structure Valid(g:ai):Prop where
 range:EX g
 right:∀r∈g.rules,r.left<g.au/\r.right.length<=4/\∀y∈r.right,ck g.ae g.au y
 nodup:g.rules.Nodup
theorem Valid.zU{g:ai}(h:Valid g):ed g [] g.rules=0:=by
 rw[oI g g.rules.length [] g.rules (AS _) (λi h1 _=>?_)]
 ·simp[ed]
 ·obtain⟨h2,h3,h4⟩:=h.right g.rules[i] (TK h1);rw[iv,AT zo,AT zo,AT,AT]
  ·intro h5;simp only[UL,Sv,Su] at h5;obtain⟨x,hx,rfl⟩:=h5;have hn:=h.nodup;rw[<-S2 i g.rules,S5] at hn;refine hn.2.2 _ hx _ ?_ rfl;rw[Sa h1];exact RR ..
  ·intro h5;simp only[Sv,Tu] at h5;obtain⟨y,hy,hb⟩:=h5;have:=h4 y hy;unfold ck at this;unfold mm at hb;split at this<;>rename_i ht<;>simp[ht,this] at hb
theorem Small.valid{g:ai}(h:Small g):Valid g where
 range:=⟨by have:=h.ae;omega,by have:=h.au;omega,h.start,by have:=h.rules;omega,λr hr=>by have:=(h.ok r hr).2.1;omega⟩
 right:=λr hr=>⟨(h.ok r hr).1,by have:=(h.ok r hr).2.1;omega,(h.ok r hr).2.2⟩
 nodup:=h.nodup
theorem GW(F:ar)(ae most:Nat)(ht:0<ae/\ae<=1000)(hmost:most<=1000000){a:Option Addr}{m c:Nat}{l:List Int}(hl:bj iF F a m c l)(hm:m<=9223372036854775807) :
  Abs.Spec CC 49 [.int .i64 ae,.int .i64 most,.slice a m c] F [] λF' v o=>o=[]/\∃a m c w,v=.slice a m c/\bj dD F' a m c w/\w.length<=most/\∀t∈w,t<ae:=by
 refine Abs.Spec.fn (n:=28) Tryz.func49 rfl rfl λown=>?_;have hlen:=hl.len;refine aw ?_;refine AW.range (S:=List Nat×Option Addr×Nat×Nat×List (Nat×aE)) (λs=>[(7,.slice s.2.1 s.2.2.1 s.2.2.2.1)]) (λs=>s.2.2.2.2::own) (λj s G=>dR dD G s.2.1 s.2.2.1 s.2.2.2.1 s.2.2.2.2 s.1/\s.1.length<=most/\∀t∈s.1,t<ae) m ⟨[],none,0,0,[]⟩ Z Z Z Z Z Z Z Z Z zo Z Z (λ_=>rfl) (λ_=>rfl) sM (ah.flat (NO _)) ⟨dR.gz _ _,by simp,by simp⟩ ?_ ?_
 ·intro j s F1 hF1 hj hP;obtain⟨hb,hlen2,hlt⟩:=hP;have hblen:=hb.len;have hl1:=hl.mono hF1;refine aw ?_;refine WT.bG hT hl1 Z Z Z Z Z Z Z Z Z zo (λx hxj b1 off ro cs lx hb1 hp1 hrel=>?_);obtain rfl:lx=_:=hrel;refine aw ?_;refine AW.cond Z (λh=>?_) (λh=>?_)
  ·refine AW.exit ?_;refine AW.ay 0 Z Z (λF3 hF3 hB3=>?_);refine aw ?_;exact AW.ret ⟨_,[],⟨_,_,rfl,rfl,rfl⟩,bY,rfl,_,_,_,s.1,rfl,hb.frozen hF3 hB3,hlen2,hlt⟩
  ·have h:s.1.length<most:=by simp at h;omega
   refine aw ?_;refine WT.a6 Tryz.func37 Z Z Z Z Z Z (wN _ x ae zo zo) (λv hv=>?_);subst hv;refine WT.be hT Z Z Z Z Z Z Z Z Z Z Z Z Z Z (λi9 hi9=>?_);refine WT.bX (ys:=[below x ae]) hT 1 hb Z (λ_=>rfl) Z Z Z Z Z Z Z Z Z Z Z (λh0 s0=>bw hT s0 0 Z Z Z Z) (aH.single (R:=dD) (x:=below x ae) rfl) Z (by decide) kF (λa3 c3 B3 hB3=>?_);refine aw ?_;refine⟨⟨s.1++[below x ae],a3,s.2.2.1+1,c3,B3⟩,sM,dH,hB3,by simp;omega,λt ht2=>?_⟩;rcases R5.1 ht2 with ht2 | ht2
   ·exact hlt t ht2
   ·obtain rfl:=RK.1 ht2;exact Di x ht.1
 ·intro s F1 hF1 hP;obtain⟨hb,hlen2,hlt⟩:=hP;refine AW.ay 0 Z Z (λF3 hF3 hB3=>?_);refine aw ?_;exact AW.ret ⟨_,[],⟨_,_,rfl,rfl,rfl⟩,bY,rfl,_,_,_,s.1,rfl,hb.frozen hF3 hB3,hlen2,hlt⟩
def o8(ae most:Nat)(w:List Nat):Nat:=if most<w.length then 2 else if w.any (λt=>decide (ae<=t))=true then 1 else 0
theorem DF(F:ar)(g:ai){a:Option Addr}{m c:Nat}{i:Nat}{ro:Bool}(hi:F i=some (.cells ro (ak g a m c)))(t:Nat) :
  Abs.Spec CC 127 [.int .i64 t,.pointer (some ⟨i,0,none⟩)] F [] λ_ v o=>o=[]/\v=.bool (decide (g.ae<=t)):=by
 unfold ak at hi;refine Abs.Spec.fn (n:=12) Tryz.func127 rfl rfl λown=>?_;refine aw ?_;refine AW.ret ⟨_,[],⟨_,_,rfl,rfl,rfl⟩,bY,rfl,?_⟩;simp[ej]
theorem EJ(F:ar)(g:ai){a:Option Addr}{m c:Nat}(most:Nat)(hmost:most<=1000000){b:Option Addr}{n d:Nat}{w:List Nat}(hw:bj dD F b n d w)(hn:n<=1000000) :
  Abs.Spec CC 77 [.agg ⟨ak g a m c⟩,.slice b n d,.int .i64 most] F [] λ_ v o=>o=[]/\v=.int .i64 (o8 g.ae most w:Nat):=by
 unfold ak;have hlen:=hw.len;refine Abs.Spec.fn (n:=14) Tryz.func77 rfl rfl λown=>?_;refine AW.seq (AW.dp ?_);refine WT.cy Z Z Z Z Z Z (λi1 hi1=>?_);refine WT.ay 0 Z Z (λF1 hF1 hB1=>?_);have hi1:=hB1 i1 _ me;refine aw ?_;refine AW.cond Z (λh=>?_) (λh=>?_)
 ·have h:most<w.length:=by simp at h;omega
  refine aw ?_;refine AW.ret ⟨_,[],⟨_,_,rfl,rfl,rfl⟩,bY,rfl,?_⟩;rw[o8,By h];rfl
 ·have h1:¬most<w.length:=by simp at h;omega
  refine aw ?_;refine WT.a6 Tryz.func126 Z Z Z Z Z Z (Bo _ (hw.mono hF1) zo (λt=>decide (g.ae<=t)) Tryz.func127 Z (λt _=>DF _ g hi1 t)) (λv hv=>?_);subst hv;refine aw ?_;refine AW.cond Z (λh=>?_) (λh=>?_)
  ·refine aw ?_;refine AW.ret ⟨_,[],⟨_,_,rfl,rfl,rfl⟩,bY,rfl,?_⟩;rw[o8,AT h1,By h];rfl
  ·refine aw ?_;refine AW.ret ⟨_,[],⟨_,_,rfl,rfl,rfl⟩,bY,rfl,?_⟩;rw[o8,AT h1,AT (by rw[h];decide)];rfl
theorem Ea{ae most:Nat}{w:List Nat}(h1:w.length<=most)(h2:∀t∈w,t<ae):o8 ae most w=0:=by
 rw[o8,AT zo,AT];intro h;simp only[Sv,Su] at h;obtain⟨t,ht,h⟩:=h;have:=h2 t ht;omega
theorem B9(F:ar)(g:ai)(hg:Valid g){a:Option Addr}{m c:Nat}(hr:bj cC F a m c g.rules){b:Option Addr}{n d:Nat}{w:List Nat}(hw:bj dD F b n d w)(hw1:w.length<=12)(hw2:∀t∈w,t<g.ae) :
  Abs.Spec CC 88 [.agg ⟨ak g a m c⟩,.slice b n d] F [] λ_ v o=>o=[]/\v=.int .i64 0:=by
 unfold ak;have hlen:=hw.len;refine Abs.Spec.fn (n:=14) Tryz.func88 rfl rfl λown=>?_;refine AW.seq (AW.dp ?_);refine WT.cy Z Z Z Z Z Z (λi1 hi1=>?_);refine aw ?_;refine WT.a6 Tryz.func85 Z Z Z Z Z Z (ml _ g hg.range hr) (λv hv=>?_);rw[hg.zU] at hv;subst hv;refine aw ?_;refine AW.cond Z (λh=>(by cases h)) (λh=>?_);refine aw ?_;refine WT.a6 Tryz.func77 Z Z Z Z Z Z (EJ _ g 12 (by decide) hw zo) (λv hv=>?_);rw[Ea hw1 hw2] at hv;subst hv;refine aw ?_;exact AW.ret ⟨_,[],⟨_,_,rfl,rfl,rfl⟩,bY,rfl,rfl⟩
theorem Gl(F:ar){a b:Option Addr}{m n c d:Nat}{l w0:List Int}(hl:bj iF F a m c l)(hw:bj iF F b n d w0)(hm:n<=9223372036854775807)(most:Nat)(hmost:most<=1000000) :
  Abs.Spec CC 14 [.slice a m c,.slice b n d,.int .i64 most] F [] λF' v o=>o=[]/\∃g a m c b n d w,v=.tuple ⟨[.agg ⟨ak g a m c⟩,.slice b n d]⟩/\Small g/\bj cC F' a m c g.rules/\bj dD F' b n d w/\w.length<=most/\∀t∈w,t<g.ae:=by
 refine Abs.Spec.fn (n:=17) Tryz.func14 rfl rfl λown=>?_;refine AW.seq (AW.dp ?_);refine WT.aK hT Z Z Z Z Z Z (λi6 hi6=>?_);refine aw ?_;refine WT.cO Tryz.func8 Z Z Z Z Z Z (A6 _ hl) (λF1 v hF1 hv=>?_);obtain⟨g,⟨ga,gm,gc,rfl,hgr⟩,hg⟩:=hv;refine WT.aK hT Z Z Z Z Z Z (λi8 hi8=>?_);refine aw ?_;refine AW.draw (ps:=[(0,5)]) Z Z ?_;refine aw ?_;have:=hg.ae;refine WT.cO Tryz.func49 Z Z Z Z Z Z (GW _ g.ae most zo hmost (hw.mono hF1) hm) (λF2 v hF2 hv=>?_);obtain⟨wa,wm,wc,w,rfl,hwr,hw1,hw2⟩:=hv;refine aw ?_;refine⟨oY,?_⟩
 refine AW.ret ⟨_,[],⟨_,_,⟨_,rfl,λG h0 s0=>br (s0.has (p:=1) Z me) (bO hT rfl)⟩,⟨_,_,rfl,rfl,rfl⟩,rfl⟩,bY,rfl,g,ga,gm,gc,wa,wm,wc,w,rfl,hg,hgr.mono hF2,hwr,hw1,hw2⟩
theorem wB:∀(n x:Nat),0<x->x<2 ^ n->∃p q,x=2 ^ p*(2*q+1)/\p<n
 | 0,x,h,h2=>by simp at h2;omega
 | n+1,x,h,h2=>by
  rcases Nat.mod_two_eq_zero_or_one x with h3 | h3
  ·obtain⟨p,q,h4,h5⟩:=wB n (x / 2) zo (by rw[TG] at h2;omega);refine⟨p+1,q,?_,by omega⟩;rw[TG,Tj (2 ^ p) 2,Ts,<-h4];omega
  ·exact⟨0,x / 2,by omega,by omega⟩
theorem K5(q i:Nat):(2*q+1).testBit i=if i=0 then true else (2*q).testBit i:=by
 cases i with
 | zero=>simp
 | succ i=>
  rw[Nat.testBit_succ,Nat.testBit_succ,AT zo];congr 1;omega
theorem mI(p q j:Nat):(2 ^ p*(2*q+1)).testBit j=if j<p then false else if j=p then true else (2*q).testBit (j-p):=by
 have:=Nat.testBit_two_pow_mul_add (2*q+1) (b:=0) (i:=p) (Tm p) j;rw[Tq] at this;rw[this];by_cases h:j<p
 ·simp[h]
 ·rw[AT h,AT h,K5];by_cases h2:j=p
  ·simp[h2]
  ·rw[AT zo,AT h2]
theorem Cm(p q j:Nat):(2 ^ p*(2*q+1)-1).testBit j=if j<p then true else (2*q).testBit (j-p):=by
 have h1:2 ^ p*(2*q+1)-1=2 ^ p*(2*q)+(2 ^ p-1):=by
  have:=Tm p;rw[UX];omega
 rw[h1,Nat.testBit_two_pow_mul_add _ (by have:=Tm p;omega)];by_cases h:j<p
 ·simp[h]
 ·simp[h]
theorem rl(p q j:Nat):(2 ^ p*(2*q+1) &&& (2 ^ p*(2*q+1)-1)).testBit j=((2 ^ p*(2*q+1)).testBit j&&!(j==p)):=by
 rw[U3,mI,Cm];by_cases h:j<p
 ·simp[h]
 ·by_cases h2:j=p
  ·subst h2;simp
  ·simp[h,h2]
theorem LU{n p q:Nat}(h:2 ^ p*(2*q+1)<2 ^ n):2 ^ p*(2*q+1) &&& (2 ^ n-2 ^ p*(2*q+1))=2 ^ p:=by
 apply Nat.eq_of_testBit_eq;intro j;have hpos:0<2 ^ p*(2*q+1):=Nat.mul_pos (Tm p) zo;have h1:(2 ^ n-2 ^ p*(2*q+1)).testBit j=(decide (j<n)&&!(2 ^ p*(2*q+1)-1).testBit j):=by
  rw[<-Nat.testBit_two_pow_sub_succ zo];congr 1;omega
 have hp:p<n:=by
  rcases R2 p n with h2 | h2
  ·exact h2
  ·have h3:=RS (show 0<2 by decide) h2;have:2 ^ p*1<=2 ^ p*(2*q+1):=SY _ zo;omega
 rw[U3,h1,mI,Cm,UH];by_cases h2:j<p
 ·have:¬p=j:=by omega
  simp[h2,this]
 ·by_cases h3:j=p
  ·subst h3;simp[hp]
  ·have:¬p=j:=by omega
   simp[h2,h3,this];exact λh _=>h
theorem Ie:∀p,p<32->vC[(2 ^ p*125613361 % 4294967296) / 2 ^ 27]?=some p:=by decide +kernel
def Laid(F:ar):Prop:=∀p∈eJ,F p.1=some p.2
theorem Laid.mono{F G:ar}(h:Laid F)(hF:ar.le F G):Laid G:=λp hp=>hF _ _ (h p hp)
theorem Laid.BQ{F:ar}(h:Laid F):F 0=some (.cells true (vC.map λx:Nat=>Value.int .u8 (x:Int))):=h _ me
theorem E9(F:ar)(hL:Laid F)(p q:Nat)(hx:2 ^ p*(2*q+1)<4294967296):Abs.Spec CC 171 [.int .u32 ((2 ^ p*(2*q+1):Nat):Int)] F [] λ_ v o=>o=[]/\v=.int .i64 p:=by
 have hL:=hL.BQ;have hp:p<32:=by
  rcases R2 p 32 with h2 | h2
  ·exact h2
  ·have h3:=RS (show 0<2 by decide) h2;have:2 ^ p*1<=2 ^ p*(2*q+1):=SY _ zo;omega
 have hneg:=LU (n:=32) (p:=p) (q:=q) hx;have hpos:0<2 ^ p*(2*q+1):=Nat.mul_pos (Tm p) zo;have htab:=Ie p hp;have hp2:2 ^ p<4294967296:=Uc (by decide) hp;generalize 2 ^ p*(2*q+1)=x at hx hneg hpos;refine Abs.Spec.fn (n:=14) Tryz.func171 rfl rfl λown=>?_;refine aw ?_;refine AW.cond Z (λh=>(by simp at h;omega)) (λ_=>?_);refine aw ?_;refine WT.jB (v':=.int .u32 ((4294967296-x:Nat):Int)) 7 Z ?_ ?_
 ·have hs:IntKind.u32.signed=false:=rfl;have hbits:IntKind.u32.bits=32:=rfl;have h2:(2:Int) ^ 32=4294967296:=rfl;simp only[IntKind.wrap,hs,hbits,Uy,h2];congr 1;simp;omega
 refine WT.lF (x:=x) (y:=4294967296-x) Z Z Z Z Z Z hx zo ?_;rw[show x &&& (4294967296-x)=2 ^ p from hneg];refine WT.M4 (x:=2 ^ p) (y:=125613361) Z Z Z Z Z Z ?_;refine WT.Ch (y:=27) Z Z Z Z Z Z (by decide) ?_;refine WT.Ni (len:=32) (s:=1) hT Z Z Z Z Z Z Z Z Z (by have:=Nat.mod_lt (2 ^ p*125613361) (show 0<4294967296 by decide);rw[U0 (by decide)];omega) ?_;refine WT.KL hT hL (v:=.int .u8 p) Z Z Z Z Z Z Z ?_ ?_
 ·rw[RY,Sy,RM,htab];rfl
 refine WT.conv hT (k2:=.i64) Z Z Z Z Z Z Z Z (wrap64 zo) ?_
 refine aw ?_;exact AW.ret ⟨_,[],⟨_,_,rfl,rfl,rfl⟩,bY,rfl,rfl⟩
def Step(w:List Nat)(E:List (List Nat))(s:Sym)(i j:Nat):Prop:=
 if s.term=true then w[i]?=some s.n/\j=i+1 else ∃row x,E[s.n]?=some row/\row[i]?=some x/\x.testBit j=true
def Reads(w:List Nat)(E:List (List Nat)):List Sym->Nat->Nat->Prop
 | [],i,j=>i=j
 | s::l,i,j=>∃m,Step w E s i m/\Reads w E l m j
theorem Reads.snoc{w:List Nat}{E:List (List Nat)}{s:Sym}:∀{l:List Sym} {i j:Nat},Reads w E (l++[s]) i j↔∃m,Reads w E l i m/\Step w E s m j
 | [],i,j=>by simp[Reads]
 | a::l,i,j=>by
  simp only[T3,Reads,Reads.snoc (l:=l)];constructor
  ·rintro⟨m,h1,m2,h2,h3⟩;exact⟨m2,⟨m,h1,h2⟩,h3⟩
  ·rintro⟨m2,⟨m,h1,h2⟩,h3⟩;exact⟨m,h1,m2,h2,h3⟩
structure gA(n len:Nat)(E:List (List Nat)):Prop where
 size:E.length=n
 row:∀r∈E,r.length=len+1
 bit:∀r∈E,∀x∈r,x<2 ^ (len+1)
theorem Ec{x n j:Nat}(h:x<2 ^ n)(h2:x.testBit j=true):j<n:=by
 rcases R2 j n with h3 | h3
 ·exact h3
 ·rw[TF (SH h (RS (by decide) h3))] at h2;cases h2
theorem DK{w:List Nat}{E:List (List Nat)}{y:Sym}{s u2 x p q:Nat}(hs:s.testBit p=true)
  (hu4:∀j,u2.testBit j=true↔∃p',s.testBit p'=true/\(2 ^ p*(2*q+1)).testBit p'=false/\Step w E y p' j) (hst:∀j,x.testBit j=true↔Step w E y p j) :
  ∀j,(u2 ||| x).testBit j=true↔∃p',s.testBit p'=true/\(2 ^ p*(2*q+1) &&& (2 ^ p*(2*q+1)-1)).testBit p'=false/\Step w E y p' j:=by
 intro j;rw[Nat.testBit_or,SZ,hu4,hst];constructor
 ·rintro(⟨p',h1,h2,h3⟩ | h)
  ·exact⟨p',h1,by rw[rl,h2];rfl,h3⟩
  ·exact⟨p,hs,by rw[rl];simp,h⟩
 ·rintro⟨p',h1,h2,h3⟩;rw[rl] at h2;by_cases hp:p'=p
  ·subst hp;exact .inr h3
  ·refine .inl ⟨p',h1,?_,h3⟩;have:(p'==p)=false:=by simpa using hp
   simpa [this] using h2
theorem qA(F:ar)(hL:Laid F){n t:Nat}{w:List Nat}{E:List (List Nat)}{l:List Sym}{a1 a2 a3:Option Addr}{m1 m2 m3 c1 c2 c3:Nat}(hw:bj dD F a1 m1 c1 w)(hE:bj (cg xU) F a2 m2 c2 E)(hl:bj fh F a3 m3 c3 l)
  (hE2:gA n w.length E) (hok:∀y∈l,ck t n y) (hlen:w.length<=30) (hl2:l.length<=1000) (i0:Nat) (hi0:i0<=w.length) :
  Abs.Spec CC 118 [.slice a1 m1 c1,.slice a2 m2 c2,.slice a3 m3 c3,.int .i64 i0] F [] λ_ v o=>o=[]/\∃r:Nat,v=.int .u32 r/\r<2 ^ (w.length+1)/\∀j,r.testBit j=true↔Reads w E l i0 j:=by
 have hwlen:=hw.len;have hElen:=hE.len;have hllen:=hl.len;have pw:∀p,p<=31->2 ^ p<4294967296:=λp hp=>Uc (n:=32) (by decide) zo;have pwl:2 ^ (w.length+1)<=4294967296:=RS (j:=32) (by decide) zo;refine Abs.Spec.fn (n:=68) Tryz.func118 rfl rfl λown=>?_;refine aw ?_;refine WT.Bu (x:=1) (y:=i0) Z Z Z Z Z Z zo (by have:=pw i0 zo;omega) ?_;refine aw ?_
 refine AW.range (S:=Nat) (λs=>[(9,.int .u32 (s:Nat))]) (λ_=>_) (λj s G=>s<2 ^ (w.length+1)/\∀q,s.testBit q=true↔Reads w E (l.take j) i0 q) m3 (1*2 ^ i0) Z Z Z Z Z Z Z Z Z zo Z Z (λ_=>rfl) (λ_=>rfl) sM oR ⟨?_,?_⟩ ?_ ?_
 ·rw[S7];exact Uc (by decide) zo
 ·intro q;rw[S7,UH];simp[Reads]
 ·intro j s F1 hF1 hj hP;obtain⟨hs1,hs2⟩:=hP;have hw:=hw.mono hF1;have hE:=hE.mono hF1;have hl:=hl.mono hF1;have hL:=hL.mono hF1;refine aw ?_;refine WT.bG hT hl Z Z Z Z Z Z Z Z Z zo (λy hyj b1 off ro cs lx hb hp1 hrel=>?_);obtain rfl:lx=_:=hrel;have hyok:=hok y (gM hyj);refine aw ?_;refine WT.aK hT Z Z Z Z Z Z (λi1 hi1=>?_);refine aw ?_;refine AW.block ?_
  refine AW.cm (S:=Nat×Nat) (λs=>[(13,.int .u32 s.1),(12,.int .u32 s.2)]) (λ_=>_) (λu G=>ar.le F1 G/\u.1<2 ^ (w.length+1)/\u.2<2 ^ (w.length+1)/\(∀q,u.1.testBit q=true->s.testBit q=true)/\∀q,u.2.testBit q=true↔∃p,s.testBit p=true/\u.1.testBit p=false/\Step w E y p q) (λu=>u.1) (s,0)
   sM oR ⟨ar.le.refl _,hs1,Tm _,λq h=>h,λq=>?_⟩ ?_
  ·constructor
   ·intro h;simp at h
   ·rintro⟨p,h1,h2,_⟩;simp only at h2;rw[h1] at h2;cases h2
  ·intro u F2 hF2 hP2;obtain⟨hF12,hu1,hu2,hu3,hu4⟩:=hP2;have hw:=hw.mono hF2;have hE:=hE.mono hF2;have hL:=hL.mono hF2;obtain⟨u1,u2⟩:=u;dsimp only at hu1 hu2 hu3 hu4;refine aw ?_;refine AW.cond Z (λh=>?_) (λh=>?_)
   ·have hne:u1≠0:=by intro e;subst e;simp at h
    obtain⟨p,q,rfl,hp⟩:=wB (w.length+1) u1 zo hu1;have hps:s.testBit p=true:=hu3 p (by rw[mI];simp);have hle:2 ^ p*(2*q+1) &&& (2 ^ p*(2*q+1)-1)<=2 ^ p*(2*q+1)-1:=Nat.and_le_right;have fin:∀x,x<2 ^ (w.length+1)->(∀j,x.testBit j=true↔Step w E y p j)->(ar.le F1 F2/\(2 ^ p*(2*q+1) &&& (2 ^ p*(2*q+1)-1))<2 ^ (w.length+1)/\(u2 ||| x)<2 ^ (w.length+1)/\(∀j,(2 ^ p*(2*q+1) &&& (2 ^ p*(2*q+1)-1)).testBit j=true->s.testBit j=true)/\∀j,(u2 ||| x).testBit j=true↔∃p',s.testBit p'=true/\(2 ^ p*(2*q+1) &&& (2 ^ p*(2*q+1)-1)).testBit p'=false/\Step w E y p' j):=by
     intro x hx1 hx2;refine⟨hF12,by omega,Nat.or_lt_two_pow hu2 hx1,λj hj=>hu3 j ?_,DK hps hu4 hx2⟩;rw[U3] at hj;simp only[IN] at hj;exact hj.1
    refine aw ?_;refine AW.block ?_;refine aw ?_;refine WT.a6 Tryz.func171 Z Z Z Z Z Z (E9 _ hL p q zo) (λv hv=>?_);subst hv;refine WT.JQ hT Z Z Z Z Z ?_;refine WT.nil ?_;refine AW.block ?_;refine aw ?_;refine AW.cond Z (λh2=>?_) (λh2=>?_)
    ·have hyt:y.term=false:=by simpa using h2
     rw[ck,AT (by simp[hyt])] at hyok;have hElen2:=hE2.size;refine aw ?_;refine WT.bG hT hE Z Z Z Z Z Z Z Z Z zo (λrow hrow b2 off2 ro2 cs2 lx2 hb2 hp2 hrel2=>?_);obtain⟨a4,n4,c4,rfl,hrow2⟩:=hrel2;have hrl:=hE2.row row (gM hrow);refine aw ?_;refine WT.bG hT hrow2 Z Z Z Z Z Z Z Z Z zo (λx hx b3 off3 ro3 cs3 lx3 hb3 hp3 hrel3=>?_);obtain rfl:lx3=_:=hrel3;have hxb:=hE2.bit row (gM hrow) x (gM hx);refine aw ?_;refine WT.EF (x:=u2) (y:=x) Z Z Z Z Z Z zo zo ?_;refine aw ?_;refine WT.yM (x:=2 ^ p*(2*q+1)) (y:=1) Z Z Z Z Z Z zo zo ?_
     refine WT.lF (x:=2 ^ p*(2*q+1)) Z Z Z Z Z Z zo zo ?_;refine aw ?_;refine⟨(_,u2 ||| x),?_,sM,dH,fin x hxb λj=>?_⟩
     ·dsimp only;omega
     ·rw[Step,AT (by simp[hyt])];constructor
      ·intro hb;exact⟨row,x,hrow,hx,hb⟩
      ·rintro⟨row',x',h3,h4,h5⟩;rw[hrow] at h3;cases h3;rw[hx] at h4;cases h4;exact h5
    ·have hyt:y.term=true:=by simpa using h2
     refine aw ?_;refine WT.split 51 Z (λh3=>?_) (λh3=>?_)
     ·have h3:p<w.length:=by simp at h3;omega
      refine aw ?_;refine WT.bG hT hw Z Z Z Z Z Z Z Z Z zo (λx hx b3 off3 ro3 cs3 lx3 hb3 hp3 hrel3=>?_);obtain rfl:lx3=_:=hrel3;refine aw ?_;refine AW.cond Z (λh4=>?_) (λh4=>?_)
      ·have h4:x=y.n:=by simp at h4;omega
       have e2:1*2 ^ (p+1)<2 ^ (w.length+1):=by rw[S7];exact Uc (by decide) zo
       refine aw ?_;refine WT.Bu (x:=1) (y:=p+1) Z Z Z Z Z Z zo zo ?_;refine WT.EF (x:=u2) (y:=1*2 ^ (p+1)) Z Z Z Z Z Z zo zo ?_;refine aw ?_;refine WT.yM (x:=2 ^ p*(2*q+1)) (y:=1) Z Z Z Z Z Z zo zo ?_;refine WT.lF (x:=2 ^ p*(2*q+1)) Z Z Z Z Z Z zo zo ?_;refine aw ?_;refine⟨(_,u2 ||| (1*2 ^ (p+1))),?_,sM,dH,fin _ e2 λj=>?_⟩
       ·dsimp only;omega
       ·rw[Step,By hyt,S7,UH,hx,h4];simp;omega
      ·have h4:x≠y.n:=by intro e;subst e;simp at h4
       refine aw ?_;refine WT.yM (x:=2 ^ p*(2*q+1)) (y:=1) Z Z Z Z Z Z zo zo ?_;refine WT.lF (x:=2 ^ p*(2*q+1)) Z Z Z Z Z Z zo zo ?_;refine aw ?_;have:=fin 0 (Tm _) (λj=>by rw[Step,By hyt,hx];simp[h4]);rw[Nat.or_zero] at this;refine⟨(_,u2),?_,sM,dH,this⟩;dsimp only;omega
     ·have h3:w.length<=p:=by simp at h3;omega
      refine aw ?_;refine AW.cond Z (λh4=>(by cases h4)) (λh4=>?_);refine aw ?_;refine WT.yM (x:=2 ^ p*(2*q+1)) (y:=1) Z Z Z Z Z Z zo zo ?_;refine WT.lF (x:=2 ^ p*(2*q+1)) Z Z Z Z Z Z zo zo ?_;refine aw ?_;have:=fin 0 (Tm _) (λj=>by rw[Step,By hyt,R3 h3];simp);rw[Nat.or_zero] at this;refine⟨(_,u2),?_,sM,dH,this⟩;dsimp only;omega
   ·have h0:u1=0:=by simp at h;omega
    refine AW.exit ?_;refine aw ?_;refine⟨u2,sM,dH,hu2,λq=>?_⟩;rw[hu4,RZ,hyj];rw[show (some y).toList=[y] from rfl,Reads.snoc,h0];constructor
    ·rintro⟨p,h1,_,h3⟩;exact⟨p,(hs2 p).1 h1,h3⟩
    ·rintro⟨p,h1,h3⟩;exact⟨p,(hs2 p).2 h1,by simp,h3⟩
 ·intro s F1 hF1 hP;obtain⟨hs1,hs2⟩:=hP;rw[RN zo] at hs2;refine aw ?_;exact AW.ret ⟨_,[],⟨_,_,rfl,rfl,rfl⟩,bY,rfl,s,rfl,hs1,hs2⟩
mutual
inductive qF(g:ai)(w:List Nat):Sym->Nat->Nat->Prop
 | term {t i:Nat}:w[i]?=some t->qF g w ⟨true,t⟩ i (i+1)
 | JD {r:bW} {i j:Nat}:r∈g.rules->ni g w r.right i j->qF g w ⟨false,r.left⟩ i j
inductive ni(g:ai)(w:List Nat):List Sym->Nat->Nat->Prop
 | nil {i:Nat}:ni g w [] i i
 | cons {s:Sym} {l:List Sym} {i m j:Nat}:qF g w s i m->ni g w l m j->ni g w (s::l) i j
end
theorem Jo{g:ai}{w:List Nat}{t i j:Nat}:qF g w ⟨true,t⟩ i j↔w[i]?=some t/\j=i+1:=by
 constructor
 ·intro h;cases h with | term h=>exact⟨h,rfl⟩
 ·rintro⟨h,rfl⟩;exact .term h
theorem BH{g:ai}{w:List Nat}{i j:Nat}:ni g w [] i j↔i=j:=by
 constructor
 ·intro h;cases h;rfl
 ·rintro rfl;exact .nil
theorem y9{g:ai}{w:List Nat}{s:Sym}{l:List Sym}{i j:Nat}:ni g w (s::l) i j↔∃m,qF g w s i m/\ni g w l m j:=by
 constructor
 ·intro h;cases h with | cons h1 h2=>exact⟨_,h1,h2⟩
 ·rintro⟨m,h1,h2⟩;exact .cons h1 h2
def bit(E:List (List Nat))(n i j:Nat):Prop:=∃row x,E[n]?=some row/\row[i]?=some x/\x.testBit j=true
def yS(g:ai)(w:List Nat)(E:List (List Nat)):Prop:=∀n i j,bit E n i j->qF g w ⟨false,n⟩ i j
def qO(w:List Nat)(E:List (List Nat))(r:bW)(i:Nat):Prop:=∀j,Reads w E r.right i j->bit E r.left i j
def kZ(g:ai)(w:List Nat)(E:List (List Nat)):Prop:=∀r∈g.rules,∀i,i<=w.length->qO w E r i
structure eK(g:ai)(w:List Nat)(E:List (List Nat)):Prop where
 ok:gA g.au w.length E
 iff:∀n i j,i<=w.length->(bit E n i j↔qF g w ⟨false,n⟩ i j)
theorem ur{g:ai}{w:List Nat}{E:List (List Nat)}(h:yS g w E):∀{l:List Sym} {i j:Nat},Reads w E l i j->ni g w l i j
 | [],i,j,h1=>by rw[show i=j from h1];exact .nil
 | s::l,i,j,h1=>by
  obtain⟨m,h2,h3⟩:=h1;refine .cons ?_ (ur h h3);obtain⟨b,n⟩:=s;unfold Step at h2;cases b with
  | true=>rw[By rfl] at h2;obtain⟨h4,rfl⟩:=h2;exact .term h4
  | false=>rw[AT (by simp)] at h2;exact h n i m h2
theorem uW{g:ai}{w:List Nat}{E:List (List Nat)}(hE:gA g.au w.length E)(h:kZ g w E) :
  (∀{s:Sym} {i j:Nat},qF g w s i j->i<=w.length->Step w E s i j/\j<=w.length):=by
 intro s i j h1;refine qF.rec (motive_1:=λs i j _=>i<=w.length->Step w E s i j/\j<=w.length) (motive_2:=λl i j _=>i<=w.length->Reads w E l i j/\j<=w.length) ?_ ?_ ?_ ?_ h1
 ·intro t i h2 h3;have:=(gS h2).1;exact⟨by rw[Step,By rfl];exact⟨h2,rfl⟩,by omega⟩
 ·intro r i j hr h2 ih hi;obtain⟨h3,h4⟩:=ih hi;exact⟨by rw[Step,AT (by simp)];exact h r hr i hi j h3,h4⟩
 ·intro i hi;exact⟨rfl,hi⟩
 ·intro s l i m j h2 h3 ih1 ih2 hi;obtain⟨h4,h5⟩:=ih1 hi;obtain⟨h6,h7⟩:=ih2 h5;exact⟨⟨m,h4,h6⟩,h7⟩
theorem eK.of{g:ai}{w:List Nat}{E:List (List Nat)}(hE:gA g.au w.length E)(h1:yS g w E)(h2:kZ g w E):eK g w E:=
 ⟨hE,λn i j hi=>⟨h1 n i j,λh=>by
  have:=(uW hE h2 h hi).1;rw[Step,AT (by simp)] at this;exact this⟩⟩
def total(E:List (List Nat)):Nat:=(E.map List.sum).sum
theorem vm:∀{l:List Nat} {i x y:Nat},l[i]?=some x->(l.set i y).sum+x=l.sum+y
 | [],i,x,y,h=>by simp at h
 | a::l,0,x,y,h=>by simp at h;subst h;simp;omega
 | a::l,i+1,x,y,h=>by
  have:=vm (l:=l) (i:=i) (x:=x) (y:=y) (by simpa using h);simp only[Um,SG];omega
theorem Ao{b:Nat}:∀{l:List Nat},(∀x∈l,x<=b)->l.sum<=l.length*b
 | [],_=>by simp
 | a::l,h=>by
  have h1:=h a me;have h2:=Ao (b:=b) (l:=l) (λx hx=>h x (If _ hx));simp only[SG,R4,Ss,S7];omega
theorem IZ{n len:Nat}{E:List (List Nat)}(h:gA n len E):total E<=n*((len+1)*2 ^ (len+1)):=by
 unfold total;rw[<-h.size,<-RL (f:=List.sum)];refine Ao λx hx=>?_;obtain⟨row,hr,rfl⟩:=RI.1 hx;rw[<-h.row row hr];refine Ao λx hx=>?_;rw[h.row row hr];exact SF (h.bit row hr x hx)
def put(E:List (List Nat))(n i x:Nat):List (List Nat):=match E[n]? with
 | some row=>E.set n (row.set i x)
 | none=>E
theorem put_eq{E:List (List Nat)}{n i x:Nat}{row:List Nat}(h:E[n]?=some row):put E n i x=E.set n (row.set i x):=by unfold put;rw[h]
theorem Gn{E:List (List Nat)}{n i x y:Nat}{row:List Nat}(h:E[n]?=some row)(h2:row[i]?=some x)(h3:x<y):total E<total (put E n i y):=by
 rw[put_eq h];unfold total;rw[Tb];have h4:=vm (l:=E.map List.sum) (i:=n) (x:=row.sum) (y:=(row.set i y).sum) (by rw[RM,h];rfl);have h5:=vm (y:=y) h2;omega
theorem gA.put{n len:Nat}{E:List (List Nat)}(h:gA n len E){k i y:Nat}{row:List Nat}(h1:E[k]?=some row)(hy:y<2 ^ (len+1)):gA n len (put E k i y):=by
 rw[put_eq h1];have hrow:=gM h1;refine⟨by simp[h.size],λr hr=>?_,λr hr x hx=>?_⟩
 ·rcases TS hr with hr | rfl
  ·exact h.row r hr
  ·simp[h.row row hrow]
 ·rcases TS hr with hr | rfl
  ·exact h.bit r hr x hx
  ·rcases TS hx with hx | rfl
   ·exact h.bit row hrow x hx
   ·exact hy
theorem K6{E:List (List Nat)}{k i y x:Nat}{row:List Nat}(h1:E[k]?=some row)(h2:row[i]?=some x){n' i' j':Nat} :
  bit (put E k i y) n' i' j'↔if n'=k/\i'=i then y.testBit j'=true else bit E n' i' j':=by
 rw[put_eq h1];have hk:k<E.length:=(gS h1).1;have hi:i<row.length:=(gS h2).1;unfold bit;by_cases hn:n'=k
 ·subst hn;simp only[Sc hk,true_and];by_cases hi':i'=i
  ·subst hi';simp only[SU];constructor
   ·rintro⟨r,z,h3,h4,h5⟩;cases h3;rw[Sc hi] at h4;cases h4;exact h5
   ·intro h5;exact⟨_,y,rfl,by rw[Sc hi],h5⟩
  ·simp only[hi',Te];constructor
   ·rintro⟨r,z,h3,h4,h5⟩;cases h3;rw[SD zo] at h4;exact⟨row,z,h1,h4,h5⟩
   ·rintro⟨r,z,h3,h4,h5⟩;rw[h1] at h3;cases h3;exact⟨_,z,rfl,by rw[SD zo];exact h4,h5⟩
 ·simp only[hn,false_and,Te];rw[SD zo]
structure ES where
 E:List (List Nat)
 bs:List (Nat×aE)
 again:Bool
structure MS where
 k:Nat
 vs:List Value
 bs:List (Nat×aE)
theorem nG(l:Nat):(bif l==0 then 0 else 1)=if l=0 then 0 else 1:=by cases l<;>rfl
theorem Ep{α:Type}(x y:α)(bs rest:List α):(x::((y::bs)++rest)).Perm ((y::(bs++[x]))++rest):=by
 simp only[T3,SL];refine(List.Perm.swap y x _).trans (List.Perm.cons y ?_);have:(x::bs++rest).Perm (bs++x::rest):=T5.symm;simpa using this
theorem LB{α:Type}(vs:List α)(k:Nat)(z x:α)(hk:0<k):(vs++List.replicate k z).set vs.length x=(vs++[x])++List.replicate (k-1) z:=by
 obtain⟨k,rfl⟩:∃k',k=k'+1:=⟨k-1,by omega⟩;rw[List.set_append_right _ _ (AS _),TW,List.replicate_succ,Ul];simp
theorem yL(F:ar)(hL:Laid F)(g:ai)(hg:Valid g){a:Option Addr}{m c:Nat}(hr:bj cC F a m c g.rules){b:Option Addr}{n d:Nat}{w:List Nat}(hw:bj dD F b n d w)(hw1:w.length<=30) :
  Abs.Spec CC 64 [.agg ⟨ak g a m c⟩,.slice b n d] F [] λF' v o=>o=[]/\∃a c E,v=.slice a g.au c/\bj (cg xU) F' a g.au c E/\eK g w E:=by
 unfold ak;have hrlen:=hr.len;have hwlen:=hw.len;have hgr:=hg.range.rules;have hgn:=hg.range.au;refine Abs.Spec.fn (n:=73) Tryz.func64 rfl rfl λown=>?_;refine AW.seq (AW.dp ?_);refine WT.cy Z Z Z Z Z Z (λi2 hi2=>?_);refine aw ?_;refine WT.uw (l:=g.au) hT Z Z Z Z Z Z Z Z Z Z Z Z kF (λio hio=>?_);rw[nG];refine aw ?_;refine AW.range (S:=MS) (λ_=>[]) (λs=>((io,.cells false (s.vs++List.replicate s.k (.slice none 0 0)))::s.bs)::[(i2,.cells false [.int .i64 g.ae,.int .i64 g.au,.int .i64 g.start,.slice a m c])]::own)
  (λj s G=>s.k=g.au-j/\Abs.Rows zK s.vs s.bs (List.replicate j (List.replicate (w.length+1) 0))) g.au ⟨g.au,[],[]⟩ Z Z Z Z Z Z Z Z Z zo rfl rfl (λ_=>rfl) (λ_=>rfl) sM (ah.flat (NO _)) ⟨rfl,Abs.Rows.nil⟩ ?_ ?_
 ·intro j s F1 hF1 hj hP;obtain⟨hk,hR⟩:=hP;have hvl:=hR.len.1;rw[SX] at hvl;refine aw ?_;refine WT.uw (l:=n+1) hT Z Z Z Z Z Z Z Z Z Z Z Z kF (λir hir=>?_);rw[nG];refine WT.eA (j:=j) (s:=1) hT Z Z Z Z Z Z Z Z Z hj ?_;refine WT.storeAt hT 1 0 Z Z Z Z Z Z Z Z Z Z (by simp;omega) Z Z ?_;refine aw ?_;refine⟨⟨g.au-(j+1),s.vs++[.slice (some ⟨ir,0,none⟩) (n+1) (if n+1=0 then 0 else 1)],s.bs++[(ir,.cells false (List.replicate (n+1) (.int .u32 0)))]⟩,sM,ah.flat ?_,rfl,?_⟩
  ·dsimp only;rw[show 0+j*1=s.vs.length by omega,LB _ _ _ _ zo,show s.k-1=g.au-(j+1) by omega];simp only[S8];exact Ep _ _ _ _
  ·rw[show List.replicate (j+1) (List.replicate (w.length+1) 0)=List.replicate j (List.replicate (w.length+1) 0)++[List.replicate (w.length+1) 0] from List.replicate_succ'];have:=hR.snoc (K:=zK) (id:=ir) (row:=List.replicate (w.length+1) 0) (c:=if n+1=0 then 0 else 1) (by simp);rw[SX,Uo,<-hwlen] at this;rw[<-hwlen];exact this
 ·intro s F1 hF1 hP;obtain⟨hk,hR0⟩:=hP;have hk0:s.k=0:=by omega
  have hr1:=hr.mono hF1;have hw1':=hw.mono hF1;have hL1:=hL.mono hF1;have hE0:gA g.au w.length (List.replicate g.au (List.replicate (w.length+1) 0)):=by
   refine⟨by simp,λr hr=>?_,λr hr x hx=>?_⟩
   ·rw[Tk hr];simp
   ·rw[Tk hr] at hx;rw[Tk hx];exact Tm _
  have hS0:yS g w (List.replicate g.au (List.replicate (w.length+1) 0)):=by
   rintro n i j ⟨row,x,h1,h2,h3⟩;rw[Tk (gM h1)] at h2;rw[Tk (gM h2)] at h3;simp at h3
  refine aw ?_;refine AW.block ?_;refine AW.cm (S:=ES) (λs=>[(7,.bool s.again)]) (λt=>((io,.cells false (s.vs++List.replicate s.k (.slice none 0 0)))::t.bs)::[(i2,.cells false [.int .i64 g.ae,.int .i64 g.au,.int .i64 g.start,.slice a m c])]::own)
   (λt G=>Abs.Rows zK s.vs t.bs t.E/\gA g.au w.length t.E/\yS g w t.E/\(t.again=false->kZ g w t.E)) (λt=>if t.again=true then 1+(g.au*((w.length+1)*2 ^ (w.length+1))-total t.E) else 0) ⟨_,s.bs,true⟩
   sM oR ⟨hR0,hE0,hS0,λh=>(by cases h)⟩ ?_
  intro t F2 hF2 hP;obtain⟨hR,hE,hS,hC⟩:=hP;have hr2:=hr1.mono hF2;refine aw ?_;refine AW.cond Z (λh=>?_) (λh=>?_)
  ·refine aw ?_;refine AW.block ?_;refine aw ?_;refine AW.range (S:=ES) (λs=>[(7,.bool s.again)]) (λt=>((io,.cells false (s.vs++List.replicate s.k (.slice none 0 0)))::t.bs)::[(i2,.cells false [.int .i64 g.ae,.int .i64 g.au,.int .i64 g.start,.slice a m c])]::own)
    (λk u G=>Abs.Rows zK s.vs u.bs u.E/\gA g.au w.length u.E/\yS g w u.E/\total t.E<=total u.E/\(u.again=true->total t.E<total u.E)/\(u.again=false->∀r∈g.rules.take k,∀i,i<=w.length->qO w u.E r i)) m ⟨t.E,t.bs,false⟩
    Z Z Z Z Z Z Z Z Z zo rfl rfl (λ_=>rfl) (λ_=>rfl) sM oR ⟨hR,hE,hS,AS _,λh=>(by cases h),by simp⟩ ?_ ?_
   ·intro k u F3 hF3 hk hP;obtain⟨hR,hE,hS,hT1,hT2,hC⟩:=hP;have hr3:=hr2.mono hF3;refine aw ?_;refine WT.bG hT hr3 Z Z Z Z Z Z Z Z Z zo (λr hrk b1 off ro cs lx hb hp1 hrel=>?_);obtain⟨b2,n2,d2,rfl,hr4⟩:=hrel;obtain⟨hrl,hrr,hrs⟩:=hg.right r (gM hrk);refine aw ?_;refine WT.aK hT Z Z Z Z Z Z (λi9 hi9=>?_);refine aw ?_
    refine AW.range (S:=ES) (λs=>[(7,.bool s.again)]) (λt=>[(i9,.cells false [.int .i64 r.left,.slice b2 n2 d2])]::((io,.cells false (s.vs++List.replicate s.k (.slice none 0 0)))::t.bs)::[(i2,.cells false [.int .i64 g.ae,.int .i64 g.au,.int .i64 g.start,.slice a m c])]::own)
     (λi u G=>Abs.Rows zK s.vs u.bs u.E/\gA g.au w.length u.E/\yS g w u.E/\total t.E<=total u.E/\(u.again=true->total t.E<total u.E)/\(u.again=false->(∀r∈g.rules.take k,∀i,i<=w.length->qO w u.E r i)/\∀i',i'<i->qO w u.E r i')) (n+1) u
     Z Z Z Z Z Z Z Z Z zo rfl rfl (λ_=>rfl) (λ_=>rfl) sM oR ⟨hR,hE,hS,hT1,hT2,λh=>⟨hC h,by omega⟩⟩ ?_ ?_
    ·intro i u F4 hF4 hi hP;obtain⟨hR,hE,hS,hT1,hT2,hC⟩:=hP;have hw4:=((hw1'.mono hF2).mono hF3).mono hF4;have hL4:=((hL1.mono hF2).mono hF3).mono hF4;have hr5:=hr4.mono hF4;have hElen:=hE.size;have pwl:2 ^ (w.length+1)<=4294967296:=RS (j:=32) (by decide) zo;obtain⟨row,hrow⟩:∃row,u.E[r.left]?=some row:=⟨_,gE zo⟩;have hrowlen:=hE.row row (gM hrow);obtain⟨x,hx⟩:∃x,row[i]?=some x:=⟨_,gE zo⟩;have hxb:=hE.bit row (gM hrow) x (gM hx);obtain⟨id,cc,hvs,hbs,hcc⟩:=hR.at r.left row hrow;have hvl:=hR.len.1
     have hcell:(row.map zK.cell)[0+i*1]?=some (.int .u32 x):=by rw[RY,Sy,RM,hx];rfl
     have hout:(s.vs++List.replicate s.k (Value.slice none 0 0))[0+r.left*1]?=some (.slice (some ⟨id,0,none⟩) row.length cc):=by
      rw[RY,Sy,RW zo];exact hvs
     have harr:∀G,(∀i b,(i,b)∈((io,aE.cells false (s.vs++List.replicate s.k (Value.slice none 0 0)))::u.bs)->G i=some b)->bj (cg xU) G (some ⟨io,0,none⟩) g.au (if g.au=0 then 0 else 1) u.E:=by
      intro G hBG;have:=Abs.Rows.arr (K:=zK) (R:=xU) rfl (λ_ _=>rfl) (F:=G) (o:=io) (c:=if u.E.length=0 then 0 else 1) (ro:=false) hR (λi b hm=>hBG i b (If _ hm)) rfl (by rw[hBG io _ me,hk0];simp);rw[hElen] at this;exact this
     refine aw ?_;refine WT.jt 1 Tryz.func118 Z Z Z Z Z Z Z (λG hG hBG=>qA G (hL4.mono hG) (t:=g.ae) (hw4.mono hG) (harr G hBG) (hr5.mono hG) hE hrs hw1 zo i zo) (λv hv=>?_);obtain⟨y,rfl,hy1,hy2⟩:=hv;have hxy:x ||| y<2 ^ (w.length+1):=Nat.or_lt_two_pow hxb hy1
     refine aw ?_;refine WT.eA (j:=r.left) (s:=1) hT Z Z Z Z Z Z Z Z Z hrl ?_;refine WT.loadAt hT 1 Z Z Z Z Z Z me Z Z hout ?_;refine aw ?_;refine WT.eA (j:=i) (s:=1) hT Z Z Z Z Z Z Z Z Z zo ?_;refine WT.loadAt hT 1 Z Z Z Z Z Z (If _ (gM hbs)) Z Z hcell ?_;refine WT.xh (x:=y) (y:=x) Z Z Z Z Z Z zo zo ?_;refine aw ?_;refine AW.cond Z (λh=>?_) (λh=>?_)
     ·have hne:andNot y x≠0:=by intro e;rw[e] at h;simp at h
      refine aw ?_;refine WT.eA (j:=r.left) (s:=1) hT Z Z Z Z Z Z Z Z Z hrl ?_;refine WT.loadAt hT 1 Z Z Z Z Z Z me Z Z hout ?_;refine aw ?_;refine WT.eA (j:=i) (s:=1) hT Z Z Z Z Z Z Z Z Z zo ?_;refine WT.loadAt hT 1 Z Z Z Z Z Z (If _ (gM hbs)) Z Z hcell ?_;refine aw ?_;refine WT.EF (x:=x) (y:=y) Z Z Z Z Z Z zo zo ?_;refine WT.eA (j:=i) (s:=1) hT Z Z Z Z Z Z Z Z Z zo ?_;refine WT.storeAt hT 1 (r.left+1) Z Z Z Z Z Z hbs Z Z Z (by simp;omega) Z Z ?_;refine aw ?_;have hlt:x<x ||| y:=by
       rcases R2 x (x ||| y) with h1 | h1
       ·exact h1
       ·exfalso;have h2:x ||| y=x:=Nat.le_antisymm h1 Nat.left_le_or
        refine hne ((uC zo zo).2 λj hj=>?_);rw[<-h2,Nat.testBit_or,hj];simp
      have hT3:=Gn (y:=x ||| y) hrow hx hlt
      refine⟨⟨put u.E r.left i (x ||| y),u.bs.set r.left (id,.cells false ((row.set i (x ||| y)).map zK.cell)),true⟩,sM,ah.flat ?_,?_,hE.put hrow hxy,?_,by dsimp only;omega,λ_=>by dsimp only;omega,λh=>(by cases h)⟩
      ·rw[Tb];rw[show 0+i*1=i by omega];exact NO _
      ·rw[put_eq hrow];exact hR.set r.left row (row.set i (x ||| y)) id hrow (by simp) hbs
      ·intro n' i' j' hb';rw[K6 hrow hx] at hb';split at hb'
       ·rename_i he;obtain⟨rfl,rfl⟩:=he;rw[Nat.testBit_or,SZ] at hb';rcases hb' with hb' | hb'
        ·exact hS _ _ _ ⟨row,x,hrow,hx,hb'⟩
        ·exact .JD (gM hrk) (ur hS ((hy2 j').1 hb'))
       ·exact hS _ _ _ hb'
     ·have he:andNot y x=0:=by simp at h;omega
      have he2:=(uC zo zo).1 he;refine aw ?_;refine⟨u,sM,dH,hR,hE,hS,hT1,hT2,λh=>⟨(hC h).1,λi' hi'=>?_⟩⟩;rcases R2 i' i with h3 | h3
      ·exact(hC h).2 i' h3
      ·have:i'=i:=by omega
       subst this;intro j hj;exact⟨row,x,hrow,hx,he2 j ((hy2 j).2 hj)⟩
    ·intro u F4 hF4 hP;obtain⟨hR,hE,hS,hT1,hT2,hC⟩:=hP;refine⟨u,sM,dH,hR,hE,hS,hT1,hT2,λh=>lq hrk (hC h).1 λi hi=>(hC h).2 i zo⟩
   ·intro u F3 hF3 hP;obtain⟨hR,hE,hS,hT1,hT2,hC⟩:=hP;rw[RN zo] at hC;refine⟨u,?_,sM,dH,hR,hE,hS,hC⟩;have:=IZ hE;rw[h,By rfl];split
    ·rename_i h4;have:=hT2 h4;omega
    ·omega
  ·refine AW.exit ?_;refine AW.ay 0 Z Z (λF3 hF3 hB3=>?_);have harr:bj (cg xU) F3 (some ⟨io,0,none⟩) g.au (if g.au=0 then 0 else 1) t.E:=by
    have hElen:=hE.size;have:=Abs.Rows.arr (K:=zK) (R:=xU) rfl (λ_ _=>rfl) (F:=F3) (o:=io) (c:=if t.E.length=0 then 0 else 1) (ro:=false) hR (λi b hm=>hB3 i b (If _ hm)) rfl (by rw[hB3 io _ me,hk0];simp);rw[hElen] at this;exact this
   refine aw ?_;exact AW.ret ⟨_,[],⟨_,_,rfl,rfl,rfl⟩,bY,rfl,_,_,t.E,rfl,harr,eK.of hE hS (hC h)⟩
theorem wg(F:ar){a b:Option Addr}{m n c d:Nat}{xs ys:List Nat}(hx:bj dD F a m c xs)(hy:bj dD F b n d ys)(hm:m<=1000000) :
  Abs.Spec CC 12 [.slice a m c,.slice b n d] F [] λ_ v o=>o=[]/\v=.bool (decide (xs=ys)):=by
 refine Abs.Spec.fn (n:=26) Tryz.func12 rfl rfl λown=>?_;have hxlen:=hx.len;have hylen:=hy.len;refine aw ?_;refine AW.cond Z (λhc=>?_) (λhc=>?_)
 ·refine aw ?_;refine AW.ret ⟨_,[],⟨_,_,rfl,rfl,rfl⟩,bY,rfl,?_⟩;have:xs≠ys:=by rintro rfl;simp at hc;omega
  simp[this,ej]
 ·have hmn:m=n:=by simp at hc;omega
  refine aw ?_;refine AW.range (S:=Unit) (λ_=>[]) (λ_=>_) (λj _ G=>xs.take j=ys.take j) m () Z Z Z Z Z Z Z Z Z zo Z Z (λ_=>rfl) (λ_=>rfl) sM oR (by simp) ?_ ?_
  ·intro j _ F1 hF1 hj hP;have hx1:=hx.mono hF1;have hy1:=hy.mono hF1;refine aw ?_;refine WT.bG hT hx1 Z Z Z Z Z Z Z Z Z zo (λx hxj b1 off ro cs lx hb hp1 hrel=>?_);obtain rfl:lx=_:=hrel;refine aw ?_;refine WT.bG hT hy1 Z Z Z Z Z Z Z Z Z zo (λy hyj b2 off2 ro2 cs2 ly hb2 hp2 hrel2=>?_);obtain rfl:ly=_:=hrel2;refine aw ?_;refine AW.cond Z (λhc=>?_) (λhc=>?_)
   ·refine aw ?_;refine AW.ret ⟨_,[],⟨_,_,rfl,rfl,rfl⟩,bY,rfl,?_⟩;have:xs≠ys:=by
     rintro rfl;rw[hxj] at hyj;cases hyj;simp at hc
    simp[this,ej]
   ·have hc:x=y:=by simp at hc;omega
    refine aw ?_;refine⟨(),sM,dH,?_⟩;show xs.take (j+1)=ys.take (j+1);rw[RZ,RZ,hP,hxj,hyj,hc]
  ·intro _ F1 hF1 hP;rw[RN zo,RN zo] at hP;refine aw ?_;refine AW.ret ⟨_,[],⟨_,_,rfl,rfl,rfl⟩,bY,rfl,?_⟩;simp[hP,ej]
theorem oL(x p:Nat):(x / 2 ^ p &&& 1)=if x.testBit p=true then 1 else 0:=by
 rw[Nat.and_one_is_mod,<-Nat.shiftRight_eq_div_pow];have:=Nat.testBit_eq_decide_div_mod_eq (x:=x) (i:=p);rw[Nat.shiftRight_eq_div_pow];rw[this];simp only[Su];rcases Nat.mod_two_eq_zero_or_one (x / 2 ^ p) with h | h<;>simp[h]
noncomputable def ph(g:ai)(w:List Nat)(n i j:Nat):Bool:=@decide (qF g w ⟨false,n⟩ i j) (Classical.propDecidable _)
theorem Dc{g:ai}{w:List Nat}{n i j:Nat}:ph g w n i j=true↔qF g w ⟨false,n⟩ i j:=by unfold ph;exact @decide_eq_true_iff _ (Classical.propDecidable _)
theorem sK(F:ar)(hL:Laid F)(g:ai)(hg:Valid g){a:Option Addr}{m c:Nat}(hr:bj cC F a m c g.rules){b:Option Addr}{n d:Nat}{w:List Nat}(hw:bj dD F b n d w)(hw1:w.length<=12)(hw2:∀t∈w,t<g.ae) :
  Abs.Spec CC 62 [.agg ⟨ak g a m c⟩,.slice b n d] F [] λ_ v o=>o=[]/\v=.tuple ⟨[.bool (ph g w g.start 0 w.length),.int .i64 0]⟩:=by
 unfold ak;have hwlen:=hw.len;have hgs:=hg.range.start;refine Abs.Spec.fn (n:=27) Tryz.func62 rfl rfl λown=>?_;refine AW.seq (AW.dp ?_);refine WT.cy Z Z Z Z Z Z (λi1 hi1=>?_);refine aw ?_;refine WT.a6 Tryz.func88 Z Z Z Z Z Z (B9 _ g hg hr hw hw1 hw2) (λv hv=>?_);subst hv;refine aw ?_;refine AW.cond Z (λh=>(by cases h)) (λh=>?_);refine aw ?_;refine AW.draw (ps:=[(4,2),(10,2)]) Z Z ?_;refine aw ?_;refine WT.cO Tryz.func64 Z Z Z Z Z Z (yL _ hL g hg hr hw zo) (λF1 v hF1 hv=>?_);obtain⟨ea,ec,E,rfl,hE,hE2⟩:=hv;have hElen:=hE2.ok.size
 refine aw ?_;refine WT.bG hT hE Z Z Z Z Z Z Z Z Z zo (λrow hrow b1 off ro cs lx hb hp1 hrel=>?_);obtain⟨a2,n2,c2,rfl,hrow2⟩:=hrel;have hrl:=hE2.ok.row row (gM hrow);refine aw ?_;refine WT.bG (j:=0) hT hrow2 Z Z Z Z Z Z Z Z Z zo (λx hx b3 off3 ro3 cs3 lx3 hb3 hp3 hrel3=>?_);obtain rfl:lx3=_:=hrel3;have hxb:=hE2.ok.bit row (gM hrow) x (gM hx);have pwl:2 ^ (w.length+1)<=4294967296:=RS (j:=32) (by decide) zo;refine aw ?_;refine WT.Ch (x:=x) (y:=n) Z Z Z Z Z Z zo ?_
 refine WT.lF (x:=x / 2 ^ n) (y:=1) Z Z Z Z Z Z (T8 (Un _ _) zo) (by decide) ?_;refine aw ?_;refine⟨oY,?_⟩;refine AW.ret ⟨_,[],⟨_,_,rfl,⟨_,_,rfl,rfl,rfl⟩,rfl⟩,bY,rfl,?_⟩;have e:ph g w g.start 0 w.length=x.testBit n:=by
  rw[Ta,Dc,<-hE2.iff _ _ _ zo,hwlen];constructor
  ·rintro⟨row',x',h3,h4,h5⟩;rw[hrow] at h3;cases h3;rw[hx] at h4;cases h4;exact h5
  ·intro hb;exact⟨row,x,hrow,hx,hb⟩
 rw[oL,e];cases x.testBit n<;>rfl
structure NS where
 xs:List Nat
 a:Option Addr
 m:Nat
 c:Nat
 B:List (Nat×aE)
theorem HT{g:ai}{w:List Nat}:∀{s:Sym} {i j:Nat},qF g w s i j->i<=j:=by
 intro s i j h;refine qF.rec (motive_1:=λs i j _=>i<=j) (motive_2:=λl i j _=>i<=j) ?_ ?_ ?_ ?_ h
 ·intro t i _;omega
 ·intro r i j _ _ ih;exact ih
 ·intro i;omega
 ·intro s l i m j _ _ ih1 ih2;omega
theorem Fv{g:ai}{w:List Nat}:∀{l:List Sym} {i j:Nat},ni g w l i j->i<=j
 | [],i,j,h=>by rw[BH.1 h];omega
 | s::l,i,j,h=>by
  obtain⟨m,h1,h2⟩:=y9.1 h;have:=HT h1;have:=Fv h2;omega
def aC(xs ys:List Bool):List Bool:=List.zipWith (λa b=>a||b) xs ys
def pA(j:Nat)(xs ys:List Bool):List Bool:=aC (xs.take j) (ys.take j)++xs.drop j
theorem zg(xs ys:List Bool):pA 0 xs ys=xs:=by simp[pA,aC]
theorem CA{xs ys:List Bool}(h:xs.length=ys.length):pA xs.length xs ys=aC xs ys:=by
 unfold pA;rw[RN (AS _),RN zo,SP (AS _),Sq]
theorem vB{j:Nat}{xs ys:List Bool}(h:xs.length=ys.length):(pA j xs ys).length=xs.length:=by
 unfold pA aC;simp;omega
theorem sF{j:Nat}{xs ys:List Bool}{x:Bool}(h:xs.length=ys.length)(hx:xs[j]?=some x):(pA j xs ys)[j]?=some x:=by
 have hj:=(gS hx).1;unfold pA aC;rw[Sj (by simp;omega)];simp;rw[<-hx];congr 1;omega
theorem tU{j:Nat}{xs ys:List Bool}{x y:Bool}(h:xs.length=ys.length)(hx:xs[j]?=some x)(hy:ys[j]?=some y):pA (j+1) xs ys=(pA j xs ys).set j (x||y):=by
 have hj:=(gS hx).1;have hl:(aC (xs.take j) (ys.take j)).length=j:=by unfold aC;simp;omega
 unfold pA;rw[RZ,RZ,hx,hy];unfold aC;rw[List.zipWith_append (by simp;omega)];have hd:xs.drop j=x::xs.drop (j+1):=by
  rw[Sa hj];rw[gE hj] at hx;rw[BY hx]
 rw[hd];unfold aC at hl;rw[List.set_append_right _ _ zo,hl,TW];simp
structure US where
 cur:List Bool
 ch:Bool
theorem qk(F:ar){it:Nat}{xs ys:List Bool}{b:Option Addr}{m n c d:Nat}(hm:m=xs.length)(hy:bj fv F b n d ys)(hlen:xs.length=ys.length)(hn:n<=1000000) :
  Abs.Spec CC 134 [.slice (some ⟨it,0,none⟩) m c,.slice b n d] F [[(it,.cells false (xs.map aO.cell))]] λ_ v o=>∃B',o=[B']/\B'=[(it,.cells false ((aC xs ys).map aO.cell))]/\v=.bool (decide (aC xs ys≠xs)):=by
 have hylen:=hy.len;refine Abs.Spec.fn (n:=28) Tryz.func134 rfl rfl λown=>?_;refine aw ?_;refine AW.range (S:=US) (λs=>[(5,.bool s.ch)]) (λs=>[(it,.cells false (s.cur.map aO.cell))]::own) (λj s G=>s.cur=pA j xs ys/\s.ch=decide (s.cur≠xs)) n ⟨xs,false⟩ Z Z Z Z Z Z Z Z Z zo Z Z (λ_=>rfl) (λ_=>rfl) sM oR ⟨(zg xs ys).symm,by simp⟩ ?_ ?_
 ·intro j s F1 hF1 hj hP;obtain⟨hcur,hch⟩:=hP;have hy1:=hy.mono hF1;obtain⟨x,hx⟩:∃x,xs[j]?=some x:=⟨_,gE zo⟩;have hcl:s.cur.length=xs.length:=by rw[hcur];exact vB hlen
  have hcx:(s.cur.map aO.cell)[0+j*1]?=some (.bool x):=by rw[RY,Sy,RM,hcur,sF hlen hx];rfl
  refine aw ?_;refine WT.bG hT hy1 Z Z Z Z Z Z Z Z Z zo (λy hyj b1 off ro cs lx hb hp hrel=>?_);obtain rfl:lx=_:=hrel;have hnext:=tU hlen hx hyj;rw[<-hcur] at hnext;have same:(x||y)=x->s.cur.set j (x||y)=s.cur:=by
   intro e;rw[e];apply SA;intro i;by_cases hi:i=j
   ·subst hi;rw[Sc zo,hcur,sF hlen hx]
   ·rw[SD zo]
  refine aw ?_;refine WT.split 16 Z (λh=>?_) (λh=>?_)
  ·refine aw ?_;refine WT.eA (j:=j) (s:=1) hT Z Z Z Z Z Z Z Z Z zo ?_;refine WT.loadAt hT 0 Z Z Z Z Z Z me Z Z hcx ?_;refine aw ?_;refine AW.cond Z (λh2=>?_) (λh2=>?_)
   ·have h2:x=false:=by simpa using h2
    refine aw ?_;refine WT.eA (j:=j) (s:=1) hT Z Z Z Z Z Z Z Z Z zo ?_;refine WT.storeAt hT 0 0 Z Z Z Z Z Z Z Z Z Z (by simp;omega) Z Z ?_;refine aw ?_;refine⟨⟨s.cur.set j true,true⟩,sM,ah.flat ?_,?_,?_⟩
    ·dsimp only;rw[Tb,RY,Sy];exact NO _
    ·rw[hnext,h,h2];rfl
    ·have:s.cur.set j true≠xs:=by
      intro e;have this:(s.cur.set j true)[j]?=xs[j]?:=by rw[e]
      rw[Sc zo,hx,h2] at this;cases this
     simp[this]
   ·have h2:x=true:=by simpa using h2
    refine aw ?_;refine⟨s,sM,dH,?_,hch⟩;rw[hnext,same (by rw[h2];rfl)]
  ·refine aw ?_;refine AW.cond Z (λh2=>(by cases h2)) (λh2=>?_);refine aw ?_;refine⟨s,sM,dH,?_,hch⟩;rw[hnext,same (by rw[h];simp)]
 ·intro s F1 hF1 hP;obtain⟨hcur,hch⟩:=hP;rw[show n=xs.length by omega,CA hlen] at hcur;refine aw ?_;refine AW.ret ⟨_,[_],⟨_,_,rfl,rfl,rfl⟩,Sk _,_,rfl,by rw[<-hcur],?_⟩;rw[<-hcur,<-hch];rfl
def ofRow(E:List Bool)(Fi:List (List Bool)):List Bool->List Sym->List Bool×Bool
 | out,[]=>(out,true)
 | out,s::l=>if s.term=true then (out.set s.n true,false) else
  if E.getD s.n false=true then ofRow E Fi (aC out (Fi.getD s.n [])) l else (aC out (Fi.getD s.n []),false)
theorem xm(F:ar){is ie io:Nat}{ro:Bool}{ae au start rm rc ce co:Nat}{ra:Option Addr}{E:List Bool}{Fi:List (List Bool)}
  (hS:F is=some (.cells ro [.int .i64 ae,.int .i64 au,.int .i64 start,.slice ra rm rc,.slice (some ⟨ie,0,none⟩) au ce,.slice (some ⟨io,0,none⟩) au co]))
  (hE:bj fv F (some ⟨ie,0,none⟩) au ce E) (hFi:bj (cg fv) F (some ⟨io,0,none⟩) au co Fi) (hFl:∀r∈Fi,r.length=ae) (ht:ae<=1000000)
  {a:Option Addr} {m c:Nat} {l:List Sym} (hl:bj fh F a m c l) (hm:m<=1000000) (hok:∀y∈l,ck ae au y) :
  Abs.Spec CC 133 [.pointer (some ⟨is,0,none⟩),.slice a m c] F [] λ_ v o=>∃B',o=[B']/\∃ir,B'=[(ir,.cells false ((ofRow E Fi (List.replicate ae false) l).1.map aO.cell))]/\
   (ofRow E Fi (List.replicate ae false) l).1.length=ae/\v=.tuple ⟨[.slice (some ⟨ir,0,none⟩) ae (if ae=0 then 0 else 1),.bool (ofRow E Fi (List.replicate ae false) l).2]⟩:=by
 have hllen:=hl.len;have hElen:=hE.len;have hFlen:=hFi.len;refine Abs.Spec.fn (n:=50) Tryz.func133 rfl rfl λown=>?_;refine aw ?_;refine WT.uw (l:=ae) hT Z Z Z Z Z Z Z Z Z Z Z Z kF (λir hir=>?_);rw[nG];refine aw ?_;refine AW.range (S:=List Bool) (λ_=>[]) (λs=>[(ir,.cells false (s.map aO.cell))]::own) (λj s G=>s.length=ae/\ofRow E Fi (List.replicate ae false) l=ofRow E Fi s (l.drop j)) m (List.replicate ae false) Z Z Z Z Z Z Z Z Z zo Z Z (λ_=>rfl) (λ_=>rfl) sM (ah.flat (by simp[aO])) ⟨by simp,by simp⟩ ?_ ?_
 ·intro j s F1 hF1 hj hP;obtain⟨hsl,hrun⟩:=hP;have hl1:=hl.mono hF1;have hS1:=hF1 _ _ hS;have hE1:=hE.mono hF1;have hFi1:=hFi.mono hF1;refine aw ?_;refine WT.bG hT hl1 Z Z Z Z Z Z Z Z Z zo (λy hyj b1 off ro1 cs lx hb hp hrel=>?_);obtain rfl:lx=_:=hrel;have hyok:=hok y (gM hyj);have hdrop:l.drop j=y::l.drop (j+1):=by
   rw[Sa (show j<l.length by omega)];rw[gE zo] at hyj;rw[BY hyj]
  rw[hdrop] at hrun;refine aw ?_;refine WT.aK hT Z Z Z Z Z Z (λi8 hi8=>?_);refine aw ?_;refine AW.cond Z (λh=>?_) (λh=>?_)
  ·have h:y.term=true:=h;rw[ck,By h] at hyok;rw[ofRow,By h] at hrun;refine aw ?_;refine WT.eA (j:=y.n) (s:=1) hT Z Z Z Z Z Z Z Z Z hyok ?_;refine WT.storeAt hT 1 0 Z Z Z Z Z Z Z Z Z Z (by simp;omega) Z Z ?_;refine aw ?_;refine AW.ret ⟨_,[[(ir,.cells false ((s.set y.n true).map aO.cell))]],⟨_,_,rfl,⟨_,_,rfl,rfl,rfl⟩,rfl⟩,?_,_,rfl,ir,?_,?_,?_⟩
   ·rw[Tb,show 0+y.n*1=y.n by omega];exact Tf ..
   ·rw[hrun]
   ·rw[hrun];simp[hsl]
   ·rw[hrun];rfl
  ·have h:¬y.term=true:=by rw[show y.term=false from h];decide
   rw[ck,AT h] at hyok;rw[ofRow,AT h] at hrun;refine aw ?_;refine WT.bG hT hFi1 Z Z Z Z Z Z Z Z Z zo (λrow hrow b2 off2 ro2 cs2 lx2 hb2 hp2 hrel2=>?_);obtain⟨a4,n4,c4,rfl,hrow2⟩:=hrel2;have hrl:=hFl row (gM hrow);have hrl2:=hrow2.len;have hgetD:Fi.getD y.n []=row:=by rw[No,hrow];rfl
   rw[hgetD] at hrun;have hnl:(aC s row).length=ae:=by unfold aC;simp;omega
   refine aw ?_;refine WT.pI 1 Tryz.func134 Z Z Z Z Z Z Z (λ_=>rfl) (qk F1 (it:=ir) (xs:=s) (m:=ae) zo hrow2 zo zo) (λv B hv=>?_);obtain⟨rfl,rfl⟩:=hv;refine aw ?_;refine WT.bG hT hE1 Z Z Z Z Z Z Z Z Z zo (λe he b3 off3 ro3 cs3 lx3 hb3 hp3 hrel3=>?_);obtain rfl:lx3=_:=hrel3;have hgE:E.getD y.n false=e:=by rw[No,he];rfl
   rw[hgE] at hrun;refine aw ?_;refine AW.cond Z (λh2=>?_) (λh2=>?_)
   ·have h2:e=false:=by simpa using h2
    rw[AT (by rw[h2];decide)] at hrun;refine aw ?_;refine AW.ret ⟨_,[[(ir,.cells false ((aC s row).map aO.cell))]],⟨_,_,rfl,⟨_,_,rfl,rfl,rfl⟩,rfl⟩,Tf ..,_,rfl,ir,?_,?_,?_⟩
    ·rw[hrun]
    ·rw[hrun];exact hnl
    ·rw[hrun];rfl
   ·have h2:e=true:=by simpa using h2
    rw[By h2] at hrun;refine aw ?_;exact⟨aC s row,sM,dH,hnl,hrun⟩
 ·intro s F1 hF1 hP;obtain⟨hsl,hrun⟩:=hP;rw[SP zo,ofRow] at hrun;refine aw ?_;refine AW.ret ⟨_,[_],⟨_,_,rfl,⟨_,_,rfl,rfl,rfl⟩,rfl⟩,Sk _,_,rfl,ir,?_,?_,?_⟩
  ·rw[hrun]
  ·rw[hrun];exact hsl
  ·rw[hrun];rfl
def eG(g:ai)(E:List Bool)(Fi:List (List Bool)):Prop:=∀r∈g.rules,aC (Fi.getD r.left []) (ofRow E Fi (List.replicate g.ae false) r.right).1=Fi.getD r.left []/\
 ((ofRow E Fi (List.replicate g.ae false) r.right).2=true->E.getD r.left false=true)
structure wL(F:ar)(is:Nat)(g:ai)(ra:Option Addr)(rm rc:Nat)(E:List Bool)(Fi:List (List Bool)):Prop where
 bu:∃ie io ce co ro,F is=some (.cells ro [.int .i64 g.ae,.int .i64 g.au,.int .i64 g.start,.slice ra rm rc,.slice (some ⟨ie,0,none⟩) g.au ce,.slice (some ⟨io,0,none⟩) g.au co])/\
  bj fv F (some ⟨ie,0,none⟩) g.au ce E/\bj (cg fv) F (some ⟨io,0,none⟩) g.au co Fi
 row:∀r∈Fi,r.length=g.ae
 rules:bj cC F ra rm rc g.rules
 closed:eG g E Fi
structure FS where
 a:Option Addr
 m:Nat
 c:Nat
 B:List (Nat×aE)
 vs:List Value
 bs:List (Nat×aE)
structure FM where
 E:List Bool
 Fi:List (List Bool)
 bs:List (Nat×aE)
 again:Bool
def fB:List Bool->Nat
 | []=>0
 | b::l=>(if b=true then 1 else 0)+fB l
def dt(M:List (List Bool)):Nat:=(M.map fB).sum
theorem rk:∀l:List Bool,fB l<=l.length
 | []=>AS _
 | b::l=>by have:=rk l;simp only[fB,R4];split<;>omega
theorem AG:∀{xs ys:List Bool},xs.length=ys.length->fB xs<=fB (aC xs ys)/\(aC xs ys≠xs->fB xs<fB (aC xs ys))
 | [],[],_=>by simp[aC]
 | [],_::_,h=>by simp at h
 | _::_,[],h=>by simp at h
 | x::xs,y::ys,h=>by
  obtain⟨h1,h2⟩:=@AG xs ys (by simpa using h);unfold aC at h1 h2;simp only[aC,TH,fB];cases x with
  | true=>
   refine⟨by simp;omega,λhne=>?_⟩;have:List.zipWith (λa b=>a||b) xs ys≠xs:=by intro e;apply hne;simp[e]
   have:=h2 this;simp;omega
  | false=>
   cases y with
   | true=>exact⟨by simp;omega,λ_=>by simp;omega⟩
   | false=>
    refine⟨by simp;omega,λhne=>?_⟩;have:List.zipWith (λa b=>a||b) xs ys≠xs:=by intro e;apply hne;simp[e]
    have:=h2 this;simp;omega
theorem od:∀{l:List Bool} {j:Nat},l[j]?=some false->fB (l.set j true)=fB l+1
 | [],j,h=>by simp at h
 | b::l,0,h=>by simp at h;subst h;simp[fB];omega
 | b::l,j+1,h=>by
  have:=@od l j (by simpa using h);simp only[Um,fB];omega
theorem Bx{n m:Nat}{M:List (List Bool)}(h:nK n m M):dt M<=n*m:=by
 unfold dt;rw[<-h.size,<-RL (f:=fB)];refine Ao λx hx=>?_;obtain⟨row,hr,rfl⟩:=RI.1 hx;have:=rk row;rw[h.row row hr] at this;exact this
theorem yF{M:List (List Bool)}{i:Nat}{row row':List Bool}(h:M[i]?=some row):dt (M.set i row')+fB row=dt M+fB row':=by
 unfold dt;rw[Tb];exact vm (by rw[RM,h];rfl)
theorem gu{xs ys:List Bool}(h:xs.length=ys.length):(aC xs ys).length=xs.length:=by unfold aC;simp;omega
def qf(ae:Nat)(E:List Bool)(Fi:List (List Bool))(r:bW):Prop:=aC (Fi.getD r.left []) (ofRow E Fi (List.replicate ae false) r.right).1=Fi.getD r.left []/\
 ((ofRow E Fi (List.replicate ae false) r.right).2=true->E.getD r.left false=true)
def Ic(E:List Bool)(M:List (List Bool))(r:bW):Prop:=∀pre n post,r.right=pre++⟨false,n⟩::post->(∀y∈pre,y.term=false/\E.getD y.n false=true)->J0 M r.left n=some true
structure TM where
 M:List (List Bool)
 bs:List (Nat×aE)
structure RC where
 ys:List (List Nat)
 a:Option Addr
 m:Nat
 c:Nat
 B:List (Nat×aE)
inductive Tree where
 | mk (az:Int) (term:Nat) (kids:List Tree)
structure Ro where
 j:Nat
 a:Option Addr
 c:Nat
 B:List (Nat×aE)
structure PD(g:ai)(M:List (List Bool))(E:List Bool)(Fi:List (List Bool)):Prop where
 BQ:nK g.au g.au M
 first:eG g E Fi
 direct:∀r∈g.rules,Ic E M r
 trans:∀x y z,y<g.au->J0 M x y=some true->J0 M y z=some true->J0 M x z=some true
 Rp:∀i,i<g.au->J0 M i i≠some true
mutual
inductive bD(g:ai)(w:List Nat):Sym->Tree->Nat->Nat->Prop
 | leaf {t i:Nat} (h:w[i]?=some t):bD g w ⟨true,t⟩ (.mk (-1) t []) i (i+1)
 | node {k:Nat} {r:bW} {kids:List Tree} {i j:Nat} (h:g.rules[k]?=some r) (h2:aI g w r.right kids i j):bD g w ⟨false,r.left⟩ (.mk k 0 kids) i j
inductive aI(g:ai)(w:List Nat):List Sym->List Tree->Nat->Nat->Prop
 | nil {i:Nat}:aI g w [] [] i i
 | cons {s:Sym} {l:List Sym} {t:Tree} {ts:List Tree} {i m j:Nat} (h:bD g w s t i m) (h2:aI g w l ts m j):aI g w (s::l) (t::ts) i j
end
mutual
theorem bD.le{g:ai}{w:List Nat}:∀{t:Tree} {s:Sym} {i j:Nat},bD g w s t i j->i<=j/\(i<=w.length->j<=w.length)
 | .mk _ _ _,_,_,_,.leaf h=>⟨by omega,λ_=>by have:=(gS h).1;omega⟩
 | .mk _ _ ks,_,_,_,.node h h2=>aI.le h2
theorem aI.le{g:ai}{w:List Nat}:∀{ts:List Tree} {l:List Sym} {i j:Nat},aI g w l ts i j->i<=j/\(i<=w.length->j<=w.length)
 | [],_,_,_,.nil=>⟨AS _,id⟩
 | t::ts,_,_,_,.cons h h2=>by
  have h3:=bD.le h;have h4:=aI.le h2;exact⟨by omega,λh5=>h4.2 (h3.2 h5)⟩
end
theorem aI.len{g:ai}{w:List Nat}:∀{ts:List Tree} {l:List Sym} {i j:Nat},aI g w l ts i j->ts.length=l.length
 | [],_,_,_,.nil=>rfl
 | t::ts,_,_,_,.cons h h2=>by simp[aI.len h2]
theorem yE{E:List Bool}{Fi:List (List Bool)}:∀(l:List Sym) (out:List Bool),(∀y∈l,y.term=false/\E.getD y.n false=true)->(ofRow E Fi out l).2=true
 | [],_,_=>rfl
 | s::l,out,h=>by
  have h1:=h s me;unfold ofRow;rw[AT (by simp[h1.1]),By h1.2];exact yE l _ λy hy=>h y (If _ hy)
mutual
theorem bD.empty{g:ai}{w:List Nat}{E:List Bool}{Fi:List (List Bool)}(hc:eG g E Fi):∀{t:Tree} {s:Sym} {i j:Nat},bD g w s t i j->i=j->s.term=false/\E.getD s.n false=true
 | .mk _ _ _,_,_,_,.leaf h,e=>by omega
 | .mk _ _ ks,_,_,_,.node h h2,e=>⟨rfl,(hc _ (gM h)).2 (yE _ _ (aI.empty hc h2 e))⟩
theorem aI.empty{g:ai}{w:List Nat}{E:List Bool}{Fi:List (List Bool)}(hc:eG g E Fi):∀{ts:List Tree} {l:List Sym} {i j:Nat},aI g w l ts i j->i=j->∀y∈l,y.term=false/\E.getD y.n false=true
 | [],_,_,_,.nil,_=>λy hy=>by simp at hy
 | t::ts,_,_,_,.cons h h2,e=>λy hy=>by
  have h3:=h.le.1;have h4:=h2.le.1;rcases R0.1 hy with rfl | hy
  ·exact bD.empty hc h zo
  ·exact aI.empty hc h2 zo y hy
end
theorem ND(a b c d:Nat):((((a:Int)==(c:Int))&&(((b:Int)==(d:Int))&&true))=decide ((a,b)=(c,d))):=by
 rw[Ta];simp only[IN,SK,Su,Sb,UP];omega
structure Item where
 az:Nat
 dot:Nat
 gW:Nat
deriving DecidableEq
def qm(rs:List bW)(x:Item):Option Sym:=(rs[x.az]?).bind λr=>r.right[x.dot]?
def AE(rs:List bW)(k:Nat)(x:Item):Prop:=∃r,rs[x.az]?=some r/\x.dot<=r.right.length/\x.gW<=k
def vK(x:Item):Item:=⟨x.az,x.dot+1,x.gW⟩
def Dn(rs:List bW)(L:Nat->List Item)(k:Nat)(x:Item):Prop:=
 (∀n i r,qm rs x=some ⟨false,n⟩->rs[i]?=some r->r.left=n->(⟨i,0,k⟩:Item)∈L k)/\
 (∀r,rs[x.az]?=some r->x.dot=r.right.length->∀y∈L x.gW,qm rs y=some ⟨false,r.left⟩->vK y∈L k)
structure MH(g:ai)(v:List Nat)(L:Nat->List Item):Prop where
 ok:∀k,k<=v.length->∀x∈L k,AE g.rules k x
 start:∀i r,g.rules[i]?=some r->r.left=g.start->(⟨i,0,0⟩:Item)∈L 0
 closed:∀k,k<=v.length->∀x∈L k,Dn g.rules L k x
 scan:∀k t,v[k]?=some t->∀x∈L k,qm g.rules x=some ⟨true,t⟩->vK x∈L (k+1)
def ED(g:ai)(E:List Bool):Prop:=∀r∈g.rules,(∀y∈r.right,y.term=true\/E[y.n]?=some true)->E[r.left]?=some true
def M1(E:List Bool)(r:bW):Bool:=!(r.right.any λy=>!y.term&&!(E.getD y.n false))
def trimmed(E:List Bool)(g:ai):ai:={ g with rules:=g.rules.filter (M1 E) }
def MC(O:List Int):Nat:=O.countP λx=>decide (0<=x)
structure QC(au:Nat)(O:List Int):Prop where
 len:O.length=au
 ge:∀x∈O,-1<=x
 le:∀x∈O,x<=((4 ^ MC O:Nat):Int)
def oS(g:ai)(n:Nat):Prop:=∃w,qF g w ⟨false,n⟩ 0 w.length
theorem CL{g:ai}{w u v:List Nat}:∀{s:Sym} {i j:Nat},qF g w s i j->qF g (u++(w++v)) s (u.length+i) (u.length+j):=by
 intro s i j h;refine qF.rec (motive_1:=λs i j _=>qF g (u++(w++v)) s (u.length+i) (u.length+j)) (motive_2:=λl i j _=>ni g (u++(w++v)) l (u.length+i) (u.length+j)) ?_ ?_ ?_ ?_ h
 ·intro t i h;refine .term (t:=t) (i:=u.length+i) ?_;have:=(gS h).1;rw[Sj zo,Nat.add_sub_cancel_left,RW this];exact h
 ·intro r i j hr _ ih;exact .JD hr ih
 ·intro i;exact .nil
 ·intro s l i m j _ _ h1 h2;exact .cons h1 h2
theorem yu{g:ai}{w u v:List Nat}:∀{l:List Sym} {i j:Nat},ni g w l i j->ni g (u++(w++v)) l (u.length+i) (u.length+j)
 | [],i,j,h=>by rw[BH.1 h];exact .nil
 | s::l,i,j,h=>by
  obtain⟨m,h1,h2⟩:=y9.1 h;exact .cons (CL h1) (yu h2)
theorem rP{g:ai}:∀(l:List Sym),(∀y∈l,y.term=true\/oS g y.n)->∃w,ni g w l 0 w.length
 | [],_=>⟨[],.nil⟩
 | y::l,h=>by
  obtain⟨w2,h2⟩:=rP l (λz hz=>h z (If _ hz));have:∃w1,qF g w1 y 0 w1.length:=by
   cases y with
   | mk term n=>
    cases term with
    | true=>exact⟨[n],.term rfl⟩
    | false=>
     rcases h _ me with h | h
     ·cases h
     ·exact h
  obtain⟨w1,h1⟩:=this;refine⟨w1++w2,?_⟩;have e1:=CL (u:=[]) (v:=w2) h1;have e2:=yu (u:=w1) (v:=[]) h2;simp only[UL,UJ,RY,Sq,Tq] at e1 e2;rw[RP];exact .cons e1 e2
structure Jn(g:ai)(E:List Bool):Prop where
 len:E.length=g.au
 closed:ED g E
 sound:∀n,E[n]?=some true->oS g n
def HM:Ty Item where
 size:=3
 rel:=λ_ l x=>l=[.int .i64 x.az,.int .i64 x.dot,.int .i64 x.gW]
 len:=λ_ _ _ h=>by rw[h];rfl
 one:=λ_ _ _ h=>by rw[h];rfl
 mono:=λ_ _ _ _ _ h=>h
theorem M9{p:Prop} (h:p:=by
 obtain rfl:a=none:=by simpa using h
 obtain⟨rfl,rfl⟩:=hx.nil rfl;obtain rfl:xs=[]:=SE hx.len.symm;refine aw ?_;refine AW.le (own2:=[]::own) (ah.flat (NO _)) ?_;exact AW.ret ⟨_,[[]],⟨_,_,rfl,rfl,rfl⟩,bY,_,rfl,_,_,rfl,(dR.gz _ _).vec⟩):p:=h
theorem yj(F:ar){a:Option Addr}{m c:Nat}{xs:List Sym}(hx:bj fh F a m c xs)(hm:m<=1000000) :
  Abs.Spec CC 107 [.slice a m c] F [] λF' v o=>∃B',o=[B']/\∃a' c',v=.slice a' m c'/\dM fh F' a' m c' B' xs:=by
 refine Abs.Spec.fn (n:=8) Tryz.func107 rfl rfl λown=>?_;refine aw ?_;refine WT.rZ hT Z Z Z Z Z Z Z Z ?_;refine aw ?_;refine AW.cond Z (λh=>?_) (λh=>?_)
 ·exact M9
 ·refine aw ?_;refine WT.be hT Z Z Z Z Z Z Z Z Z Z Z Z Z Z (λi5 hi5=>?_);refine aw ?_;obtain⟨ds,hds,hcs⟩:=sL hT hx (t:=87) rfl rfl 91;refine WT.Af hT Z Z Z Z Z Z Z Z Z Z Z Z (λh0 s0=>hds _ h0 s0) hcs hx.len (by decide) kF (λa' c' B' hB' _=>?_);refine aw ?_;refine AW.le (ah.cons _ (ah.skip _ oR)) ?_;exact AW.ret ⟨_,[_],⟨_,_,rfl,rfl,rfl⟩,bY,_,rfl,_,_,rfl,hB'⟩
theorem va(F:ar)(n:Int):Abs.Spec CC 84 [.int .i64 n] F [] λ_ v o=>o=[]/\v=.agg ⟨[.bool false,.int .i64 n]⟩:=by
 refine Abs.Spec.fn (n:=5) Tryz.func84 rfl rfl λown=>?_;refine AW.seq (AW.dp ?_);refine WT.aK hT Z Z Z Z Z Z (λi2 hi2=>?_);refine aw ?_;exact AW.ret ⟨_,[],⟨_,_,⟨_,rfl,λG h0 s0=>br (s0.has (p:=0) rfl me) (bO hT rfl)⟩,rfl,rfl⟩,bY,rfl,rfl⟩
theorem Lm(F:ar)(n:Int):Abs.Spec CC 115 [.int .i64 n] F [] λ_ v o=>o=[]/\v=.agg ⟨[.bool true,.int .i64 n]⟩:=by
 refine Abs.Spec.fn (n:=5) Tryz.func115 rfl rfl λown=>?_;refine AW.seq (AW.dp ?_);refine WT.aK hT Z Z Z Z Z Z (λi2 hi2=>?_);refine aw ?_;exact AW.ret ⟨_,[],⟨_,_,⟨_,rfl,λG h0 s0=>br (s0.has (p:=0) rfl me) (bO hT rfl)⟩,rfl,rfl⟩,bY,rfl,rfl⟩
structure CS where
 j:Nat
 a:Option Addr
 c:Nat
 B:List (Nat×aE)
structure Key where
 sym:Sym
 gW:Nat
 to:Nat
deriving DecidableEq
structure eI where
 az:Nat
 kids:List Key
deriving DecidableEq
def dB:Ty Key where
 size:=4
 rel:=λ_ l x=>l=[.bool x.sym.term,.int .i64 x.sym.n,.int .i64 x.gW,.int .i64 x.to]
 len:=λ_ _ _ h=>by rw[h];rfl
 one:=λ_ _ _ h=>by rw[h];rfl
 mono:=λ_ _ _ _ _ h=>h
def pZ:Ty eI where
 size:=2
 rel:=λF l x=>∃a n c,l=[.int .i64 x.az,.slice a n c]/\bj dB F a n c x.kids
 len:=λ_ _ _ h=>by obtain⟨a,n,c,rfl,_⟩:=h;rfl
 one:=λ_ _ _ h=>by obtain⟨a,n,c,rfl,_⟩:=h;rfl
 mono:=λ_ _ _ _ hF h=>by obtain⟨a,n,c,e,h⟩:=h;exact⟨a,n,c,e,h.mono hF⟩
def dX(w:List Nat)(E:List (List Nat))(s:Sym)(i j:Nat):Bool:=
 if s.term=true then decide (w[i]?=some s.n/\j=i+1)
 else match E[s.n]? with
  | some row=>match row[i]? with
   | some x=>x.testBit j
   | none=>false
  | none=>false
theorem tf{w:List Nat}{E:List (List Nat)}{s:Sym}{i j:Nat}:dX w E s i j=true↔Step w E s i j:=by
 unfold dX Step;split
 ·simp
 ·split
  ·rename_i row h1;split
   ·rename_i x h2;refine⟨λh=>⟨row,x,h1,h2,h⟩,?_⟩;rintro⟨row',x',h3,h4,h5⟩;rw[h1] at h3;cases h3;rw[h2] at h4;cases h4;exact h5
   ·rename_i h2;refine⟨λh=>(by cases h),?_⟩;rintro⟨row',x',h3,h4,h5⟩;rw[h1] at h3;cases h3;rw[h2] at h4;cases h4
  ·rename_i h1;refine⟨λh=>(by cases h),?_⟩;rintro⟨row',x',h3,h4,h5⟩;rw[h1] at h3;cases h3
def splits(w:List Nat)(E:List (List Nat))(to:Nat):List Sym->Nat->List (List Key)
 | [],i=>if i=to then [[]] else []
 | s::l,i=>(List.range (to+1)).flatMap λm=>if dX w E s i m=true then (splits w E to l m).map (⟨s,i,m⟩::·) else []
theorem sq{w:List Nat}{E:List (List Nat)}{to:Nat}:∀{l:List Sym} {i:Nat},splits w E to l i≠[]->Reads w E l i to
 | [],i,h=>by
  unfold splits at h;split at h
  ·assumption
  ·exact absurd rfl h
 | s::l,i,h=>by
  unfold splits at h;obtain⟨x,hx⟩:=List.exists_mem_of_ne_nil _ h;obtain⟨m,_,hm⟩:=S3.1 hx;split at hm
  ·rename_i hs;refine⟨m,tf.1 hs,sq λe=>?_⟩;rw[e] at hm;cases hm
  ·cases hm
theorem nu{α β:Type}(f:α->List β)(b:Nat):∀(l:List α),(∀x∈l,(f x).length<=b)->(l.flatMap f).length<=l.length*b
 | [],_=>by simp
 | a::l,h=>by
  have:=nu f b l λx hx=>h x (If _ hx);have h2:=h a me;rw[Uv,RP,R4,Ss,S7];omega
theorem qh{w:List Nat}{E:List (List Nat)}{to:Nat}:∀{l:List Sym} {i:Nat},(splits w E to l i).length<=(to+1) ^ l.length
 | [],i=>by unfold splits;split<;>simp
 | s::l,i=>by
  unfold splits;have h:=nu (λm=>if dX w E s i m=true then (splits w E to l m).map (⟨s,i,m⟩::·) else []) ((to+1) ^ l.length) (List.range (to+1)) λm _=>by
   split
   ·rw[RL];exact qh
   ·exact R6 _
  rw[S0] at h;rw[R4,TG,Tj];exact h
theorem oy{w:List Nat}{E:List (List Nat)}{to:Nat}:∀{l:List Sym} {i:Nat} {ks:List Key},ks∈splits w E to l i->ks.length=l.length
 | [],i,ks,h=>by
  unfold splits at h;split at h
  ·rw[RK.1 h];rfl
  ·cases h
 | s::l,i,ks,h=>by
  unfold splits at h;obtain⟨m,_,hm⟩:=S3.1 h;split at hm
  ·obtain⟨ks',h2,rfl⟩:=RI.1 hm;simp[oy h2]
  ·cases hm
def bJ(g:ai)(w:List Nat)(E:List (List Nat))(k:Key)(i:Nat):List eI:=match g.rules[i]? with
 | some r=>if r.left=k.sym.n/\k.sym.term=false then (splits w E k.to r.right k.gW).map (eI.mk i) else []
 | none=>[]
def bU(g:ai)(w:List Nat)(E:List (List Nat))(k:Key):List eI:=(List.range g.rules.length).flatMap (bJ g w E k)
theorem pM(F:ar){a:Option Addr}{m c:Nat}{xs:List Key}(hx:bj dB F a m c xs)(hm:m<=1000000) :
  Abs.Spec CC 201 [.slice a m c] F [] λF' v o=>∃B',o=[B']/\∃a' c',v=.slice a' m c'/\dM dB F' a' m c' B' xs/\(xs=[]->c'=0):=by
 refine Abs.Spec.fn (n:=8) Tryz.func201 rfl rfl λown=>?_;refine aw ?_;refine WT.rZ hT Z Z Z Z Z Z Z Z ?_;refine aw ?_;refine AW.cond Z (λh=>?_) (λh=>?_)
 ·obtain rfl:a=none:=by simpa using h
  obtain⟨rfl,rfl⟩:=hx.nil rfl;obtain rfl:xs=[]:=SE hx.len.symm;refine aw ?_;refine AW.le (own2:=[]::own) (ah.flat (NO _)) ?_;exact AW.ret ⟨_,[[]],⟨_,_,rfl,rfl,rfl⟩,bY,_,rfl,_,_,rfl,(dR.gz _ _).vec,λ_=>rfl⟩
 ·refine aw ?_;refine WT.be hT Z Z Z Z Z Z Z Z Z Z Z Z Z Z (λi5 hi5=>?_);refine aw ?_;obtain⟨ds,hds,hcs⟩:=sL hT hx (t:=284) rfl rfl 282;refine WT.Iz hT Z Z Z Z Z Z Z Z Z Z Z Z (λh0 s0=>hds _ h0 s0) hcs hx.len (by decide) kF (λa' c' B' hB' hc'=>?_);refine aw ?_;refine AW.le (ah.cons _ (ah.skip _ oR)) ?_;exact AW.ret ⟨_,[_],⟨_,_,rfl,rfl,rfl⟩,bY,_,rfl,_,_,rfl,hB',hc'⟩
structure FT(F:ar)(i3 i4 i5 i6 i7 i8:Nat)(k:Key)(az:Nat)(b:Option Addr)(n d:Nat)(a:Option Addr)(m c:Nat):Prop where
 hk:F i3=some (.cells false [.bool k.sym.term,.int .i64 k.sym.n,.int .i64 k.gW,.int .i64 k.to])
 hi:F i5=some (.cells false [.int .i64 az])
 hw:F i6=some (.cells false [.slice b n d])
 he:F i7=some (.cells false [.slice a m c])
 self:F i8=some (.cells false [.func (.func 200) ⟨[]⟩ ⟨[.pointer (some ⟨i3,0,none⟩),.pointer (some ⟨i4,0,none⟩),.pointer (some ⟨i5,0,none⟩),.pointer (some ⟨i6,0,none⟩),.pointer (some ⟨i7,0,none⟩),.pointer (some ⟨i8,0,none⟩)]⟩])
theorem FT.mono{F G:ar}{i3 i4 i5 i6 i7 i8:Nat}{k:Key}{az:Nat}{b:Option Addr}{n d:Nat}{a:Option Addr}{m c:Nat}(h:FT F i3 i4 i5 i6 i7 i8 k az b n d a m c)(hF:ar.le F G):FT G i3 i4 i5 i6 i7 i8 k az b n d a m c:=
 ⟨hF _ _ h.hk,hF _ _ h.hi,hF _ _ h.hw,hF _ _ h.he,hF _ _ h.self⟩
def G8(F:ar)(i4:Nat)(B:List (Nat×aE))(outs:List eI):Prop:=∃a n c OB,B=(i4,.cells false [.slice a n c])::OB/\dR pZ F a n c OB outs
theorem G8.mono{F G:ar}{i4:Nat}{B:List (Nat×aE)}{outs:List eI}(h:G8 F i4 B outs)(hF:ar.le F G):G8 G i4 B outs:=by
 obtain⟨a,n,c,OB,h1,h2⟩:=h;exact⟨a,n,c,OB,h1,h2.mono hF⟩
theorem pW{α:Type}(f:Nat->List α){p q:Nat}(hpq:p<=q)(h:∀m,p<=m->m<q->f m=[]):(List.range q).flatMap f=(List.range p).flatMap f:=by
 induction q with
 | zero =>
  obtain rfl : p = 0 := by omega
  rfl
 | succ q ih=>
  rcases R2 q p with h2 | h2
  ·obtain rfl:p=q+1:=by omega
   rfl
  ·rw[TX,TD,ih h2 λm h3 h4=>h m h3 zo];simp[h q h2 zo]
theorem En{α:Type}(f:Nat->List α){p q:Nat}(hpq:p<=q)(h:∀m,p<=m->m<q->f m=[]):(List.range (q+1)).flatMap f=(List.range p).flatMap f++f q:=by
 rw[TX,TD,pW f hpq h];simp
structure WS where
 u:Nat
 B:List (Nat×aE)
def iL(w:List Nat)(E:List (List Nat))(k:Key)(az:Nat)(kids:List Key)(s:Sym)(i:Nat)(l:List Sym)(m:Nat):List eI:=
 if dX w E s i m=true then (splits w E k.to l m).map (λks=>⟨az,(kids++[⟨s,i,m⟩])++ks⟩) else []
theorem Gq(w:List Nat)(E:List (List Nat))(k:Key)(az:Nat)(kids:List Key)(s:Sym)(i:Nat)(l:List Sym) :
  (splits w E k.to (s::l) i).map (λks=>(⟨az,kids++ks⟩:eI))=(List.range (k.to+1)).flatMap (iL w E k az kids s i l):=by
 unfold splits;rw[List.map_flatMap];congr 1;funext m;unfold iL;split
 ·rw[Ti];apply List.map_congr_left;intro ks _;simp
 ·rfl
theorem Hh{α:Type}(f:Nat->List α){p q:Nat}(h:p<=q):((List.range p).flatMap f).length<=((List.range q).flatMap f).length:=by
 induction q with
 | zero =>
  obtain rfl : p = 0 := by omega
  exact AS _
 | succ q ih=>
  rcases R2 q p with h2 | h2
  ·obtain rfl:p=q+1:=by omega
   exact AS _
  ·rw[TX,TD,RP];have:=ih h2;omega
theorem GL{i3 i4 i5 i6 i7 i8:Nat}{k:Key}{az:Nat}{b:Option Addr}{n d:Nat}{a:Option Addr}{m c:Nat}{w:List Nat}{E:List (List Nat)}{t au:Nat}(hE2:gA au w.length E)(hwl:w.length<=30)(hkt:k.to<=30) :
  ∀(l:List Sym) (F:ar) (hL:Laid F) (hC:FT F i3 i4 i5 i6 i7 i8 k az b n d a m c) (hw:bj dD F b n d w) (hE:bj (cg xU) F a m c E)
   {la:Option Addr} {ln lc:Nat} (hl:bj fh F la ln lc l) (hok:∀y∈l,ck t au y) (from_:Nat) (hfrom:from_<=w.length) {ka:Option Addr} {kn kc:Nat} {kids:List Key} (hkids:bj dB F ka kn kc kids) (hlen:kids.length+l.length<=4)
   {B:List (Nat×aE)} {outs:List eI} (hB:G8 F i4 B outs) (hlim:outs.length+(splits w E k.to l from_).length<=1000000000),
  Abs.Spec CC 200 [.slice la ln lc,.int .i64 from_,.slice ka kn kc,.pointer (some ⟨i3,0,none⟩),.pointer (some ⟨i4,0,none⟩),.pointer (some ⟨i5,0,none⟩),.pointer (some ⟨i6,0,none⟩),.pointer (some ⟨i7,0,none⟩),.pointer (some ⟨i8,0,none⟩)] F [B]
   λF' v o=>∃B',o=[B']/\G8 F' i4 B' (outs++(splits w E k.to l from_).map λks=>⟨az,kids++ks⟩):=by
 intro l
 induction l with
 | nil=>
  intro F hL hC hw hE la ln lc hl hok from_ hfrom ka kn kc kids hkids hlen B outs hB hlim;obtain⟨oa,on,oc,OB,rfl,hO⟩:=hB;obtain⟨h3,h5,h6,h7,h8⟩:=hC;have hll:=hl.len;have hln:ln=0:=by simpa using hll
  subst hln;have hkl:=hkids.len;refine Abs.Spec.fn (n:=71) Tryz.func200 rfl rfl λown=>?_;refine AW.le (own2:=[(i4,.cells false [.slice oa on oc])]::OB::own) (ah.flat (NO _)) ?_;refine aw ?_;refine AW.cond Z (λ_=>?_) (λh=>(by cases h));refine aw ?_;have hsp:splits w E k.to [] from_=if from_=k.to then [[]] else []:=rfl;refine AW.cond Z (λh=>?_) (λh=>?_)
  ·have h:from_=k.to:=by simp at h;omega
   rw[hsp,By h] at hlim ⊢;have hOl:=hO.len;refine AW.draw (ps:=[(0,3),(0,5),(1,3)]) Z Z ?_;refine aw ?_;refine WT.wQ Tryz.func201 Z Z Z Z Z Z (pM _ hkids zo) (λF2 v B2 hF2 hv=>?_);obtain⟨ca,cc,rfl,hcv,_⟩:=hv;refine WT.ay 0 Z Z (λF3 hF3 hB3=>?_);have hca:=hcv.arr hF3 hB3;have hO3:=(hO.mono hF2).mono hF3;refine aw ?_;refine WT.be hT Z Z Z Z Z Z Z Z Z Z Z Z Z Z (λi9 hi9=>?_)
   refine WT.bX (ys:=[(⟨az,kids⟩:eI)]) hT 3 hO3 Z (λ_=>rfl) Z Z Z Z Z Z Z Z Z Z Z (λh0 s0=>bw hT s0 0 Z Z Z Z) (aH.single (R:=pZ) (x:=⟨az,kids⟩) ⟨_,_,_,rfl,hca⟩) Z (by decide) kF (λa3 c3 B3 hB3=>?_);refine aw ?_;refine⟨oY,?_⟩;refine AW.le (own2:=((i4,.cells false [.slice a3 (on+1) c3])::B3)::own) (ah.skip _ (ah.skip _ (ah.flat (NO _)))) ?_;refine AW.ret ⟨_,[_],rfl,bY,_,rfl,_,_,_,B3,rfl,?_⟩;simpa using hB3
  ·have h:from_≠k.to:=by intro e;simp at h;omega
   rw[hsp,AT h];refine aw ?_;refine AW.le (own2:=((i4,.cells false [.slice oa on oc])::OB)::own) (ah.flat (NO _)) ?_;refine AW.ret ⟨_,[_],rfl,bY,_,rfl,oa,on,oc,OB,rfl,?_⟩;simpa using hO
 | cons s l ih=>
  intro F hL hC hw hE la ln lc hl hok from_ hfrom ka kn kc kids hkids hlen B outs hB hlim;obtain⟨oa,on,oc,OB,rfl,hO⟩:=hB;obtain⟨h3,h5,h6,h7,h8⟩:=id hC;have hll:=hl.len;have hln:ln=l.length+1:=by simpa using hll
  subst hln;have hkl:=hkids.len;have pwl:2 ^ (w.length+1)<=4294967296:=RS (j:=32) (by decide) zo;have hlc:(s::l).length=l.length+1:=rfl;refine Abs.Spec.fn (n:=71) Tryz.func200 rfl rfl λown=>?_;refine AW.le (own2:=[(i4,.cells false [.slice oa on oc])]::OB::own) (ah.flat (NO _)) ?_;refine aw ?_;refine AW.cond Z (λh=>(by simp at h;omega)) (λ_=>?_);refine aw ?_;refine AW.draw (ps:=[(6,4)]) Z Z ?_;refine aw ?_;refine WT.a6 Tryz.func118 Z Z Z Z Z Z (qA _ hL hw hE hl hE2 hok hwl zo from_ hfrom) (λv hv=>?_);obtain⟨r,rfl,hr1,hr2⟩:=hv
  refine aw ?_;refine WT.Ch (x:=r) (y:=k.to) Z Z Z Z Z Z zo ?_;refine WT.lF (x:=r / 2 ^ k.to) (y:=1) Z Z Z Z Z Z (T8 (Un _ _) zo) (by decide) ?_;rw[oL];refine aw ?_;refine⟨oY,?_⟩;refine AW.cond Z (λh=>?_) (λh=>?_)
  ·have hnr:¬Reads w E (s::l) from_ k.to:=by
    intro hR;rw[<-hr2] at hR;rw[hR] at h;simp at h
   have hsp:splits w E k.to (s::l) from_=[]:=Classical.byContradiction λhne=>hnr (sq hne);rw[hsp];refine AW.le (own2:=((i4,.cells false [.slice oa on oc])::OB)::own) (ah.flat (NO _)) ?_;refine AW.ret ⟨_,[_],rfl,bY,_,rfl,oa,on,oc,OB,rfl,?_⟩;simpa using hO
  ·obtain⟨sa,sc,hs1,hsl⟩:=hl.slice (C:=CC) (lo:=0) (hi:=1) (R6 _) zo hT (t:=87) Z Z Z none (some (.int .i64 1)) rfl rfl;refine aw ?_;refine WT.slice Z Z Z Z Z Z Z Z hs1 ?_;refine aw ?_;have hsl:bj fh F sa 1 sc [s]:=hsl;refine WT.a6 Tryz.func118 Z Z Z Z Z Z (qA _ hL hw hE hsl hE2 (λy hy=>hok y (by rw[RK.1 hy];exact RR ..)) hwl (by simp) from_ hfrom) (λv hv=>?_);obtain⟨x,rfl,hx1,hx2⟩:=hv;have hx3:∀j,x.testBit j=dX w E s from_ j:=λj=>by
    rw[Ta,hx2,tf];simp[Reads]
   have hmap:(splits w E k.to (s::l) from_).map (λks=>(⟨az,kids++ks⟩:eI))=(List.range (k.to+1)).flatMap (iL w E k az kids s from_ l):=Gq ..;have hlen2:(splits w E k.to (s::l) from_).length=((List.range (k.to+1)).flatMap (iL w E k az kids s from_ l)).length:=by rw[<-hmap,RL]
   rw[hmap];rw[hlen2] at hlim;refine aw ?_;refine AW.block ?_;refine AW.cm (S:=WS) (λs=>[(12,.int .u32 (s.u:Nat))]) (λs=>s.B::own) (λu G=>u.u<2 ^ (w.length+1)/\∃p,(∀j,u.u.testBit j=(decide (p<=j)&&x.testBit j))/\G8 G i4 u.B (outs++(List.range (min p (k.to+1))).flatMap (iL w E k az kids s from_ l))) (λs=>s.u) ⟨x,(i4,.cells false [.slice oa on oc])::OB⟩
    sM (ah.flat (NO _)) ⟨hx1,0,λj=>by simp,?_⟩ ?_
   ·rw[Nat.zero_min];simp only[List.range_zero,UC,Sq];exact⟨oa,on,oc,OB,rfl,hO⟩
   ·intro u F2 hF2 hP;obtain⟨u,UB⟩:=u;obtain⟨hu1,p,hu2,hU⟩:=hP;dsimp only at hu1 hu2 hU;have hL2:=hL.mono hF2;have hC2:=hC.mono hF2;have hw2:=hw.mono hF2;have hE3:=hE.mono hF2;have hl2:=hl.mono hF2;have hkids2:=hkids.mono hF2;obtain⟨g3,g5,g6,g7,g8⟩:=id hC2;refine aw ?_;refine AW.cond Z (λh=>?_) (λh=>?_)
    ·have hne:u≠0:=by intro e;subst e;simp at h
     obtain⟨p2,q,rfl,hp2⟩:=wB (w.length+1) u zo hu1;have hple:p<=p2:=by
      have:=hu2 p2;rw[mI] at this;simp at this;exact this.1
     have hxp:x.testBit p2=true:=by
      have:=hu2 p2;rw[mI] at this;simp at this;exact this.2
     have hgap:∀m,p<=m->m<p2->iL w E k az kids s from_ l m=[]:=by
      intro m h1 h2;have:=hu2 m;rw[mI,By h2] at this;simp[h1] at this;unfold iL;rw[<-hx3,this];simp
     have hle:2 ^ p2*(2*q+1) &&& (2 ^ p2*(2*q+1)-1)<=2 ^ p2*(2*q+1)-1:=Nat.and_le_right;have hnext:∀j,(2 ^ p2*(2*q+1) &&& (2 ^ p2*(2*q+1)-1)).testBit j=(decide (p2+1<=j)&&x.testBit j):=by
      intro j;rw[rl,hu2];by_cases h1:j=p2
      ·have h3:¬j+1<=j:=by omega
       subst h1;simp[h3]
      ·by_cases h2:p<=j
       ·by_cases h3:p2+1<=j
        ·simp[h1,h2,h3]
        ·have:=hu2 j;rw[mI,By zo] at this;simp[h2] at this;simp[this]
       ·have h3:¬p2+1<=j:=by omega
        simp[h2,h3]
     refine aw ?_;refine AW.block ?_;refine aw ?_;refine WT.a6 Tryz.func171 Z Z Z Z Z Z (E9 _ hL2 p2 q zo) (λv hv=>?_);subst hv;refine aw ?_;refine AW.cond Z (λh2=>?_) (λh2=>?_)
     ·have h2:p2<=k.to:=by simp at h2;omega
      obtain⟨lb,lo,lro,lcs,ll,rfl,hlb,hlp,hlr⟩:=hl2.el 0 s rfl;obtain rfl:ll=_:=hlr;have hlk:=hl2.slice (C:=CC) (lo:=1) (hi:=l.length+1) zo (AS _) hT (t:=87) Z Z Z (some (.int .i64 1)) none rfl rfl;obtain⟨ta,tc,hs2,htl⟩:=hlk;have htl2:bj fh F2 ta (l.length+1-1) tc l:=by
       have e:((s::l).take (l.length+1)).drop 1=l:=by simp
       rw[e] at htl;exact htl
      have hp2w:p2<=w.length:=by omega
      have hfp:iL w E k az kids s from_ l p2=(splits w E k.to l p2).map (λks=>⟨az,(kids++[⟨s,from_,p2⟩])++ks⟩):=by
       unfold iL;rw[By (by rw[<-hx3];exact hxp)]
      have hadd:(List.range (p2+1)).flatMap (iL w E k az kids s from_ l)=(List.range p).flatMap (iL w E k az kids s from_ l)++iL w E k az kids s from_ l p2:=En _ hple hgap;have hlim2:=Hh (iL w E k az kids s from_ l) (show p2+1<=k.to+1 by omega);rw[hadd,RP,hfp,RL] at hlim2;refine AW.draw (ps:=[(0,5),(0,12),(0,13),(2,5),(2,12),(2,13),(8,5)]) Z Z ?_;refine aw ?_;refine WT.slice Z Z Z Z Z Z Z Z hs2 ?_;refine aw ?_;refine WT.wQ Tryz.func201 Z Z Z Z Z Z (pM _ hkids2 zo) (λF3 v B3 hF3 hv=>?_)
      obtain⟨ca,cc,rfl,hcv,hc0⟩:=hv;have g83:=hF3 _ _ g8;have hlb3:=hF3 _ _ hlb;refine aw ?_;refine WT.eA (j:=0) (s:=2) hT Z Z Z Z Z Z Z Z Z zo ?_;refine WT.J2 hT hlb3 hlp Z Z Z Z Z Z Z Z ?_;refine aw ?_;refine WT.be hT Z Z Z Z Z Z Z Z Z Z Z Z Z Z (λi9 hi9=>?_);refine WT.KH (ys:=[(⟨s,from_,p2⟩:Key)]) hT 1 hcv hc0 Z (λ_=>rfl) Z Z Z Z Z Z Z Z Z Z Z (λh0 s0=>bw hT s0 0 Z Z Z Z) (aH.single (R:=dB) (x:=⟨s,from_,p2⟩) rfl) Z (by decide) kF (λa4 c4 B4 hB4=>?_);refine WT.ay 1 Z Z (λF4 hF4 hBf4=>?_);have hk4:=hB4.frozen hF4 hBf4;have hF34:=hF3.trans hF4
      refine WT.Fx 2 Tryz.func200 Z Z Z Z Z Z Z Z Z (λ_=>rfl) (ih F4 (hL2.mono hF34) (hC2.mono hF34) (hw2.mono hF34) (hE3.mono hF34) (htl2.mono hF34) (λy hy=>hok y (If _ hy)) p2 hp2w hk4 (by simp;omega) (hU.mono hF34) ?_) (λF5 v B5 hF5 hv=>?_)
      ·rw[SN zo,RP];omega
      refine aw ?_;refine⟨oY,?_⟩;refine aw ?_;refine WT.yM (x:=2 ^ p2*(2*q+1)) (y:=1) Z Z Z Z Z Z zo zo ?_;refine WT.lF (x:=2 ^ p2*(2*q+1)) Z Z Z Z Z Z zo zo ?_;refine aw ?_;refine⟨⟨_,B5⟩,?_,sM,ah.skip _ (ah.skip _ oR),?_,p2+1,hnext,?_⟩
      ·dsimp only;omega
      ·dsimp only;omega
      ·dsimp only;rw[SN zo,hadd,hfp];rw[SN zo,SL] at hv;exact hv
     ·have h2:k.to<p2:=by simp at h2;omega
      refine aw ?_;refine WT.yM (x:=2 ^ p2*(2*q+1)) (y:=1) Z Z Z Z Z Z zo zo ?_;refine WT.lF (x:=2 ^ p2*(2*q+1)) Z Z Z Z Z Z zo zo ?_;refine aw ?_;refine⟨⟨_,UB⟩,?_,sM,dH,?_,p2+1,hnext,?_⟩
      ·dsimp only;omega
      ·dsimp only;omega
      ·dsimp only;rw[To zo];have:(List.range (k.to+1)).flatMap (iL w E k az kids s from_ l)=(List.range (min p (k.to+1))).flatMap (iL w E k az kids s from_ l):=pW _ zo λm h3 h4=>hgap m zo zo;rw[this];exact hU
    ·have h0:u=0:=by simp at h;omega
     subst h0;refine AW.exit ?_;refine⟨_,[_],rfl,bY,_,rfl,?_⟩;have:(List.range (k.to+1)).flatMap (iL w E k az kids s from_ l)=(List.range (min p (k.to+1))).flatMap (iL w E k az kids s from_ l):=pW _ zo λm h3 h4=>by
      have:=hu2 m;simp at this;unfold iL;rw[<-hx3,this zo];simp
     rw[this];exact hU
theorem nM{g:ai}{w:List Nat}{E:List (List Nat)}{k:Key}(hg:∀r∈g.rules,r.right.length<=4)(hk:k.to<=30)(i:Nat):(bJ g w E k i).length<=923521:=by
 unfold bJ;split
 ·rename_i r hr;split
  ·rw[RL];have h1:=qh (w:=w) (E:=E) (to:=k.to) (l:=r.right) (i:=k.gW);have h2:(k.to+1) ^ r.right.length<=31 ^ 4:=AI (Nat.pow_le_pow_left zo _) (RS (by decide) (hg r (gM hr)));have h3:31 ^ 4=923521:=by decide
   omega
  ·simp
 ·simp
structure QF where
 j:Nat
 a:Option Addr
 n:Nat
 c:Nat
 B:List (Nat×aE)
theorem D8(F:ar)(hL:Laid F)(g:ai)(hg:Valid g){ga:Option Addr}{gm gc:Nat}(hr:bj cC F ga gm gc g.rules){b:Option Addr}{n d:Nat}{w:List Nat}(hw:bj dD F b n d w)(hw1:w.length<=30)
  {a:Option Addr} {m c:Nat} {E:List (List Nat)} (hE:bj (cg xU) F a m c E) (hE2:gA g.au w.length E) (k:Key) (hkf:k.gW<=w.length) (hkt:k.to<=30) :
  Abs.Spec CC 166 [.agg ⟨ak g ga gm gc⟩,.slice b n d,.slice a m c,.agg ⟨[.bool k.sym.term,.int .i64 k.sym.n,.int .i64 k.gW,.int .i64 k.to]⟩] F [] λF' v o=>o=[]/\∃a n c,v=.slice a n c/\bj pZ F' a n c (bU g w E k):=by
 unfold ak;have hrl:=hr.len;have hgr:=hg.range.rules;refine Abs.Spec.fn (n:=41) Tryz.func166 rfl rfl λown=>?_;refine AW.seq (AW.dp ?_);refine WT.cy Z Z Z Z Z Z (λi4 hi4=>?_);refine WT.cy Z Z Z Z Z Z (λi5 hi5=>?_);refine WT.cy Z Z Z Z Z Z (λi6 hi6=>?_);refine WT.cy Z Z Z Z Z Z (λi7 hi7=>?_);refine WT.ay 0 Z Z (λG1 hG1 hB1=>?_);refine WT.ay 1 Z Z (λG2 hG2 hB2=>?_);refine WT.ay 2 Z Z (λG3 hG3 hB3=>?_);have hG13:=hG1.trans (hG2.trans hG3);have f7:=hG3 _ _ (hG2 _ _ (hB1 i7 _ me));have f6:=hG3 _ _ (hB2 i6 _ me);have f5:=hB3 i5 _ me
 refine WT.le (own2:=[(i4,.cells false [.int .i64 g.ae,.int .i64 g.au,.int .i64 g.start,.slice ga gm gc])]::own) (ah.skip _ (ah.skip _ (ah.skip _ oR))) ?_;refine aw ?_;refine WT.aK hT Z Z Z Z Z Z (λi9 hi9=>?_);refine aw ?_;refine AW.range (S:=QF) (λ_=>[]) (λs=>((i9,.cells false [.slice s.a s.n s.c])::s.B)::[(i4,.cells false [.int .i64 g.ae,.int .i64 g.au,.int .i64 g.start,.slice ga gm gc])]::own)
  (λj s G=>dR pZ G s.a s.n s.c s.B ((List.range j).flatMap (bJ g w E k))) gm ⟨0,none,0,0,[]⟩
  Z Z Z Z Z Z Z Z Z zo rfl rfl (λ_=>rfl) (λ_=>rfl) sM (ah.flat (NO _)) (dR.gz _ _) ?_ ?_
 ·intro j s F1 hF1 hj hb;have hr1:=(hr.mono hG13).mono hF1;have e5:=hF1 _ _ f5;have e6:=hF1 _ _ f6;have e7:=hF1 _ _ f7;refine LK ?_;refine WT.bG hT hr1 Z Z Z Z Z Z Z Z Z zo (λr hrj b1 off ro cs lx hb1 hp1 hrel=>?_);obtain⟨ra,rn,rc,rfl,hra⟩:=hrel;obtain⟨hrr1,hrr,hrs⟩:=hg.right r (gM hrj);refine LK ?_;refine WT.aK hT Z Z Z Z Z Z (λi10 hi10=>?_);refine WT.aK hT Z Z Z Z Z Z (λi11 hi11=>?_);have hsucc:(List.range (j+1)).flatMap (bJ g w E k)=(List.range j).flatMap (bJ g w E k)++bJ g w E k j:=by
   rw[TX,TD];simp
  have hlim:((List.range j).flatMap (bJ g w E k)).length<=32*923521:=by
   have:=nu (bJ g w E k) 923521 (List.range j) λi _=>nM (λr hr=>(hg.right r hr).2.1) hkt i;rw[S0] at this;exact AI this (OF _ zo)
  refine LK ?_;refine WT.split 27 Z (λh3=>?_) (λh3=>?_)
  ·have hno:bJ g w E k j=[]:=by
    unfold bJ;rw[hrj];simp only;rw[AT];rintro⟨e,_⟩;simp[e] at h3
   refine LK ?_;refine AW.cond Z (λ_=>?_) (λh=>(by cases h));refine AW.exit ?_;refine⟨s,sM,ah.skip _ (ah.skip _ oR),?_⟩;dsimp only;rw[hsucc,hno,Sq];exact hb
  ·have hleft:r.left=k.sym.n:=by simp at h3;omega
   refine LK ?_;refine AW.cond Z (λh4=>?_) (λh4=>?_)
   ·have hno:bJ g w E k j=[]:=by
     unfold bJ;rw[hrj];simp only;rw[AT];rintro⟨_,e⟩;simp[e] at h4
    refine AW.exit ?_;refine⟨s,sM,ah.skip _ (ah.skip _ oR),?_⟩;dsimp only;rw[hsucc,hno,Sq];exact hb
   ·have hterm:k.sym.term=false:=by simpa using h4
    have hyes:bJ g w E k j=(splits w E k.to r.right k.gW).map (eI.mk j):=by
     unfold bJ;rw[hrj];simp only;rw[By ⟨hleft,hterm⟩]
    have hlim2:=nM (w:=w) (E:=E) (k:=k) (λr hr=>(hg.right r hr).2.1) hkt j;rw[hyes,RL] at hlim2;refine LK ?_;refine WT.aK hT Z Z Z Z Z Z (λi12 hi12=>?_);refine LK ?_;refine WT.ay 0 Z Z (λG4 hG4 hB4=>?_);refine WT.ay 2 Z Z (λG5 hG5 hB5=>?_);have hG45:=hG4.trans hG5;have e12:=hG5 _ _ (hB4 i12 _ me);have e10:=hB5 i10 _ me;have e5:=hG45 _ _ e5;have e6:=hG45 _ _ e6;have e7:=hG45 _ _ e7;have hF15:=hG13.trans (hF1.trans hG45)
    refine WT.Fx 3 Tryz.func200 Z Z Z Z Z Z Z Z Z (λ_=>rfl) (GL (az:=j) hE2 hw1 hkt r.right G5 (hL.mono hF15) ⟨e7,e10,e5,e6,e12⟩ (hw.mono hF15) (hE.mono hF15) ((hra.mono hG4).mono hG5) hrs k.gW hkf (bj.gz _ _) (by simp;omega) ⟨_,_,_,_,rfl,hb.mono hG45⟩ zo) (λF5 v B5 hF5 hv=>?_);refine LK ?_;obtain⟨na,nn,nc,nB,rfl,hnb⟩:=hv;refine⟨⟨0,na,nn,nc,nB⟩,sM,ah.skip _ (ah.skip _ (ah.skip _ oR)),?_⟩;dsimp only;rw[hsucc,hyes];simpa using hnb
 ·intro s F1 hF1 hb;refine AW.le (own2:=[(i9,.cells false [.slice s.a s.n s.c])]::s.B::[(i4,.cells false [.int .i64 g.ae,.int .i64 g.au,.int .i64 g.start,.slice ga gm gc])]::own) (ah.flat (NO _)) ?_;refine AW.ay 1 Z Z (λF3 hF3 hB3=>?_);refine LK ?_;refine AW.ret ⟨_,[],⟨_,_,rfl,rfl,rfl⟩,bY,rfl,s.a,s.n,s.c,rfl,?_⟩;unfold bU;rw[<-hrl];exact hb.frozen hF3 hB3
theorem aV{α:Type}[Inhabited α]{d:Array α}{i:Nat}(h:i<d.size):d.toList[i]?=some d[i]!:=by
 rw[getElem!_pos d i h,R7,UM h]
theorem dF{α:Type}[Inhabited α](d:Array α)(i j:Nat):(Go.Sort.swp d i j).toList=(d.toList.set i d[j]!).set j d[i]!:=by
 unfold Go.Sort.swp;simp
def dV{α:Type}(R:Ty α)(lt:α->α->Bool)(F:ar)(g:Nat)(first capt:List Value):Prop:=
 (∃fn,CC.func g=some fn/\fn.body.isSome=true)/\∀G,ar.le F G->∀lx ly x y,R.rel G lx x->R.rel G ly y->Abs.Spec CC g (first++[.agg ⟨lx⟩,.agg ⟨ly⟩]++capt) G [] λ_ v o=>o=[]/\∃z:Int,v=.int .i64 z/\(z<0↔lt x y=true)
theorem dV.mono{α:Type}{R:Ty α}{lt:α->α->Bool}{F G:ar}{g:Nat}{first capt:List Value}(h:dV R lt F g first capt)(hF:ar.le F G):dV R lt G g first capt:=
 ⟨h.1,λH hH=>h.2 H (hF.trans hH)⟩
structure VS(α:Type) where
 i:Nat
 d:Array α
 B:List (Nat×aE)
instance:Inhabited Item:=⟨⟨0,0,0⟩⟩
end Go.Proofs.D