/-
  Walks: what functions of the program do, over the abstract machine.
-/
import Derived.Test.YtcldmcmclejlhaaGreatDoorCtx
import Derived.Sort.AssemblyPlain
set_option linter.unusedVariables false
set_option maxRecDepth 20000
set_option maxHeartbeats 0
open Go Go.Abs Go.Proofs Go.Proofs.D
namespace Go.Proofs.D
theorem G7(x m:Int)(hm:0<m):x % m=if x.tmod m<0 then x.tmod m+m else x.tmod m:=by
 rcases Int.le_total 0 x with h | h;{rw[Int.tmod_eq_emod_of_nonneg h,nw];have:=Int.emod_nonneg x (show m≠0 by omega);omega};{have h1:=Int.tmod_add_mul_tdiv x m;have i:x.tmod m<=0:=by{have:=Int.tmod_nonneg m (show 0<=-x by omega);rw[Int.neg_tmod] at this;omega};have j:-m<x.tmod m:=by{have:=Int.lt_tmod_of_pos x hm;omega};split;{rename_i l;have:x=(x.tmod m+m)+m*(x.tdiv m-1):=by{rw[Int.mul_sub];omega};rw[show x % m=((x.tmod m+m)+m*(x.tdiv m-1)) % m by rw[<-this],Int.add_mul_emod_self_left];exact VT zo zo};{have g:x.tmod m=0:=by{omega};rw[g];exact Int.emod_eq_zero_of_dvd (Int.dvd_of_tmod_eq_zero g)}}
def below(x:Int)(m:Nat):Nat:=(x % (m:Int)).toNat
theorem Gt(x:Int){m:Nat}(h:0<m):below x m<m:=by
 unfold below;have h1:=Int.emod_nonneg x (show (m:Int)≠0 by omega);have g:=Int.emod_lt_of_pos x (show 0<(m:Int) by omega);omega
theorem Ad(F:aA)(x:Int)(m:Nat)(hm:0<m)(l:m<=9223372036854775807):Abs.Spec CC 32 [.int .i64 x,.int .i64 m] F [] λ_ v o=>o=[]/\v=.int .i64 (below x m:Nat):=by
 have i:=G7 x m zo;have r:-(m:Int)<x.tmod m:=Int.lt_tmod_of_pos x zo;have j:(below x m:Int)=x % (m:Int):=by{unfold below;exact Int.toNat_of_nonneg (Int.emod_nonneg x (show (m:Int)≠0 by omega))};refine Abs.Spec.fn (n:=14) Tryz.func32 rfl rfl λown=>?_;refine aq ?_;refine WT.Rh Z Z Z Z Z Z zo (aq ?_);refine AW.cond Z (λg=>?_) (λg=>?_);{have g:=Ue g;refine aq ?_;refine AW.ret ⟨_,[],⟨_,_,rfl,rfl,rfl⟩,Tm _,rfl,?_⟩;show Value.int .i64 _=_;rw[j,i,n0 g]};{have g:=of_decide_eq_false g;refine aq ?_;refine AW.ret ⟨_,[],⟨_,_,rfl,rfl,rfl⟩,Tm _,rfl,?_⟩;show Value.int .i64 _=_;rw[j,i,nw g]}
def oE(F:aA)(i:Nat)(B:List (Nat×aJ))(l:List Int):Prop:=∃a n c,B=[(i,.cells false [.slice a n c])]/\bk dv F a n c l
theorem oE.mono{F G:aA}{i:Nat}{B:List (Nat×aJ)}{l:List Int}(h:oE F i B l)(g:aA.le F G):oE G i B l:=by
 obtain⟨a,n,c,e,h⟩:=h;exact⟨a,n,c,e,h.mono g⟩
theorem gI(F:aA)(i:Nat){B:List (Nat×aJ)}{l:List Int}(g:oE F i B l)(m:Nat)(hm:0<m)(J:m<=9223372036854775807) :
  Abs.Spec CC 30 [.pointer (some ⟨i,0,none⟩),.int .i64 m] F [B] λ_ v o=>∃B',o=[B']/\∃r l',v=.int .i64 (r:Nat)/\r<m/\oE F i B' l':=by
 obtain⟨a,len,c,rfl,g⟩:=g;refine Abs.Spec.fn (n:=29) Tryz.func30 rfl rfl λown=>?_;have hlen:=g.len;refine aq ?_;refine AW.cond Z (λP=>?_) (λP=>?_);{have h0:len=0:=by{simpa using P};refine aq ?_;exact AW.ret ⟨_,[_],⟨_,_,rfl,rfl,rfl⟩,Tm _,_,rfl,0,l,rfl,hm,a,len,c,rfl,g⟩};{have h0:len≠0:=by{simpa using P};have R:0<l.length:=by{omega};refine aq ?_;refine WT.bh (j:=0) hT g Z Z Z Z Z Z Z Z Z R (λx hx b off ro cs lx hb hp I=>?_);obtain rfl:lx=[.int .i64 x]:=I;refine aq ?_;obtain⟨a',c',hs,U⟩:=g.slice (C:=CC) (lo:=1) (hi:=len) zo (mc _) hT (t:=22) Z Z Z (some (.int .i64 1)) none rfl rfl;refine WT.slice Z Z Z Z Z Z Z Z hs (aq ?_);refine WT.bj Tryz.func32 Z Z Z Z Z Z (Ad _ x m hm J) (λv hv=>?_);subst hv;refine aq ?_;exact AW.ret ⟨_,[_],⟨_,_,rfl,rfl,rfl⟩,Tm _,_,rfl,below x m,_,rfl,Gt x hm,a',len-1,c',rfl,U⟩}
theorem mP{α:Type}{p:α->Prop}{l:List α}{j:Nat}{x:α}(i:l[j]?=some x)(h:∀y∈l.take j,p y)(h1:p x):∀y∈l.take (j+1),p y:=by
 intro y g;rw[yo,i] at g;simp at g;rcases g with g | rfl;{exact h y g};{exact h1}
theorem KQ(F:aA){a:Option Addr}{m c:Nat}{rs:List bY}(h:bk cD F a m c rs)(hm:m<=1000000){left:Nat}{b:Option Addr}{n d:Nat}{right:List Sym}(U:bk gR F b n d right)(hn:n<=1000000) :
  Abs.Spec CC 31 [.slice a m c,.agg ⟨[.int .i64 left,.slice b n d]⟩] F [] λF' v o=>o=[]/\v=.bool (decide (⟨left,right⟩∈rs)):=by
 refine Abs.Spec.fn (n:=52) Tryz.func31 rfl rfl λown=>?_;have hlen:=h.len;have ac:=U.len;refine AW.seq (AW.fp ?_);refine WT.bN Z Z Z Z Z Z (λi0 ax=>?_);refine aq ?_;refine AW.range (S:=Unit) (λ_=>[]) (λ_=>_) (λj _ _=>∀x∈rs.take j,x≠⟨left,right⟩) m () Z Z Z Z Z Z Z Z Z zo Z Z (λ_=>rfl) (λ_=>rfl) sM oR (by simp) ?_ ?_;{intro j _ F' hF hj hP;have h:=h.mono hF;have U:=U.mono hF;refine aq ?_;refine WT.bh hT h Z Z Z Z Z Z Z Z Z zo (λx hx b1 off ro cs lx hb hp aa=>?_);obtain⟨b2,n2,d2,rfl,C⟩:=aa;have g:=C.len;refine aq ?_;refine WT.az hT Z Z Z Z Z Z (λi1 ay=>?_);refine aq ?_;have fin:x≠⟨left,right⟩->∀y∈rs.take (j+1),y≠⟨left,right⟩:=mP hx hP;refine WT.split 20 Z (λi=>?_) (λi=>?_);{refine aq ?_;refine AW.cond Z (λ_=>?_) (λt=>(by cases t));refine AW.exit ⟨(),sM,cF,fin ?_⟩;intro e;subst e;simp at i};{refine aq ?_;refine AW.cond Z (λt=>?_) (λt=>?_);{refine AW.exit ⟨(),sM,cF,fin ?_⟩;simp at t;intro e;rw[e] at g;simp at g;omega};{have t:n2=n:=by{simp at t;omega};have i:x.left=left:=by{simp at i;omega};refine aq ?_;refine AW.range (S:=Bool) (λs=>[(7,.bool s)]) (λ_=>_) (λj s _=>s=decide (x.right.take j=right.take j)) n2 true Z Z Z Z Z Z Z Z Z zo Z Z (λ_=>rfl) (λ_=>rfl) sM oR (by simp) ?_ ?_;{intro q s ae J hq I;have C:=C.mono J;have U:=U.mono J;have l:q<x.right.length:=by{omega};have r:q<right.length:=by{omega};have tk:(x.right.take (q+1)=right.take (q+1))↔(x.right.take q=right.take q/\x.right[q]=right[q]):=by{rw[yo,yo,gE l,gE r];constructor;{intro he;have:=List.append_inj' he rfl;simpa using this};{rintro⟨e1,e2⟩;rw[e1,e2]}};refine aq ?_;refine WT.split 36 Z (λhs=>?_) (λhs=>?_);{refine aq ?_;refine WT.bh hT C Z Z Z Z Z Z Z Z Z l (λy hy b3 ao a2 a3 l3 a4 a5 P=>?_);obtain rfl:=P;refine aq ?_;refine WT.bh hT U Z Z Z Z Z Z Z Z Z r (λz hz b4 av a6 a7 l4 a8 a9 R=>?_);obtain rfl:=R;refine aq ?_;refine⟨_,sM,cF,?_⟩;rw[gE l] at hy;rw[gE r] at hz;cases hy;cases hz;rw[hs] at I;have:=O8 x.right[q] right[q];refine this.trans ?_;have h1:=Ue I.symm;simp[tk,h1]};{refine aq ?_;refine⟨_,sM,cF,?_⟩;rw[hs] at I;have h1:=of_decide_eq_false I.symm;simp[tk,h1]}};{intro s ae J hs;rw[qs zo,qs zo] at hs;refine aq ?_;refine AW.cond Z (λt=>?_) (λt=>?_);{refine aq ?_;refine AW.ret ⟨_,[],⟨_,_,rfl,rfl,rfl⟩,(UE ..).trans (UE ..),rfl,?_⟩;rw[t] at hs;have e:=Ue hs.symm;have:(⟨left,right⟩:bY)∈rs:=by{have:x=⟨left,right⟩:=by{cases x;simp at i e;simp[i,e]};rw[<-this];exact gM hx};simp[this,ff]};{refine aq ?_;refine⟨(),sM,cF,fin ?_⟩;rintro rfl;rw[t] at hs;simp at hs}}}}};{intro _ F' hF hP;refine aq ?_;refine AW.ret ⟨_,[],⟨_,_,rfl,rfl,rfl⟩,UE ..,rfl,?_⟩;rw[qs zo] at hP;have:(⟨left,right⟩:bY)∉rs:=λhm=>hP _ hm rfl;simp[this,ff]}
def cP(t n:Nat)(y:Sym):Prop:=if y.term=true then y.n<t else y.n<n
def Lm(t n:Nat)(r:bY):Prop:=r.left<n/\r.right.length<=3/\∀y∈r.right,cP t n y
structure Small(g:aj):Prop where
 ae:1<=g.ae/\g.ae<=3
 ay:1<=g.ay/\g.ay<=4
 start:g.start<g.ay
 rules:1<=g.rules.length/\g.rules.length<=8
 nodup:g.rules.Nodup
 ok:∀r∈g.rules,Lm g.ae g.ay r
structure GS where
 xs:List bY
 a:Option Addr
 m:Nat
 c:Nat
 B:List (Nat×aJ)
 Bs:List (Nat×aJ)
structure GI where
 ys:List Sym
 a:Option Addr
 m:Nat
 c:Nat
 B:List (Nat×aJ)
 Bs:List (Nat×aJ)
theorem D8(F:aA){a:Option Addr}{n c:Nat}{l:List Int}(hl:bk dv F a n c l) :
  Abs.Spec CC 12 [.slice a n c] F [] λF' v o=>o=[]/\∃g,QH F' v g/\Small g:=by
 refine Abs.Spec.fn (n:=72) Tryz.func12 rfl rfl λown=>?_;refine AW.seq (AW.fp ?_);refine WT.az hT Z Z Z Z Z Z (λi2 b2=>?_);refine aq ?_;refine WT.bN Z Z Z Z Z Z (λi8 b3=>?_);refine aq ?_;refine WT.pj (B:=[(i8,.cells false [.slice a n c])]) 0 Tryz.func30 Z Z Z Z Z Z Z (λ_=>rfl) (gI F i8 ⟨a,n,c,rfl,hl⟩ 3 (by decide) (by decide)) (λv B1 t=>?_);obtain⟨r1,l1,rfl,b4,a5⟩:=t;refine aq ?_;refine WT.pj 0 Tryz.func30 Z Z Z Z Z Z Z (λ_=>rfl) (gI F i8 a5 4 (by decide) (by decide)) (λv B2 t=>?_);obtain⟨r2,l2,rfl,b5,a6⟩:=t;refine aq ?_;refine WT.az hT Z Z Z Z Z Z (λi4 b6=>?_);refine aq ?_;refine WT.pj 1 Tryz.func30 Z Z Z Z Z Z Z (λ_=>rfl) (gI F i8 a6 (1+r2) zo zo) (λv B3 t=>?_);obtain⟨r3,l3,rfl,a7,a8⟩:=t;refine aq ?_;refine WT.pj 1 Tryz.func30 Z Z Z Z Z Z Z (λ_=>rfl) (gI F i8 a8 8 (by decide) (by decide)) (λv B4 t=>?_);obtain⟨r4,l4,rfl,b9,a9⟩:=t;refine aq ?_;refine AW.range (S:=GS) (λ_=>[]) (λs=>[(i4,.cells false [.int .i64 (1+r1:Nat),.int .i64 (1+r2:Nat),.int .i64 r3,.slice s.a s.m s.c])]::s.B::s.Bs::[(i2,.cells false [.int .i64 0,.int .i64 0,.int .i64 0,.slice none 0 0])]::own) (λj s G=>cb cD G s.a s.m s.c s.B s.xs/\(∃l,oE G i8 s.Bs l)/\(∀r∈s.xs,Lm (1+r1) (1+r2) r)/\s.xs.Nodup/\s.xs.length<=j/\(0<j->1<=s.xs.length)) (1+r4) ⟨[],none,0,0,[],B4⟩ Z Z Z Z Z Z Z Z Z zo rfl rfl (λ_=>rfl) (λ_=>rfl) sM (ah.flat (sh _)) ⟨cb.cK _ _,⟨_,a9⟩,by simp,by simp,by simp,by simp⟩ ?_ ?_;{intro j s F1 bb hj hP;obtain⟨hb,⟨ls,ar⟩,ab,ac,hlen,av⟩:=hP;have cc:=hb.len;refine aq ?_;refine WT.pj 2 Tryz.func30 Z Z Z Z Z Z Z (λ_=>rfl) (gI F1 i8 ar (1+r2) zo zo) (λv B5 t=>?_);obtain⟨r5,l5,rfl,cf,bd⟩:=t;refine aq ?_;refine WT.az hT Z Z Z Z Z Z (λi5 ch=>?_);refine aq ?_;refine WT.pj 3 Tryz.func30 Z Z Z Z Z Z Z (λ_=>rfl) (gI F1 i8 bd 4 (by decide) (by decide)) (λv B6 t=>?_);obtain⟨r6,l6,rfl,cp,bf⟩:=t;refine aq ?_;refine AW.range (S:=GI) (λ_=>[]) (λs2=>[(i5,.cells false [.int .i64 r5,.slice s2.a s2.m s2.c])]::s2.B::[(i4,.cells false [.int .i64 (1+r1:Nat),.int .i64 (1+r2:Nat),.int .i64 r3,.slice s.a s.m s.c])]::s.B::s2.Bs::[(i2,.cells false [.int .i64 0,.int .i64 0,.int .i64 0,.slice none 0 0])]::own) (λj s G=>cb gR G s.a s.m s.c s.B s.ys/\(∃l,oE G i8 s.Bs l)/\(∀y∈s.ys,cP (1+r1) (1+r2) y)/\s.ys.length=j) r6 ⟨[],none,0,0,[],B6⟩ Z Z Z Z Z Z Z Z Z zo rfl rfl (λ_=>rfl) (λ_=>rfl) sM (ah.flat (sh _)) ⟨cb.cK _ _,⟨_,bf⟩,by simp,by simp⟩ ?_ ?_;{intro q s2 F2 ax hq ad;obtain⟨P,⟨bi,i⟩,J,I⟩:=ad;have bn:=P.len;refine aq ?_;refine WT.pj 4 Tryz.func30 Z Z Z Z Z Z Z (λ_=>rfl) (gI F2 i8 i 2 (by decide) (by decide)) (λv B7 t=>?_);obtain⟨r7,l7,rfl,cr,ay⟩:=t;refine aq ?_;refine AW.cond Z (λhc=>?_) (λhc=>?_);{refine AW.draw (ps:=[(1,5),(1,7)]) Z Z (aq ?_);refine WT.pj 4 Tryz.func30 Z Z Z Z Z Z Z (λ_=>rfl) (gI F2 i8 ay (1+r1) zo zo) (λv B8 t=>?_);obtain⟨r8,l8,rfl,af,ag⟩:=t;refine aq ?_;refine WT.aR hT Z Z Z Z Z Z Z Z Z Z Z Z Z Z (λi9 a1=>?_);refine WT.aZ (ys:=[⟨true,r8⟩]) hT 2 P Z (λ_=>rfl) Z Z Z Z Z Z Z Z Z Z Z (λh0 s0=>aN hT s0 0 Z Z Z Z) (aG.single (x:=(⟨true,r8⟩:Sym)) rfl) Z (by decide) fj (λa3 c3 B3 C=>?_);refine aq ?_;refine⟨lU,?_⟩;refine⟨⟨s2.ys++[⟨true,r8⟩],a3,s2.m+1,c3,B3,B8⟩,sM,cF,C,⟨_,ag⟩,?_,by simp[I]⟩;intro y hy;rcases D1.1 hy with hy | hy;{exact J y hy};{obtain rfl:=ti.1 hy;exact af}};{refine AW.draw (ps:=[(1,5),(1,7)]) Z Z (aq ?_);refine WT.pj 4 Tryz.func30 Z Z Z Z Z Z Z (λ_=>rfl) (gI F2 i8 ay (1+r2) zo zo) (λv B8 t=>?_);obtain⟨r8,l8,rfl,af,ag⟩:=t;refine aq ?_;refine WT.aR hT Z Z Z Z Z Z Z Z Z Z Z Z Z Z (λi9 a1=>?_);refine WT.aZ (ys:=[⟨false,r8⟩]) hT 2 P Z (λ_=>rfl) Z Z Z Z Z Z Z Z Z Z Z (λh0 s0=>aN hT s0 0 Z Z Z Z) (aG.single (x:=(⟨false,r8⟩:Sym)) rfl) Z (by decide) fj (λa3 c3 B3 C=>?_);refine aq ?_;refine⟨lU,?_⟩;refine⟨⟨s2.ys++[⟨false,r8⟩],a3,s2.m+1,c3,B3,B8⟩,sM,cF,C,⟨_,ag⟩,?_,by simp[I]⟩;intro y hy;rcases D1.1 hy with hy | hy;{exact J y hy};{obtain rfl:=ti.1 hy;exact af}}};{intro s2 F2 ax ad;obtain⟨P,⟨bi,i⟩,J,I⟩:=ad;have bn:=P.len;refine AW.aw 1 Z Z (λF3 U C=>?_);have hy:=P.frozen U C;have hb:=(hb.mono ax).mono U;have i:=i.mono U;refine aq ?_;refine WT.fP 3 Tryz.func31 Z Z Z Z Z Z Z (λG hG bs=>KQ G (left:=r5) (hb.frozen hG bs) fj (hy.mono hG) fj) (λv t=>?_);subst t;refine aq ?_;refine AW.cond Z (λhc=>?_) (λhc=>?_);{refine aq ?_;refine WT.aR hT Z Z Z Z Z Z Z Z Z Z Z Z Z Z (λi9 a1=>?_);refine WT.aZ (ys:=[⟨r5,s2.ys⟩]) hT 4 hb Z (λ_=>rfl) Z Z Z Z Z Z Z Z Z Z Z (λh0 s0=>aN hT s0 0 Z Z Z Z) (aG.single (R:=cD) (x:=(⟨r5,s2.ys⟩:bY)) ⟨_,_,_,rfl,hy⟩) Z (by decide) fj (λa3 c3 B3 C=>?_);refine SA ?_;refine⟨⟨s.xs++[⟨r5,s2.ys⟩],a3,s.m+1,c3,B3,s2.Bs⟩,sM,cF,C,⟨_,i⟩,?_,?_,?_,?_⟩;{intro r hr;rcases D1.1 hr with hr | hr;{exact ab r hr};{obtain rfl:=ti.1 hr;exact⟨by simp;omega,by simp;omega,J⟩}};{rw[Uf];refine⟨ac,by simp,λx hx y hy=>?_⟩;obtain rfl:=ti.1 hy;rintro rfl;simp[hx] at hc};{simp;omega};{simp}};{refine aq ?_;have bv:(⟨r5,s2.ys⟩:bY)∈s.xs:=by{simpa using hc};refine⟨{ s with Bs:=s2.Bs },sM,cF,hb,⟨_,i⟩,ab,ac,by dsimp only;omega,λ_=>VZ bv⟩}}};{intro s F1 bb hP;obtain⟨hb,⟨ls,ar⟩,ab,ac,hlen,av⟩:=hP;refine AW.aw 1 Z Z (λF3 U C=>?_);have hx:=hb.frozen U C;refine aq ?_;have cv:=hb.len;refine AW.ret ⟨_,[],⟨_,_,⟨_,rfl,λG h0 s0=>aD (s0.has (p:=3) Z me) (aM hT rfl)⟩,rfl,rfl⟩,bF,rfl,⟨1+r1,1+r2,r3,s.xs⟩,⟨_,_,_,rfl,hx⟩,?_⟩;exact⟨by dsimp only;omega,by dsimp only;omega,a7,by dsimp only;omega,ac,ab⟩}
theorem y9{g:Nat}(F:aA)(x:Int):Abs.Spec (xV g) 146 [.int .i64 x] F [] λ_ v o=>o=[]/\v=.bool false:=by
 refine Abs.Spec.fn (n:=6) Tryz.func146 rfl rfl λown=>?_;refine aq ?_;exact AW.ret ⟨_,[],⟨_,_,rfl,rfl,rfl⟩,Tm _,rfl,by simp[ff]⟩
theorem dD{l:Nat}(F:aA)(x y:Int):Abs.Spec (xV l) 111 [.int .i64 x,.int .i64 y] F [] λ_ v o=>o=[]/\v=.int .i64 (bm x y):=by
 refine Abs.Spec.fn (n:=20) Tryz.func111 rfl rfl λown=>?_;refine aq ?_;refine WT.bj Tryz.func146 Z Z Z Z Z Z (y9 _ x) (λv j=>?_);subst j;refine aq ?_;refine WT.bj Tryz.func146 Z Z Z Z Z Z (y9 _ y) (λv j=>?_);subst j;refine aq ?_;refine AW.cond Z (λg=>(by cases g)) (λ_=>?_);refine aq ?_;refine AW.cond Z (λg=>(by cases g)) (λ_=>?_);refine aq ?_;refine AW.cond Z (λg=>?_) (λg=>?_);{refine aq ?_;exact AW.ret ⟨_,[],⟨_,_,rfl,rfl,rfl⟩,Tm _,rfl,by simp at g;simp[ff,bm,g]⟩};{refine aq ?_;refine AW.cond Z (λi=>?_) (λi=>?_);{refine aq ?_;exact AW.ret ⟨_,[],⟨_,_,rfl,rfl,rfl⟩,Tm _,rfl,by simp at g i;simp[ff,bm];omega⟩};{refine aq ?_;exact AW.ret ⟨_,[],⟨_,_,rfl,rfl,rfl⟩,Tm _,rfl,by simp at g i;simp[ff,bm];omega⟩}}
theorem yK{l:List Int}{j:Nat}(h:∀y∈l.take j,y=0):jq l=jq (l.drop j):=by
 induction j generalizing l with| zero=>{simp}| succ j g=>{cases l with| nil=>{simp}| cons x l=>{have i:x=0:=h x (by simp);simp only[jq,i,TY,VG];exact g (λy o=>h y (by simp[o]))}}
theorem xX{P:Nat}(F:aA){a:Option Addr}{m c:Nat}{l:List Int}(J:bk dv F a m c l)(hm:m<=1000000):Abs.Spec (xV P) 110 [.slice a m c] F [] λ_ v o=>o=[]/\v=.int .i64 (jq l):=by
 refine Abs.Spec.fn (n:=18) Tryz.func110 rfl rfl λown=>?_;have hlen:=J.len;refine aq ?_;refine AW.range (S:=Unit) (λ_=>[]) (λ_=>_) (λj _ _=>∀y∈l.take j,y=0) m () Z Z Z Z Z Z Z Z Z zo Z Z (λ_=>rfl) (λ_=>rfl) sM oR (by simp) ?_ ?_;{intro j _ R i hj t;have C:=J.mono i;refine aq ?_;refine WT.bh hT C Z Z Z Z Z Z Z Z Z zo (λx I b1 off ro cs U hb hp r=>?_);obtain rfl:U=_:=r;refine aq ?_;refine AW.cond Z (λg=>?_) (λg=>?_);{refine aq ?_;refine AW.ret ⟨_,[],⟨_,_,rfl,rfl,rfl⟩,Tm _,rfl,?_⟩;have g:x≠0:=by{simpa using g};rw[yK t,Tl (show j<l.length by omega)];have:l[j]=x:=by{rw[gE zo] at I;simpa using I};simp[jq,this,g,ff]};{refine aq ?_;have g:x=0:=by{simpa using g};exact⟨(),sM,cF,mP I t g⟩}};{intro _ R i t;refine aq ?_;refine AW.ret ⟨_,[],⟨_,_,rfl,rfl,rfl⟩,Tm _,rfl,?_⟩;rw[yK t,TE zo];rfl}
theorem Az{j:Nat}(F:aA)(a b:Sym):Abs.Spec (xV j) 120 [.agg ⟨[.bool a.term,.int .i64 a.n]⟩,.agg ⟨[.bool b.term,.int .i64 b.n]⟩] F [] λ_ v o=>o=[]/\v=.int .i64 (dO a b):=by
 refine Abs.Spec.fn (n:=17) Tryz.func120 rfl rfl λown=>?_;refine AW.seq (AW.fp ?_);refine WT.bN Z Z Z Z Z Z (λi1 l=>?_);refine WT.bN Z Z Z Z Z Z (λi2 p=>?_);refine aq ?_;refine AW.cond Z (λg=>?_) (λg=>?_);{have g:a.term≠b.term:=by{simpa using g};refine aq ?_;refine AW.cond Z (λi=>?_) (λi=>?_);{refine aq ?_;refine AW.ret ⟨_,[],⟨_,_,rfl,rfl,rfl⟩,bF,rfl,?_⟩;rw[dO,nw g,n0 i];rfl};{refine aq ?_;refine AW.ret ⟨_,[],⟨_,_,rfl,rfl,rfl⟩,bF,rfl,?_⟩;rw[dO,nw g,nw (by simp[i])];rfl}};{have g:a.term=b.term:=by{simpa using g};refine aq ?_;refine WT.bj Tryz.func111 Z Z Z Z Z Z (dD _ _ _) (λv r=>?_);subst r;refine aq ?_;refine AW.ret ⟨_,[],⟨_,_,rfl,rfl,rfl⟩,bF,rfl,?_⟩;simp[dO,g,ff]}
def fK:List Sym->List Sym->Int
 | [],[]=>0
 | [],_::_=>-1
 | _::_,[]=>1
 | a::l,b::m=>if dO a b=0 then fK l m else dO a b
theorem kJ:∀(j:Nat) (l m:List Sym),j<=l.length->j<=m.length->(∀i (h1:i<l.length) (g:i<m.length),i<j->dO l[i] m[i]=0)->fK l m=fK (l.drop j) (m.drop j)
 | 0,l,m,_,_,_=>by simp
 | j+1,[],m,h,_,_=>by simp at h
 | j+1,_::_,[],_,h,_=>by simp at h
 | j+1,a::l,b::m,h1,g,h=>by{have o:=h 0 (by simp) (by simp) zo;simp only[V0] at o;simp only[fK,o,TY,VG];exact kJ j l m (by simpa using h1) (by simpa using g) (λi r t C=>h (i+1) (by simpa using r) (by simpa using t) zo)}
theorem vV(F:aA){a b:Option Addr}{m n c d:Nat}{xs ys:List Sym}(hx:bk gR F a m c xs)(hy:bk gR F b n d ys)(hm:m<=1000000)(hn:n<=1000000) :
  Abs.Spec CC 119 [.slice a m c,.slice b n d,.func (.func 120) ⟨[]⟩ ⟨[]⟩] F [] λ_ v o=>o=[]/\v=.int .i64 (fK xs ys):=by
 refine Abs.Spec.fn (n:=39) Tryz.func119 rfl rfl λown=>?_;have R:=hx.len;have U:=hy.len;refine aq ?_;refine AW.range (S:=Unit) (λ_=>[]) (λ_=>_) (λj _ _=>j<=n/\∀i (h1:i<xs.length) (h2:i<ys.length),i<j->dO xs[i] ys[i]=0) m () Z Z Z Z Z Z Z Z Z zo Z Z (λ_=>rfl) (λ_=>rfl) sM oR ⟨by omega,by omega⟩ ?_ ?_;{intro j _ F1 t hj r;obtain⟨aa,r⟩:=r;have ab:=hx.mono t;have ac:=hy.mono t;refine aq ?_;refine WT.bh hT ab Z Z Z Z Z Z Z Z Z zo (λx I b1 off ro cs lx hb hp J=>?_);obtain rfl:lx=_:=J;refine aq ?_;refine WT.az hT Z Z Z Z Z Z (λi1 ar=>?_);refine aq ?_;refine AW.cond Z (λl=>?_) (λl=>?_);{have l:n<=j:=by{simp at l;omega};refine aq ?_;refine AW.ret ⟨_,[],⟨_,_,rfl,rfl,rfl⟩,bF,rfl,?_⟩;rw[kJ j xs ys zo zo r,TE (show ys.length<=j by omega),Tl (show j<xs.length by omega)];rfl};{have l:j<n:=by{simp at l;omega};refine aq ?_;refine WT.bh hT ac Z Z Z Z Z Z Z Z Z zo (λy P b2 ag av ax ly a0 a1 C=>?_);obtain rfl:ly=_:=C;refine aq ?_;refine WT.az hT Z Z Z Z Z Z (λi2 a2=>?_);refine aq ?_;refine WT.kz Tryz.func120 Z Z Z Z Z Z Z Z (Az _ x y) (λv hv=>?_);subst hv;have ex:xs[j]'zo=x:=by{rw[gE zo] at I;simpa using I};have ey:ys[j]'zo=y:=by{rw[gE zo] at P;simpa using P};refine aq ?_;refine AW.cond Z (λg=>?_) (λg=>?_);{have g:dO x y≠0:=by{simpa using g};refine aq ?_;refine AW.ret ⟨_,[],⟨_,_,rfl,rfl,rfl⟩,bF,rfl,?_⟩;rw[kJ j xs ys zo zo r,Tl (show j<xs.length by omega),Tl (show j<ys.length by omega)];simp[fK,ex,ey,g,ff]};{have g:dO x y=0:=by{simpa using g};(refine aq ?_;refine⟨(),sM,cF,by omega,λi h1 h2 h3=>?_⟩;rcases IN i j with h4 | h4);{exact r i h1 h2 h4};{have:i=j:=by{omega};subst this;rw[ex,ey];exact g}}}};{intro _ F1 t r;obtain⟨aa,r⟩:=r;refine aq ?_;have e:=kJ m xs ys zo zo r;rw[TE (show xs.length<=m by omega)] at e;refine AW.cond Z (λl=>?_) (λl=>?_);{have l:m<n:=by{simp at l;omega};refine aq ?_;refine AW.ret ⟨_,[],⟨_,_,rfl,rfl,rfl⟩,bF,rfl,?_⟩;rw[e,Tl (show m<ys.length by omega)];rfl};{have l:m=n:=by{simp at l;omega};refine aq ?_;refine AW.ret ⟨_,[],⟨_,_,rfl,rfl,rfl⟩,bF,rfl,?_⟩;rw[e,TE (show ys.length<=m by omega)];rfl}}
def yh(a b:bY):Int:=jq [bm a.left b.left,fK a.right b.right]
theorem pb{x y:Int}:bm x y=0↔x=y:=by unfold bm;split<;>(try split)<;>omega
theorem wE{a b:Sym}:dO a b=0↔a=b:=by
 obtain⟨s,n⟩:=a;obtain⟨t,m⟩:=b;unfold dO;simp only[Sym.mk.injEq];by_cases h:s=t;{simp[h,pb];omega};{simp only[h,Un,false_and,iff_false];split<;>decide}
theorem tv:∀(l m:List Sym),fK l m=0↔l=m
 | [],[]=>by simp[fK]
 | [],_::_=>by simp[fK]
 | _::_,[]=>by simp[fK]
 | a::l,b::m=>by{simp only[fK,T1];by_cases h:dO a b=0;{simp only[h,TY,tv l m];simp[wE.1 h]};{rw[nw h];constructor;{intro g;exact absurd g h};{rintro⟨g,_⟩;exact absurd (wE.2 g) h}}}
theorem D4{a b:bY}:yh a b=0↔a=b:=by
 obtain⟨x,l⟩:=a;obtain⟨y,m⟩:=b;simp only[yh,jq,bY.mk.injEq];by_cases h:bm x y=0;{simp only[h,TY];have o:=pb.1 h;have:x=y:=by{omega};simp only[this,Vd];have g:=tv l m;split;{rename_i i;simp[g.1 i]};{rename_i i;constructor;{intro j;exact absurd j i};{intro j;exact absurd (g.2 j) i}}};{rw[nw h];constructor;{intro g;exact absurd g h};{rintro⟨g,_⟩;exact absurd (pb.2 (by rw[g])) h}}
theorem vC(F:aA)(x y:bY){a b:Option Addr}{m n c d:Nat}(j:bk gR F a m c x.right)(r:bk gR F b n d y.right)(hm:m<=1000000)(t:n<=1000000) :
  Abs.Spec CC 89 [.agg ⟨[.int .i64 x.left,.slice a m c]⟩,.agg ⟨[.int .i64 y.left,.slice b n d]⟩] F [] λ_ v o=>o=[]/\v=.int .i64 (yh x y):=by
 refine Abs.Spec.fn (n:=17) Tryz.func89 rfl rfl λown=>?_;refine AW.seq (AW.fp ?_);refine WT.bN Z Z Z Z Z Z (λi1 C=>?_);refine WT.bN Z Z Z Z Z Z (λi2 I=>?_);refine aq ?_;refine AW.draw (ps:=[(6,4),(8,4)]) Z Z (aq ?_);refine WT.bj Tryz.func111 Z Z Z Z Z Z (dD _ _ _) (λv g=>?_);subst g;refine aq ?_;refine WT.bj Tryz.func119 Z Z Z Z Z Z (vV _ j r hm t) (λv g=>?_);subst g;refine WT.aR hT Z Z Z Z Z Z Z Z Z Z Z Z Z Z (λi9 J=>?_);refine WT.fP 0 Tryz.func110 Z Z Z Z Z Z Z (λG P i=>xX G (l:=[bm x.left y.left,fK x.right y.right]) (cb.frozen (F:=F) (B:=[(i9,.cells false [.int .i64 (bm x.left y.left),.int .i64 (fK x.right y.right)])]) ⟨rfl,.inr ⟨i9,_,rfl,rfl,rfl,aG.cons (l:=[_]) Z (aG.single (x:=fK x.right y.right) rfl),by decide⟩⟩ P i) (by decide)) (λv g=>?_);subst g;refine aq ?_;refine⟨lU,?_⟩;exact AW.ret ⟨_,[],⟨_,_,rfl,rfl,rfl⟩,bF,rfl,rfl⟩
def idxOf{α:Type}(p:α->Bool):List α->Int
 | []=>-1
 | x::l=>if p x=true then 0 else if idxOf p l=-1 then -1 else idxOf p l+1
theorem Av{α:Type}(p:α->Bool):∀l:List α,-1<=idxOf p l
 | []=>by simp[idxOf]
 | x::l=>by have:=Av p l;simp only[idxOf];split<;>(try split)<;>omega
theorem rU{α:Type}{p:α->Bool}:∀{l:List α} {j:Nat},j<=l.length->(∀y∈l.take j,p y=false)->idxOf p l=if idxOf p (l.drop j)=-1 then -1 else idxOf p (l.drop j)+j
 | l,0,_,_=>by simp
 | [],j+1,h,_=>by simp at h
 | x::l,j+1,h,g=>by{have o:p x=false:=g x (by simp);have r:=@rU α p l j (by simpa using h) (λy t=>g y (by simp[t]));have:=Av p (l.drop j);simp only[idxOf,o,VG];rw[r];by_cases i:idxOf p (l.drop j)=-1;{simp[i]};{simp only[i,Un];rw[nw (by simp),nw zo];omega}}
theorem rz{α:Type}{p:α->Bool}:∀{l:List α},0<=idxOf p l↔l.any p=true
 | []=>by simp[idxOf]
 | x::l=>by{have i:=@rz α p l;have:=Av p l;simp only[idxOf,List.any_cons,T7,<-i];by_cases g:p x=true;{simp[g]};{rw[nw g];constructor;{intro h;right;split at h<;>omega};{intro h;rcases h with h | h;{exact absurd h g};{rw[nw zo];omega}}}}
theorem nS{α:Type}{p:α->Bool}{l:List α}:decide (idxOf p l≥0)=l.any p:=by
 rw[T8,TQ];exact rz
theorem E1{α:Type}{p:α->Bool}{l:List α}{j:Nat}{x:α}(g:l[j]?=some x)(hp:p x=true)(h:∀y∈l.take j,p y=false):idxOf p l=j:=by
 have i:j<l.length:=(gS g).1;rw[rU zo h,Tl i];have:l[j]=x:=by{rw[gE i] at g;simpa using g};simp[idxOf,this,hp]
theorem zM{α:Type}{p:α->Bool}{l:List α}(h:∀y∈l,p y=false):idxOf p l=-1:=by
 rw[rU (j:=l.length) (mc _) (by simpa using h)];simp[idxOf]
theorem Qe{p:Prop} (h:p:=by{have hxlen:=hx.len;refine aq ?_;refine AW.range (S:=Unit) (λ_=>[]) (λ_=>_) (λj _ G=>G=F/\∀y∈xs.take j,p y=false) m () Z Z Z Z Z Z Z Z Z zo Z Z (λ_=>rfl) (λ_=>rfl) sM oR ⟨rfl,by simp⟩ ?_ ?_;{intro j _ F1 hF1 hj hP;obtain⟨rfl,hP⟩:=hP;refine aq ?_;refine WT.bh hT hx Z Z Z Z Z Z Z Z Z zo (λx hxj b1 off ro cs lx hb hp1 hrel=>?_);obtain rfl:lx=_:=hrel;refine aq ?_;refine WT.kz hg hgb Z Z Z Z Z Z Z (hp x (gM hxj) ) (λv hv=>?_);subst hv;refine aq ?_;refine AW.cond Z (λhc=>?_) (λhc=>?_);{refine aq ?_;refine AW.ret ⟨_,[],⟨_,_,rfl,rfl,rfl⟩,bF,rfl,?_⟩;rw[E1 hxj hc hP];rfl};{refine aq ?_;exact⟨(),sM,cF,rfl,mP hxj hP hc⟩}};{intro _ F1 hF1 hP;obtain⟨rfl,hP⟩:=hP;rw[qs zo] at hP;refine aq ?_;refine AW.ret ⟨_,[],⟨_,_,rfl,rfl,rfl⟩,bF,rfl,?_⟩;rw[zM hP];rfl}}):p:=h
theorem A7(F:aA){a:Option Addr}{m c:Nat}{xs:List Sym}(hx:bk gR F a m c xs)(hm:m<=1000000)(p:Sym->Bool){g:Nat}{fn:Func}{first capt:List Value}(hg:CC.func g=some fn)(hgb:fn.body.isSome=true)
  (hp:∀x∈xs,  Abs.Spec CC g (first++[.agg ⟨[.bool x.term,.int .i64 x.n]⟩]++capt) F [] λ_ v o=>o=[]/\v=.bool (p x)) :
  Abs.Spec CC 76 [.slice a m c,.func (.func g) ⟨first⟩ ⟨capt⟩] F [] λ_ v o=>o=[]/\v=.int .i64 (idxOf p xs):=by
 refine Abs.Spec.fn (n:=19) Tryz.func76 rfl rfl λown=>?_;exact Qe
theorem E7(F:aA){a:Option Addr}{m c:Nat}{xs:List Sym}(j:bk gR F a m c xs)(hm:m<=1000000)(p:Sym->Bool){g:Nat}{fn:Func}{first capt:List Value}(l:CC.func g=some fn)(i:fn.body.isSome=true)
  (hp:∀x∈xs,  Abs.Spec CC g (first++[.agg ⟨[.bool x.term,.int .i64 x.n]⟩]++capt) F [] λ_ v o=>o=[]/\v=.bool (p x)) :
  Abs.Spec CC 43 [.slice a m c,.func (.func g) ⟨first⟩ ⟨capt⟩] F [] λ_ v o=>o=[]/\v=.bool (xs.any p):=by
 refine Abs.Spec.fn (n:=9) Tryz.func43 rfl rfl λown=>?_;refine aq ?_;refine WT.bj Tryz.func76 Z Z Z Z Z Z (A7 _ j hm p l i hp) (λv r=>?_);subst r;refine aq ?_;refine AW.ret ⟨_,[],⟨_,_,rfl,rfl,rfl⟩,bF,rfl,?_⟩;rw[<-nS];rfl
theorem zT(F:aA){a:Option Addr}{m c:Nat}{xs:List bY}(R:bk cD F a m c xs)(hm:m<=1000000)(p:bY->Bool){g:Nat}{fn:Func}{first capt:List Value}(U:CC.func g=some fn)(t:fn.body.isSome=true)
  (hp:∀x∈xs,∀b n d,bk gR F b n d x.right->Abs.Spec CC g (first++[.agg ⟨[.int .i64 x.left,.slice b n d]⟩]++capt) F [] λ_ v o=>o=[]/\v=.bool (p x)) :
  Abs.Spec CC 75 [.slice a m c,.func (.func g) ⟨first⟩ ⟨capt⟩] F [] λ_ v o=>o=[]/\v=.int .i64 (idxOf p xs):=by
 refine Abs.Spec.fn (n:=19) Tryz.func75 rfl rfl λown=>?_;have C:=R.len;refine aq ?_;refine AW.range (S:=Unit) (λ_=>[]) (λ_=>_) (λj _ G=>G=F/\∀y∈xs.take j,p y=false) m () Z Z Z Z Z Z Z Z Z zo Z Z (λ_=>rfl) (λ_=>rfl) sM oR ⟨rfl,by simp⟩ ?_ ?_;{intro j _ F1 I hj i;obtain⟨rfl,i⟩:=i;refine aq ?_;refine WT.bh hT R Z Z Z Z Z Z Z Z Z zo (λx l b1 off ro cs lx hb ab r=>?_);obtain⟨b2,n2,d2,rfl,J⟩:=r;refine aq ?_;refine WT.kz U t Z Z Z Z Z Z Z (hp x (gM l) _ _ _ J) (λv hv=>?_);subst hv;refine aq ?_;refine AW.cond Z (λP=>?_) (λP=>?_);{refine aq ?_;refine AW.ret ⟨_,[],⟨_,_,rfl,rfl,rfl⟩,bF,rfl,?_⟩;rw[E1 l P i];rfl};{refine aq ?_;exact⟨(),sM,cF,rfl,mP l i P⟩}};{intro _ F1 I i;obtain⟨rfl,i⟩:=i;rw[qs zo] at i;refine aq ?_;refine AW.ret ⟨_,[],⟨_,_,rfl,rfl,rfl⟩,bF,rfl,?_⟩;rw[zM i];rfl}
theorem Ds(F:aA){a:Option Addr}{m c:Nat}{xs:List bY}(j:bk cD F a m c xs)(hm:m<=1000000)(p:bY->Bool){g:Nat}{fn:Func}{first capt:List Value}(l:CC.func g=some fn)(i:fn.body.isSome=true)
  (hp:∀x∈xs,∀b n d,bk gR F b n d x.right->Abs.Spec CC g (first++[.agg ⟨[.int .i64 x.left,.slice b n d]⟩]++capt) F [] λ_ v o=>o=[]/\v=.bool (p x)) :
  Abs.Spec CC 87 [.slice a m c,.func (.func g) ⟨first⟩ ⟨capt⟩] F [] λ_ v o=>o=[]/\v=.bool (xs.any p):=by
 refine Abs.Spec.fn (n:=9) Tryz.func87 rfl rfl λown=>?_;refine aq ?_;refine WT.bj Tryz.func75 Z Z Z Z Z Z (zT _ j hm p l i hp) (λv r=>?_);subst r;refine aq ?_;refine AW.ret ⟨_,[],⟨_,_,rfl,rfl,rfl⟩,bF,rfl,?_⟩;rw[<-nS];rfl
theorem Bc(F:aA){a:Option Addr}{m c:Nat}{xs:List Nat}(hx:bk eV F a m c xs)(hm:m<=1000000)(p:Nat->Bool){g:Nat}{fn:Func}{first capt:List Value}(hg:CC.func g=some fn)(hgb:fn.body.isSome=true)
  (hp:∀x∈xs,  Abs.Spec CC g (first++[.int .i64 (x:Nat)]++capt) F [] λ_ v o=>o=[]/\v=.bool (p x)) :
  Abs.Spec CC 102 [.slice a m c,.func (.func g) ⟨first⟩ ⟨capt⟩] F [] λ_ v o=>o=[]/\v=.int .i64 (idxOf p xs):=by
 refine Abs.Spec.fn (n:=19) Tryz.func102 rfl rfl λown=>?_;exact Qe
theorem EA(F:aA){a:Option Addr}{m c:Nat}{xs:List Nat}(j:bk eV F a m c xs)(hm:m<=1000000)(p:Nat->Bool){g:Nat}{fn:Func}{first capt:List Value}(l:CC.func g=some fn)(i:fn.body.isSome=true)
  (hp:∀x∈xs,  Abs.Spec CC g (first++[.int .i64 (x:Nat)]++capt) F [] λ_ v o=>o=[]/\v=.bool (p x)) :
  Abs.Spec CC 60 [.slice a m c,.func (.func g) ⟨first⟩ ⟨capt⟩] F [] λ_ v o=>o=[]/\v=.bool (xs.any p):=by
 refine Abs.Spec.fn (n:=9) Tryz.func60 rfl rfl λown=>?_;refine aq ?_;refine WT.bj Tryz.func102 Z Z Z Z Z Z (Bc _ j hm p l i hp) (λv r=>?_);subst r;refine aq ?_;refine AW.ret ⟨_,[],⟨_,_,rfl,rfl,rfl⟩,bF,rfl,?_⟩;rw[<-nS];rfl
def nR(g:aj)(y:Sym):Bool:=if y.term=true then decide (y.n<g.ae) else decide (y.n<g.ay)
theorem Jn(F:aA)(g:aj){a:Option Addr}{m c:Nat}(y:Sym) :
  Abs.Spec CC 86 [.agg ⟨[.int .i64 g.ae,.int .i64 g.ay,.int .i64 g.start,.slice a m c]⟩,.agg ⟨[.bool y.term,.int .i64 y.n]⟩] F [] λ_ v o=>o=[]/\v=.bool (nR g y):=by
 refine Abs.Spec.fn (n:=31) Tryz.func86 rfl rfl λown=>?_;refine AW.seq (AW.fp ?_);refine WT.bN Z Z Z Z Z Z (λi1 l=>?_);refine WT.bN Z Z Z Z Z Z (λi2 p=>?_);refine aq ?_;have r:decide ((y.n:Int)≥0)=true:=by{simp};refine WT.split 8 Z (λ_=>?_) (λh=>(by rw[r] at h;cases h));have i:∀m:Nat,decide ((y.n:Int)<(m:Int))=decide (y.n<m):=λm=>by{rw[decide_eq_decide];omega};cases j:y.term with| true=>{refine aq ?_;refine WT.split 18 Z (λh=>?_) (λh=>?_);{refine aq ?_;refine AW.ret ⟨_,[],⟨_,_,rfl,rfl,rfl⟩,bF,rfl,?_⟩;rw[i] at h;simp only[nR,j,TY,h];rfl};{refine aq ?_;refine AW.ret ⟨_,[],⟨_,_,rfl,rfl,rfl⟩,bF,rfl,?_⟩;rw[i] at h;simp only[nR,j,TY,h];rfl}}| false=>{refine aq ?_;refine AW.ret ⟨_,[],⟨_,_,rfl,rfl,rfl⟩,bF,rfl,?_⟩;simp only[nR,j,<-i];rfl}
def ai(g:aj)(a:Option Addr)(m c:Nat):List Value:=[.int .i64 g.ae,.int .i64 g.ay,.int .i64 g.start,.slice a m c]
theorem EZ(F:aA)(g:aj){a:Option Addr}{m c:Nat}{i:Nat}{ro:Bool}(hi:F i=some (.cells ro (ai g a m c)))(y:Sym) :
  Abs.Spec CC 85 [.agg ⟨[.bool y.term,.int .i64 y.n]⟩,.pointer (some ⟨i,0,none⟩)] F [] λ_ v o=>o=[]/\v=.bool (!nR g y):=by
 unfold ai at hi;refine Abs.Spec.fn (n:=8) Tryz.func85 rfl rfl λown=>?_;refine AW.seq (AW.fp ?_);refine WT.bN Z Z Z Z Z Z (λi2 j=>?_);refine aq ?_;refine WT.bj Tryz.func86 Z Z Z Z Z Z (Jn _ g y) (λv l=>?_);subst l;refine aq ?_;exact AW.ret ⟨_,[],⟨_,_,rfl,rfl,rfl⟩,bF,rfl,rfl⟩
theorem FE(F:aA)(r:bY){a:Option Addr}{m c:Nat}{i:Nat}{ro:Bool}(hi:F i=some (.cells ro [.int .i64 r.left,.slice a m c]))(g:bk gR F a m c r.right)(hm:m<=1000000)(x:bY)
  {b:Option Addr} {n d:Nat} (j:bk gR F b n d x.right) (l:n<=1000000) :
  Abs.Spec CC 88 [.agg ⟨[.int .i64 x.left,.slice b n d]⟩,.pointer (some ⟨i,0,none⟩)] F [] λ_ v o=>o=[]/\v=.bool (decide (x=r)):=by
 refine Abs.Spec.fn (n:=8) Tryz.func88 rfl rfl λown=>?_;refine AW.seq (AW.fp ?_);refine WT.bN Z Z Z Z Z Z (λi2 p=>?_);refine aq ?_;refine WT.bj Tryz.func89 Z Z Z Z Z Z (vC _ x r j g l hm) (λv t=>?_);subst t;refine aq ?_;refine AW.ret ⟨_,[],⟨_,_,rfl,rfl,rfl⟩,bF,rfl,?_⟩;have:(yh x r==0)=decide (x=r):=by{rw[T8];simp[D4]};rw[<-this];rfl
def iW(g:aj)(pre:List bY)(r:bY):Nat:=
 if g.ay<=r.left then 3 else if 4<r.right.length then 2 else if r.right.any (λy=>!nR g y)=true then 3 else if pre.any (λx=>decide (x=r))=true then 6 else 0
def eK(g:aj):List bY->List bY->Nat
 | _,[]=>0
 | pre,r::l=>if iW g pre r=0 then eK g (pre++[r]) l else iW g pre r
structure Ic(g:aj):Prop where
 ae:1<=g.ae/\g.ae<=8
 ay:1<=g.ay/\g.ay<=10
 start:g.start<g.ay
 rules:g.rules.length<=32
 right:∀r∈g.rules,r.right.length<=1000000
theorem qj(g:aj):∀(j:Nat) (pre l:List bY),j<=l.length->(∀i (h:i<l.length),i<j->iW g (pre++l.take i) l[i]=0)->eK g pre l=eK g (pre++l.take j) (l.drop j)
 | 0,pre,l,_,_=>by simp
 | j+1,pre,[],h,_=>by simp at h
 | j+1,pre,r::l,h,o=>by{have t:=o 0 (by simp) zo;simp only[U4,Tx,V0] at t;simp only[eK,t,TY];rw[qj g j (pre++[r]) l (by simpa using h) (λi C I=>by{have:=o (i+1) (by simpa using C) zo;simpa using this})];simp}
theorem jx(F:aA)(g:aj)(hg:Ic g){a:Option Addr}{m c:Nat}(hr:bk cD F a m c g.rules) :
  Abs.Spec CC 48 [.agg ⟨ai g a m c⟩] F [] λ_ v o=>o=[]/\v=.int .i64 (eK g [] g.rules:Nat):=by
 unfold ai;have hlen:=hr.len;obtain⟨⟨a4,a5⟩,⟨a6,a7⟩,a8,a9,R⟩:=hg;refine Abs.Spec.fn (n:=76) Tryz.func48 rfl rfl λown=>?_;refine AW.seq (AW.fp ?_);refine WT.bN Z Z Z Z Z Z (λi1 i=>?_);refine WT.aw 0 Z Z (λF1 an ao=>?_);have i:=ao i1 _ me;have hr:=hr.mono an;refine aq ?_;refine WT.split 8 Z (λh=>(by simp at h;omega)) (λ_=>?_);refine aq ?_;refine WT.split 13 Z (λh=>(by simp at h;omega)) (λ_=>?_);refine aq ?_;refine WT.split 18 Z (λh=>(by simp at h;omega)) (λ_=>?_);refine aq ?_;refine WT.split 23 Z (λh=>(by simp at h;omega)) (λ_=>?_);refine aq ?_;refine AW.cond Z (λh=>(by simp at h;omega)) (λ_=>?_);refine aq ?_;refine AW.cond Z (λh=>(by simp at h;omega)) (λ_=>?_);refine aq ?_;refine AW.range (S:=Unit) (λ_=>[]) (λ_=>_) (λj _ _=>eK g [] g.rules=eK g (g.rules.take j) (g.rules.drop j)) m () Z Z Z Z Z Z Z Z Z zo Z Z (λ_=>rfl) (λ_=>rfl) sM oR (by simp) ?_ ?_;{intro j _ F2 I hj hP;have U:=hr.mono I;refine aq ?_;refine WT.bh hT U Z Z Z Z Z Z Z Z Z zo (λx l b1 off ro cs lx hb bb aa=>?_);obtain⟨b2,n2,d2,rfl,ab⟩:=aa;have al:=ab.len;have bc:=R x (gM l);have r:g.rules.drop j=x::g.rules.drop (j+1):=by{rw[Tl (show j<g.rules.length by omega)];rw[gE zo] at l;have:=aE l;rw[this]};(have next:iW g (g.rules.take j) x=0->eK g [] g.rules=eK g (g.rules.take (j+1)) (g.rules.drop (j+1)):=by{intro h0;rw[hP,r];simp only[eK,h0,TY];rw[yo,l];rfl});(have stop:∀e,e≠0->iW g (g.rules.take j) x=e->eK g [] g.rules=e:=by{intro e h1 J;rw[hP,r];simp only[eK,J,h1,Un]});refine aq ?_;refine WT.az hT Z Z Z Z Z Z (λi4 ac=>?_);refine aq ?_;refine AW.aw 0 Z Z (λF3 P av=>?_);have ac:=av i4 _ me;have i:=P _ _ (I _ _ i);have ax:=U.mono P;have ad:=ab.mono P;refine AW.block (aq ?_);refine AW.cond Z (λh=>?_) (λh=>?_);{have h:g.ay<=x.left:=by{simp at h;omega};refine aq ?_;refine AW.ret ⟨_,[],⟨_,_,rfl,rfl,rfl⟩,bF,rfl,?_⟩;rw[stop 3 (by decide) (by simp[iW,h])];rfl};{have h1:¬g.ay<=x.left:=by{simp at h;omega};refine aq ?_;refine AW.cond Z (λh=>?_) (λh=>?_);{have J:4<x.right.length:=by{simp at h;omega};refine aq ?_;refine AW.ret ⟨_,[],⟨_,_,rfl,rfl,rfl⟩,bF,rfl,?_⟩;rw[stop 2 (by decide) (by simp[iW,h1,J])];rfl};{have J:¬4<x.right.length:=by{simp at h;omega};refine aq ?_;refine WT.bj Tryz.func43 Z Z Z Z Z Z (E7 _ ad zo (λy=>!nR g y) Tryz.func85 Z (λy _=>EZ _ g i y)) (λv hv=>?_);subst hv;refine aq ?_;refine AW.cond Z (λh=>?_) (λh3=>?_);{refine aq ?_;refine AW.ret ⟨_,[],⟨_,_,rfl,rfl,rfl⟩,bF,rfl,?_⟩;rw[stop 3 (by decide) (by rw[iW,nw h1,nw J,n0 h])];rfl};{have ae:¬(x.right.any λy=>!nR g y)=true:=by{rw[h3];decide};refine aq ?_;obtain⟨a',c',hs,a1⟩:=ax.slice (C:=CC) (lo:=0) (hi:=j) zo zo hT (t:=23) Z Z Z none (some (.int .i64 (j:Nat))) rfl rfl;refine WT.slice Z Z Z Z Z Z Z Z hs (aq ?_);refine WT.bj Tryz.func87 Z Z Z Z Z Z (Ds _ a1 zo (λy=>decide (y=x)) Tryz.func88 Z (λy hy b n d hb=>FE _ x ac ad zo y hb ?_)) (λv hv=>?_);{rw[hb.len];exact R y (by simpa using List.mem_of_mem_take hy)};subst hv;refine aq ?_;rw[Vg];refine AW.cond Z (λh=>?_) (λh4=>?_);{refine aq ?_;refine AW.ret ⟨_,[],⟨_,_,rfl,rfl,rfl⟩,bF,rfl,?_⟩;rw[stop 6 (by decide) (by rw[iW,nw h1,nw J,nw ae,n0 h])];rfl};{have a2:¬((g.rules.take j).any λy=>decide (y=x))=true:=by{rw[h4];decide};refine aq ?_;exact⟨(),sM,cF,next (by rw[iW,nw h1,nw J,nw ae,nw a2])⟩}}}}};{intro _ F2 I hP;refine aq ?_;refine AW.ret ⟨_,[],⟨_,_,rfl,rfl,rfl⟩,bF,rfl,?_⟩;rw[hP,TE zo];rfl}
structure Valid(g:aj):Prop where
 range:Ic g
 right:∀r∈g.rules,r.left<g.ay/\r.right.length<=4/\∀y∈r.right,cP g.ae g.ay y
 nodup:g.rules.Nodup
theorem Valid.vi{g:aj}(h:Valid g):eK g [] g.rules=0:=by
 rw[qj g g.rules.length [] g.rules (mc _) (λi h1 _=>?_)];{simp[eK]};{obtain⟨J,P,r⟩:=h.right g.rules[i] (UR h1);rw[iW,nw zo,nw zo,nw,nw];{intro j;simp only[Vb,VA,TQ] at j;obtain⟨x,t,rfl⟩:=j;have l:=h.nodup;rw[<-Ut i g.rules,Uf] at l;refine l.2.2 _ t _ ?_ rfl;rw[Tl h1];exact D2 ..};{intro j;simp only[VA,TZ] at j;obtain⟨y,C,o⟩:=j;have:=r y C;unfold cP at this;unfold nR at o;split at this<;>rename_i I<;>simp[I,this] at o}}
theorem Small.valid{g:aj}(h:Small g):Valid g where
 range:=⟨by have:=h.ae;omega,by have:=h.ay;omega,h.start,by have:=h.rules;omega,λr i=>by have:=(h.ok r i).2.1;omega⟩
 right:=λr i=>⟨(h.ok r i).1,by have:=(h.ok r i).2.1;omega,(h.ok r i).2.2⟩
 nodup:=h.nodup
theorem J5(F:aA)(ae most:Nat)(ht:0<ae/\ae<=1000)(U:most<=1000000){a:Option Addr}{m c:Nat}{l:List Int}(hl:bk dv F a m c l)(hm:m<=9223372036854775807) :
  Abs.Spec CC 13 [.int .i64 ae,.int .i64 most,.slice a m c] F [] λF' v o=>o=[]/\∃a m c w,v=.slice a m c/\bk eV F' a m c w/\w.length<=most/\∀t∈w,t<ae:=by
 refine Abs.Spec.fn (n:=28) Tryz.func13 rfl rfl λown=>?_;have hlen:=hl.len;refine aq ?_;refine AW.range (S:=List Nat×Option Addr×Nat×Nat×List (Nat×aJ)) (λs=>[(7,.slice s.2.1 s.2.2.1 s.2.2.2.1)]) (λs=>s.2.2.2.2::own) (λj s G=>cb eV G s.2.1 s.2.2.1 s.2.2.2.1 s.2.2.2.2 s.1/\s.1.length<=most/\∀t∈s.1,t<ae) m ⟨[],none,0,0,[]⟩ Z Z Z Z Z Z Z Z Z zo Z Z (λ_=>rfl) (λ_=>rfl) sM (ah.flat (sh _)) ⟨cb.cK _ _,by simp,by simp⟩ ?_ ?_;{intro j s F1 I hj hP;obtain⟨J,g,r⟩:=hP;have ab:=J.len;have ac:=hl.mono I;refine aq ?_;refine WT.bh hT ac Z Z Z Z Z Z Z Z Z zo (λx an b1 off ro cs lx ar av P=>?_);obtain rfl:lx=_:=P;refine aq ?_;refine AW.cond Z (λh=>?_) (λh=>?_);{refine AW.exit (AW.aw 0 Z Z (λF3 C i=>?_));refine aq ?_;exact AW.ret ⟨_,[],⟨_,_,rfl,rfl,rfl⟩,bF,rfl,_,_,_,s.1,rfl,J.frozen C i,g,r⟩};{have h:s.1.length<most:=by{simp at h;omega};(refine aq ?_;refine WT.bj Tryz.func32 Z Z Z Z Z Z (Ad _ x ae zo zo) (λv hv=>?_);subst hv;refine WT.aR hT Z Z Z Z Z Z Z Z Z Z Z Z Z Z (λi9 a0=>?_);refine WT.aZ (ys:=[below x ae]) hT 1 J Z (λ_=>rfl) Z Z Z Z Z Z Z Z Z Z Z (λh0 s0=>aN hT s0 0 Z Z Z Z) (aG.single (R:=eV) (x:=below x ae) rfl) Z (by decide) fj (λa3 c3 B3 i=>?_);refine aq ?_;refine⟨⟨s.1++[below x ae],a3,s.2.2.1+1,c3,B3⟩,sM,cF,i,by simp;omega,λt ht2=>?_⟩;rcases D1.1 ht2 with ht2 | ht2);{exact r t ht2};{obtain rfl:=ti.1 ht2;exact Gt x ht.1}}};{intro s F1 I hP;obtain⟨J,g,r⟩:=hP;refine AW.aw 0 Z Z (λF3 C i=>?_);refine aq ?_;exact AW.ret ⟨_,[],⟨_,_,rfl,rfl,rfl⟩,bF,rfl,_,_,_,s.1,rfl,J.frozen C i,g,r⟩}
def qM(ae most:Nat)(w:List Nat):Nat:=if most<w.length then 2 else if w.any (λt=>decide (ae<=t))=true then 1 else 0
theorem GU(F:aA)(g:aj){a:Option Addr}{m c:Nat}{i:Nat}{ro:Bool}(hi:F i=some (.cells ro (ai g a m c)))(t:Nat) :
  Abs.Spec CC 61 [.int .i64 t,.pointer (some ⟨i,0,none⟩)] F [] λ_ v o=>o=[]/\v=.bool (decide (g.ae<=t)):=by
 unfold ai at hi;refine Abs.Spec.fn (n:=12) Tryz.func61 rfl rfl λown=>?_;refine aq ?_;refine AW.ret ⟨_,[],⟨_,_,rfl,rfl,rfl⟩,bF,rfl,?_⟩;simp[ff]
theorem sK(F:aA)(g:aj){a:Option Addr}{m c:Nat}(most:Nat)(j:most<=1000000){b:Option Addr}{n d:Nat}{w:List Nat}(hw:bk eV F b n d w)(I:n<=1000000) :
  Abs.Spec CC 22 [.agg ⟨ai g a m c⟩,.slice b n d,.int .i64 most] F [] λ_ v o=>o=[]/\v=.int .i64 (qM g.ae most w:Nat):=by
 unfold ai;have hlen:=hw.len;refine Abs.Spec.fn (n:=14) Tryz.func22 rfl rfl λown=>?_;refine AW.seq (AW.fp ?_);refine WT.bN Z Z Z Z Z Z (λi1 i=>?_);refine WT.aw 0 Z Z (λJ l r=>?_);have i:=r i1 _ me;refine aq ?_;refine AW.cond Z (λh=>?_) (λh=>?_);{have h:most<w.length:=by{simp at h;omega};refine aq ?_;refine AW.ret ⟨_,[],⟨_,_,rfl,rfl,rfl⟩,bF,rfl,?_⟩;rw[qM,n0 h];rfl};{have h1:¬most<w.length:=by{simp at h;omega};refine aq ?_;refine WT.bj Tryz.func60 Z Z Z Z Z Z (EA _ (hw.mono l) zo (λt=>decide (g.ae<=t)) Tryz.func61 Z (λt _=>GU _ g i t)) (λv C=>?_);subst C;refine aq ?_;refine AW.cond Z (λh=>?_) (λh=>?_);{refine aq ?_;refine AW.ret ⟨_,[],⟨_,_,rfl,rfl,rfl⟩,bF,rfl,?_⟩;rw[qM,nw h1,n0 h];rfl};{refine aq ?_;refine AW.ret ⟨_,[],⟨_,_,rfl,rfl,rfl⟩,bF,rfl,?_⟩;rw[qM,nw h1,nw (by rw[h];decide)];rfl}}
theorem sx{ae most:Nat}{w:List Nat}(h1:w.length<=most)(g:∀t∈w,t<ae):qM ae most w=0:=by
 rw[qM,nw zo,nw];intro h;simp only[VA,TQ] at h;obtain⟨t,i,h⟩:=h;have:=g t i;omega
theorem wG(F:aA)(g:aj)(r:Valid g){a:Option Addr}{m c:Nat}(C:bk cD F a m c g.rules){b:Option Addr}{n d:Nat}{w:List Nat}(hw:bk eV F b n d w)(j:w.length<=12)(l:∀t∈w,t<g.ae) :
  Abs.Spec CC 33 [.agg ⟨ai g a m c⟩,.slice b n d] F [] λ_ v o=>o=[]/\v=.int .i64 0:=by
 unfold ai;have hlen:=hw.len;refine Abs.Spec.fn (n:=14) Tryz.func33 rfl rfl λown=>?_;refine AW.seq (AW.fp ?_);refine WT.bN Z Z Z Z Z Z (λi1 I=>?_);refine aq ?_;refine WT.bj Tryz.func48 Z Z Z Z Z Z (jx _ g r.range C) (λv i=>?_);rw[r.vi] at i;subst i;refine aq ?_;refine AW.cond Z (λh=>(by cases h)) (λh=>?_);refine aq ?_;refine WT.bj Tryz.func22 Z Z Z Z Z Z (sK _ g 12 (by decide) hw zo) (λv i=>?_);rw[sx j l] at i;subst i;refine aq ?_;exact AW.ret ⟨_,[],⟨_,_,rfl,rfl,rfl⟩,bF,rfl,rfl⟩
theorem zU:∀(n x:Nat),0<x->x<2 ^ n->∃p q,x=2 ^ p*(2*q+1)/\p<n
 | 0,x,h,g=>by simp at g;omega
 | n+1,x,h,g=>by{rcases Nat.mod_two_eq_zero_or_one x with h3 | h3;{obtain⟨p,q,i,j⟩:=zU n (x / 2) zo (by rw[We] at g;omega);refine⟨p+1,q,?_,by omega⟩;rw[We,Nat.mul_comm (2 ^ p) 2,Nat.mul_assoc,<-i];omega};{exact⟨0,x / 2,by omega,by omega⟩}}
theorem Nh(q i:Nat):(2*q+1).testBit i=if i=0 then true else (2*q).testBit i:=by
 cases i with| zero=>{simp}| succ i=>{rw[Nat.testBit_succ,Nat.testBit_succ,nw zo];congr 1;omega}
theorem oy(p q j:Nat):(2 ^ p*(2*q+1)).testBit j=if j<p then false else if j=p then true else (2*q).testBit (j-p):=by
 have:=Nat.testBit_two_pow_mul_add (2*q+1) (b:=0) (i:=p) (Uv p) j;rw[UA] at this;rw[this];by_cases h:j<p;{simp[h]};{rw[nw h,nw h,Nh];by_cases g:j=p;{simp[g]};{rw[nw zo,nw g]}}
theorem Fx(p q j:Nat):(2 ^ p*(2*q+1)-1).testBit j=if j<p then true else (2*q).testBit (j-p):=by
 have h1:2 ^ p*(2*q+1)-1=2 ^ p*(2*q)+(2 ^ p-1):=by{have:=Uv p;rw[Nat.mul_add];omega};rw[h1,Nat.testBit_two_pow_mul_add _ (by have:=Uv p;omega)];by_cases h:j<p;{simp[h]};{simp[h]}
theorem tJ(p q j:Nat):(2 ^ p*(2*q+1) &&& (2 ^ p*(2*q+1)-1)).testBit j=((2 ^ p*(2*q+1)).testBit j&&!(j==p)):=by
 rw[Wc,oy,Fx];by_cases h:j<p;{simp[h]};{by_cases g:j=p;{subst g;simp};{simp[h,g]}}
theorem N7{n p q:Nat}(h:2 ^ p*(2*q+1)<2 ^ n):2 ^ p*(2*q+1) &&& (2 ^ n-2 ^ p*(2*q+1))=2 ^ p:=by
 apply UY;intro j;have i:0<2 ^ p*(2*q+1):=Nat.mul_pos (Uv p) zo;have h1:(2 ^ n-2 ^ p*(2*q+1)).testBit j=(decide (j<n)&&!(2 ^ p*(2*q+1)-1).testBit j):=by{rw[<-Nat.testBit_two_pow_sub_succ zo];congr 1;omega};have hp:p<n:=by{rcases IN p n with h2 | h2;{exact h2};{have g:=Tt (show 0<2 by decide) h2;have:2 ^ p*1<=2 ^ p*(2*q+1):=Nat.mul_le_mul_left _ zo;omega}};rw[Wc,h1,oy,Fx,Vk];by_cases h2:j<p;{have:¬p=j:=by{omega};simp[h2,this]};{by_cases g:j=p;{subst g;simp[hp]};{have:¬p=j:=by{omega};simp[h2,g,this];exact λh _=>h}}
theorem Le:∀p,p<32->yC[(2 ^ p*125613361 % 4294967296) / 2 ^ 27]?=some p:=by decide +kernel
def Laid(F:aA):Prop:=∀p∈fA,F p.1=some p.2
theorem Laid.mono{F G:aA}(h:Laid F)(g:aA.le F G):Laid G:=λp hp=>g _ _ (h p hp)
theorem Laid.dA{F:aA}(h:Laid F):F 0=some (.cells true (yC.map λx:Nat=>Value.int .u8 (x:Int))):=h _ me
theorem Il(F:aA)(r:Laid F)(p q:Nat)(t:2 ^ p*(2*q+1)<4294967296):Abs.Spec CC 113 [.int .u32 ((2 ^ p*(2*q+1):Nat):Int)] F [] λ_ v o=>o=[]/\v=.int .i64 p:=by
 have r:=r.dA;have hp:p<32:=by{rcases IN p 32 with h2 | h2;{exact h2};{have I:=Tt (show 0<2 by decide) h2;have:2 ^ p*1<=2 ^ p*(2*q+1):=Nat.mul_le_mul_left _ zo;omega}};have g:=N7 (n:=32) (p:=p) (q:=q) t;have j:0<2 ^ p*(2*q+1):=Nat.mul_pos (Uv p) zo;have l:=Le p hp;have C:2 ^ p<4294967296:=UZ (by decide) hp;generalize 2 ^ p*(2*q+1)=x at t g j;refine Abs.Spec.fn (n:=14) Tryz.func113 rfl rfl λown=>?_;refine aq ?_;refine AW.cond Z (λh=>(by simp at h;omega)) (λ_=>?_);refine aq ?_;refine WT.gn (v':=.int .u32 ((4294967296-x:Nat):Int)) 7 Z ?_ ?_;{have hs:IntKind.u32.signed=false:=rfl;have i:IntKind.u32.bits=32:=rfl;have h2:(2:Int) ^ 32=4294967296:=rfl;simp only[IntKind.wrap,hs,i,Bool.false_and,h2];congr 1;simp;omega};refine WT.oI (x:=x) (y:=4294967296-x) Z Z Z Z Z Z t zo ?_;rw[show x &&& (4294967296-x)=2 ^ p from g];refine WT.Pa (x:=2 ^ p) (y:=125613361) Z Z Z Z Z Z (WT.Iv (y:=27) Z Z Z Z Z Z (by decide) (WT.vO (len:=32) (s:=1) hT Z Z Z Z Z Z Z Z Z (by have:=Nat.mod_lt (2 ^ p*125613361) (show 0<4294967296 by decide);rw[Nat.div_lt_iff_lt_mul (by decide)];omega) (WT.M1 hT r (v:=.int .u8 p) Z Z Z Z Z Z Z ?_ ?_)));{rw[AI,Tp,zy,l];rfl};refine WT.conv hT (k2:=.i64) Z Z Z Z Z Z Z Z (wrap64 zo) (aq ?_);exact AW.ret ⟨_,[],⟨_,_,rfl,rfl,rfl⟩,bF,rfl,rfl⟩
def Step(w:List Nat)(E:List (List Nat))(s:Sym)(i j:Nat):Prop:=
 if s.term=true then w[i]?=some s.n/\j=i+1 else ∃row x,E[s.n]?=some row/\row[i]?=some x/\x.testBit j=true
def Reads(w:List Nat)(E:List (List Nat)):List Sym->Nat->Nat->Prop
 | [],i,j=>i=j
 | s::l,i,j=>∃m,Step w E s i m/\Reads w E l m j
theorem Reads.snoc{w:List Nat}{E:List (List Nat)}{s:Sym}:∀{l:List Sym} {i j:Nat},Reads w E (l++[s]) i j↔∃m,Reads w E l i m/\Step w E s m j
 | [],i,j=>by simp[Reads]
 | a::l,i,j=>by{simp only[TI,Reads,Reads.snoc (l:=l)];constructor;{rintro⟨m,h1,m2,g,o⟩;exact⟨m2,⟨m,h1,g⟩,o⟩};{rintro⟨m2,⟨m,h1,g⟩,o⟩;exact⟨m,h1,m2,g,o⟩}}
structure iy(n len:Nat)(E:List (List Nat)):Prop where
 size:E.length=n
 row:∀r∈E,r.length=len+1
 bit:∀r∈E,∀x∈r,x<2 ^ (len+1)
theorem G0{w:List Nat}{E:List (List Nat)}{y:Sym}{s t x p q:Nat}(hs:s.testBit p=true)
  (o:∀j,t.testBit j=true↔∃g,s.testBit g=true/\(2 ^ p*(2*q+1)).testBit g=false/\Step w E y g j) (r:∀j,x.testBit j=true↔Step w E y p j) :
  ∀j,(t ||| x).testBit j=true↔∃g,s.testBit g=true/\(2 ^ p*(2*q+1) &&& (2 ^ p*(2*q+1)-1)).testBit g=false/\Step w E y g j:=by
 intro j;rw[Ui,T7,o,r];constructor;{rintro(⟨g,h1,i,l⟩ | h);{exact⟨g,h1,by rw[tJ,i];rfl,l⟩};{exact⟨p,hs,by rw[tJ];simp,h⟩}};{rintro⟨g,h1,i,l⟩;rw[tJ] at i;by_cases hp:g=p;{subst hp;exact .inr l};{refine .inl ⟨g,h1,?_,l⟩;have:(g==p)=false:=by{simpa using hp};simpa [this] using i}}
theorem sN(F:aA)(hL:Laid F){n t:Nat}{w:List Nat}{E:List (List Nat)}{l:List Sym}{a1 a2 a3:Option Addr}{m1 m2 m3 c1 c2 c3:Nat}(hw:bk eV F a1 m1 c1 w)(hE:bk (bz Dh) F a2 m2 c2 E)(hl:bk gR F a3 m3 c3 l)
  (aa:iy n w.length E) (bc:∀y∈l,cP t n y) (hlen:w.length<=30) (cj:l.length<=1000) (i0:Nat) (cn:i0<=w.length) :
  Abs.Spec CC 72 [.slice a1 m1 c1,.slice a2 m2 c2,.slice a3 m3 c3,.int .i64 i0] F [] λ_ v o=>o=[]/\∃r:Nat,v=.int .u32 r/\r<2 ^ (w.length+1)/\∀j,r.testBit j=true↔Reads w E l i0 j:=by
 have bd:=hw.len;have bf:=hE.len;have bi:=hl.len;have pw:∀p,p<=31->2 ^ p<4294967296:=λp hp=>UZ (n:=32) (by decide) zo;have cr:2 ^ (w.length+1)<=4294967296:=Tt (j:=32) (by decide) zo;refine Abs.Spec.fn (n:=68) Tryz.func72 rfl rfl λown=>?_;refine aq ?_;refine WT.BI (x:=1) (y:=i0) Z Z Z Z Z Z zo (by have:=pw i0 zo;omega) (aq ?_);refine AW.range (S:=Nat) (λs=>[(9,.int .u32 (s:Nat))]) (λ_=>_) (λj s G=>s<2 ^ (w.length+1)/\∀q,s.testBit q=true↔Reads w E (l.take j) i0 q) m3 (1*2 ^ i0) Z Z Z Z Z Z Z Z Z zo Z Z (λ_=>rfl) (λ_=>rfl) sM oR ⟨?_,?_⟩ ?_ ?_;{rw[Uu];exact UZ (by decide) zo};{intro q;rw[Uu,Vk];simp[Reads]};{intro j s F1 P hj hP;obtain⟨ab,R⟩:=hP;have hw:=hw.mono P;have hE:=hE.mono P;have hl:=hl.mono P;have hL:=hL.mono P;refine aq ?_;refine WT.bh hT hl Z Z Z Z Z Z Z Z Z zo (λy ay b1 off ro cs lx hb cv a0=>?_);obtain rfl:lx=_:=a0;have a5:=bc y (gM ay);refine aq ?_;refine WT.az hT Z Z Z Z Z Z (λi1 cw=>?_);refine aq ?_;refine AW.block (AW.ek (S:=Nat×Nat) (λs=>[(13,.int .u32 s.1),(12,.int .u32 s.2)]) (λ_=>_) (λu G=>aA.le F1 G/\u.1<2 ^ (w.length+1)/\u.2<2 ^ (w.length+1)/\(∀q,u.1.testBit q=true->s.testBit q=true)/\∀q,u.2.testBit q=true↔∃p,s.testBit p=true/\u.1.testBit p=false/\Step w E y p q) (λu=>u.1) (s,0) sM oR ⟨aA.le.refl _,ab,Uv _,λq h=>h,λq=>?_⟩ ?_);{constructor;{intro h;simp at h};{rintro⟨p,h1,h2,_⟩;simp only at h2;rw[h1] at h2;cases h2}};{intro u F2 ad br;obtain⟨a6,a7,ae,af,ag⟩:=br;have hw:=hw.mono ad;have hE:=hE.mono ad;have hL:=hL.mono ad;obtain⟨u1,U⟩:=u;dsimp only at a7 ae af ag;refine aq ?_;refine AW.cond Z (λh=>?_) (λh=>?_);{have c0:u1≠0:=by{intro e;subst e;simp at h};obtain⟨p,q,rfl,hp⟩:=zU (w.length+1) u1 zo a7;have bt:s.testBit p=true:=af p (by rw[oy];simp);have hle:2 ^ p*(2*q+1) &&& (2 ^ p*(2*q+1)-1)<=2 ^ p*(2*q+1)-1:=Nat.and_le_right;have fin:∀x,x<2 ^ (w.length+1)->(∀j,x.testBit j=true↔Step w E y p j)->(aA.le F1 F2/\(2 ^ p*(2*q+1) &&& (2 ^ p*(2*q+1)-1))<2 ^ (w.length+1)/\(U ||| x)<2 ^ (w.length+1)/\(∀j,(2 ^ p*(2*q+1) &&& (2 ^ p*(2*q+1)-1)).testBit j=true->s.testBit j=true)/\∀j,(U ||| x).testBit j=true↔∃p',s.testBit p'=true/\(2 ^ p*(2*q+1) &&& (2 ^ p*(2*q+1)-1)).testBit p'=false/\Step w E y p' j):=by{intro x bx b0;refine⟨a6,by omega,UN ae bx,λj hj=>af j ?_,G0 bt ag b0⟩;rw[Wc] at hj;simp only[tx] at hj;exact hj.1};refine aq ?_;refine AW.block (aq ?_);refine WT.bj Tryz.func113 Z Z Z Z Z Z (Il _ hL p q zo) (λv hv=>?_);subst hv;refine WT.QF hT Z Z Z Z Z (WT.nil (AW.block (aq ?_)));refine AW.cond Z (λh2=>?_) (λh2=>?_);{have C:y.term=false:=by{simpa using h2};rw[cP,nw (by simp[C])] at a5;have bb:=aa.size;refine aq ?_;refine WT.bh hT hE Z Z Z Z Z Z Z Z Z zo (λrow i b2 ch c6 c7 c8 c9 dd al=>?_);obtain⟨a4,n4,c4,rfl,an⟩:=al;have df:=aa.row row (gM i);refine aq ?_;refine WT.bh hT an Z Z Z Z Z Z Z Z Z zo (λx hx b3 a8 b4 b5 ao b6 b7 g=>?_);obtain rfl:ao=_:=g;have b8:=aa.bit row (gM i) x (gM hx);refine aq ?_;refine WT.AF (x:=U) (y:=x) Z Z Z Z Z Z zo zo (aq ?_);refine WT.Cj (x:=2 ^ p*(2*q+1)) (y:=1) Z Z Z Z Z Z zo zo (WT.oI (x:=2 ^ p*(2*q+1)) Z Z Z Z Z Z zo zo (aq ?_));refine⟨(_,U ||| x),?_,sM,cF,fin x b8 λj=>?_⟩;{dsimp only;omega};{rw[Step,nw (by simp[C])];constructor;{intro hb;exact⟨row,x,i,hx,hb⟩};{rintro⟨row',x',I,J,h5⟩;rw[i] at I;cases I;rw[hx] at J;cases J;exact h5}}};{have C:y.term=true:=by{simpa using h2};refine aq ?_;refine WT.split 51 Z (λI=>?_) (λI=>?_);{have I:p<w.length:=by{simp at I;omega};refine aq ?_;refine WT.bh hT hw Z Z Z Z Z Z Z Z Z zo (λx hx b3 a8 b4 b5 ao b6 b7 g=>?_);obtain rfl:ao=_:=g;refine aq ?_;refine AW.cond Z (λJ=>?_) (λJ=>?_);{have J:x=y.n:=by{simp at J;omega};have e2:1*2 ^ (p+1)<2 ^ (w.length+1):=by{rw[Uu];exact UZ (by decide) zo};refine aq ?_;refine WT.BI (x:=1) (y:=p+1) Z Z Z Z Z Z zo zo (WT.AF (x:=U) (y:=1*2 ^ (p+1)) Z Z Z Z Z Z zo zo (aq ?_));refine WT.Cj (x:=2 ^ p*(2*q+1)) (y:=1) Z Z Z Z Z Z zo zo (WT.oI (x:=2 ^ p*(2*q+1)) Z Z Z Z Z Z zo zo (aq ?_));refine⟨(_,U ||| (1*2 ^ (p+1))),?_,sM,cF,fin _ e2 λj=>?_⟩;{dsimp only;omega};{rw[Step,n0 C,Uu,Vk,hx,J];simp;omega}};{have J:x≠y.n:=by{intro e;subst e;simp at J};refine aq ?_;refine WT.Cj (x:=2 ^ p*(2*q+1)) (y:=1) Z Z Z Z Z Z zo zo (WT.oI (x:=2 ^ p*(2*q+1)) Z Z Z Z Z Z zo zo (aq ?_));have:=fin 0 (Uv _) (λj=>by rw[Step,n0 C,hx];simp[J]);rw[Nat.or_zero] at this;refine⟨(_,U),?_,sM,cF,this⟩;dsimp only;omega}};{have I:w.length<=p:=by{simp at I;omega};refine aq ?_;refine AW.cond Z (λJ=>(by cases J)) (λJ=>?_);refine aq ?_;refine WT.Cj (x:=2 ^ p*(2*q+1)) (y:=1) Z Z Z Z Z Z zo zo (WT.oI (x:=2 ^ p*(2*q+1)) Z Z Z Z Z Z zo zo (aq ?_));have:=fin 0 (Uv _) (λj=>by rw[Step,n0 C,zE I];simp);rw[Nat.or_zero] at this;refine⟨(_,U),?_,sM,cF,this⟩;dsimp only;omega}}};{have h0:u1=0:=by{simp at h;omega};refine AW.exit (aq ?_);refine⟨U,sM,cF,ae,λq=>?_⟩;rw[ag,yo,ay];rw[show (some y).toList=[y] from rfl,Reads.snoc,h0];constructor;{rintro⟨p,h1,_,I⟩;exact⟨p,(R p).1 h1,I⟩};{rintro⟨p,h1,I⟩;exact⟨p,(R p).2 h1,by simp,I⟩}}}};{intro s F1 P hP;obtain⟨ab,R⟩:=hP;rw[qs zo] at R;refine aq ?_;exact AW.ret ⟨_,[],⟨_,_,rfl,rfl,rfl⟩,bF,rfl,s,rfl,ab,R⟩}
mutual
inductive vu(g:aj)(w:List Nat):Sym->Nat->Nat->Prop
 | term {t i:Nat}:w[i]?=some t->vu g w ⟨true,t⟩ i (i+1)
 | HM {r:bY} {i j:Nat}:r∈g.rules->v7 g w r.right i j->vu g w ⟨false,r.left⟩ i j
inductive v7(g:aj)(w:List Nat):List Sym->Nat->Nat->Prop
 | nil {i:Nat}:v7 g w [] i i
 | cons {s:Sym} {l:List Sym} {i m j:Nat}:vu g w s i m->v7 g w l m j->v7 g w (s::l) i j
end
theorem Mb{g:aj}{w:List Nat}{t i j:Nat}:vu g w ⟨true,t⟩ i j↔w[i]?=some t/\j=i+1:=by
 constructor;{intro h;cases h with | term h=>exact⟨h,rfl⟩};{rintro⟨h,rfl⟩;exact .term h}
theorem Lg{g:aj}{w:List Nat}{i j:Nat}:v7 g w [] i j↔i=j:=by
 constructor;{intro h;cases h;rfl};{rintro rfl;exact .nil}
theorem Ki{g:aj}{w:List Nat}{s:Sym}{l:List Sym}{i j:Nat}:v7 g w (s::l) i j↔∃m,vu g w s i m/\v7 g w l m j:=by
 constructor;{intro h;cases h with | cons h1 o=>exact⟨_,h1,o⟩};{rintro⟨m,h1,o⟩;exact .cons h1 o}
def bit(E:List (List Nat))(n i j:Nat):Prop:=∃row x,E[n]?=some row/\row[i]?=some x/\x.testBit j=true
def Ck(g:aj)(w:List Nat)(E:List (List Nat)):Prop:=∀n i j,bit E n i j->vu g w ⟨false,n⟩ i j
def sZ(w:List Nat)(E:List (List Nat))(r:bY)(i:Nat):Prop:=∀j,Reads w E r.right i j->bit E r.left i j
def sQ(g:aj)(w:List Nat)(E:List (List Nat)):Prop:=∀r∈g.rules,∀i,i<=w.length->sZ w E r i
structure gN(g:aj)(w:List Nat)(E:List (List Nat)):Prop where
 ok:iy g.ay w.length E
 iff:∀n i j,i<=w.length->(bit E n i j↔vu g w ⟨false,n⟩ i j)
theorem wD{g:aj}{w:List Nat}{E:List (List Nat)}(h:Ck g w E):∀{l:List Sym} {i j:Nat},Reads w E l i j->v7 g w l i j
 | [],i,j,h1=>by rw[show i=j from h1];exact .nil
 | s::l,i,j,h1=>by{obtain⟨m,o,p⟩:=h1;refine .cons ?_ (wD h p);obtain⟨b,n⟩:=s;unfold Step at o;cases b with| true=>{rw[n0 rfl] at o;obtain⟨r,rfl⟩:=o;exact .term r}| false=>{rw[nw (by simp)] at o;exact h n i m o}}
theorem xM{g:aj}{w:List Nat}{E:List (List Nat)}(hE:iy g.ay w.length E)(h:sQ g w E) :
  (∀{s:Sym} {i j:Nat},vu g w s i j->i<=w.length->Step w E s i j/\j<=w.length):=by
 intro s i j h1;refine vu.rec (motive_1:=λs i j _=>i<=w.length->Step w E s i j/\j<=w.length) (motive_2:=λl i j _=>i<=w.length->Reads w E l i j/\j<=w.length) ?_ ?_ ?_ ?_ h1;{intro t i o p;have:=(gS o).1;exact⟨by rw[Step,n0 rfl];exact⟨o,rfl⟩,by omega⟩};{intro r i j P o R hi;obtain⟨p,C⟩:=R hi;exact⟨by rw[Step,nw (by simp)];exact h r P i hi j p,C⟩};{intro i hi;exact⟨rfl,hi⟩};{intro s l i m j o p I J hi;obtain⟨C,U⟩:=I hi;obtain⟨h6,h7⟩:=J U;exact⟨⟨m,C,h6⟩,h7⟩}
theorem gN.of{g:aj}{w:List Nat}{E:List (List Nat)}(l:iy g.ay w.length E)(h1:Ck g w E)(o:sQ g w E):gN g w E:=
 ⟨l,λn i j hi=>⟨h1 n i j,λh=>by{have:=(xM l o h hi).1;rw[Step,nw (by simp)] at this;exact this}⟩⟩
def total(E:List (List Nat)):Nat:=(E.map List.sum).sum
theorem uK:∀{l:List Nat} {i x y:Nat},l[i]?=some x->(l.set i y).sum+x=l.sum+y
 | [],i,x,y,h=>by simp at h
 | a::l,0,x,y,h=>by simp at h;subst h;simp;omega
 | a::l,i+1,x,y,h=>by{have:=uK (l:=l) (i:=i) (x:=x) (y:=y) (by simpa using h);simp only[Ux,TL];omega}
theorem Dv{b:Nat}:∀{l:List Nat},(∀x∈l,x<=b)->l.sum<=l.length*b
 | [],_=>by simp
 | a::l,h=>by{have h1:=h a me;have i:=Dv (b:=b) (l:=l) (λx g=>h x (mb _ g));simp only[TL,IT,TO,Uu];omega}
theorem LN{n len:Nat}{E:List (List Nat)}(h:iy n len E):total E<=n*((len+1)*2 ^ (len+1)):=by
 unfold total;rw[<-h.size,<-tj (f:=List.sum)];refine Dv λx g=>?_;obtain⟨row,i,rfl⟩:=x6.1 g;rw[<-h.row row i];refine Dv λx g=>?_;rw[h.row row i];exact TC (h.bit row i x g)
def put(E:List (List Nat))(n i x:Nat):List (List Nat):=match E[n]? with
 | some row=>E.set n (row.set i x)
 | none=>E
theorem put_eq{E:List (List Nat)}{n i x:Nat}{row:List Nat}(h:E[n]?=some row):put E n i x=E.set n (row.set i x):=by unfold put;rw[h]
theorem Jt{E:List (List Nat)}{n i x y:Nat}{row:List Nat}(h:E[n]?=some row)(g:row[i]?=some x)(j:x<y):total E<total (put E n i y):=by
 rw[put_eq h];unfold total;rw[T9];have o:=uK (l:=E.map List.sum) (i:=n) (x:=row.sum) (y:=(row.set i y).sum) (by rw[zy,h];rfl);have p:=uK (y:=y) g;omega
theorem iy.put{n len:Nat}{E:List (List Nat)}(h:iy n len E){k i y:Nat}{row:List Nat}(h1:E[k]?=some row)(o:y<2 ^ (len+1)):iy n len (put E k i y):=by
 rw[put_eq h1];have g:=gM h1;refine⟨by simp[h.size],λr j=>?_,λr j x l=>?_⟩;{rcases Uq j with j | rfl;{exact h.row r j};{simp[h.row row g]}};{rcases Uq j with j | rfl;{exact h.bit r j x l};{rcases Uq l with l | rfl;{exact h.bit row g x l};{exact o}}}
theorem Nk{E:List (List Nat)}{k i y x:Nat}{row:List Nat}(h1:E[k]?=some row)(P:row[i]?=some x){t C I:Nat} :
  bit (put E k i y) t C I↔if t=k/\C=i then y.testBit I=true else bit E t C I:=by
 rw[put_eq h1];have hk:k<E.length:=(gS h1).1;have hi:i<row.length:=(gS P).1;unfold bit;by_cases J:t=k;{subst J;simp only[xk hk,Vd];by_cases o:C=i;{subst o;simp only[TY];constructor;{rintro⟨r,z,l,g,j⟩;cases l;rw[xk hi] at g;cases g;exact j};{intro j;exact⟨_,y,rfl,by rw[xk hi],j⟩}};{simp only[o,Un];constructor;{rintro⟨r,z,l,g,j⟩;cases l;rw[yf zo] at g;exact⟨row,z,h1,g,j⟩};{rintro⟨r,z,l,g,j⟩;rw[h1] at l;cases l;exact⟨_,z,rfl,by rw[yf zo];exact g,j⟩}}};{simp only[J,false_and,Un];rw[yf zo]}
structure ES where
 E:List (List Nat)
 bs:List (Nat×aJ)
 again:Bool
structure MS where
 k:Nat
 vs:List Value
 bs:List (Nat×aJ)
theorem lA(l:Nat):(bif l==0 then 0 else 1)=if l=0 then 0 else 1:=by cases l<;>rfl
theorem HE{α:Type}(x y:α)(bs rest:List α):(x::((y::bs)++rest)).Perm ((y::(bs++[x]))++rest):=by
 simp only[TI,By];refine(List.Perm.swap y x _).trans (List.Perm.cons y ?_);have:(x::bs++rest).Perm (bs++x::rest):=U3.symm;simpa using this
theorem NO{α:Type}(vs:List α)(k:Nat)(z x:α)(hk:0<k):(vs++List.replicate k z).set vs.length x=(vs++[x])++List.replicate (k-1) z:=by
 obtain⟨k,rfl⟩:∃g,k=g+1:=⟨k-1,by omega⟩;rw[V6 _ _ (mc _),Ua,List.replicate_succ,U7];simp
theorem JK(F:aA)(hL:Laid F)(g:aj)(hg:Valid g){a:Option Addr}{m c:Nat}(hr:bk cD F a m c g.rules){b:Option Addr}{n d:Nat}{w:List Nat}(hw:bk eV F b n d w)(br:w.length<=30) :
  Abs.Spec CC 38 [.agg ⟨ai g a m c⟩,.slice b n d] F [] λF' v o=>o=[]/\∃a c E,v=.slice a g.ay c/\bk (bz Dh) F' a g.ay c E/\gN g w E:=by
 unfold ai;have bt:=hr.len;have af:=hw.len;have c2:=hg.range.rules;have c3:=hg.range.ay;refine Abs.Spec.fn (n:=73) Tryz.func38 rfl rfl λown=>?_;refine AW.seq (AW.fp ?_);refine WT.bN Z Z Z Z Z Z (λi2 c4=>?_);refine aq ?_;refine WT.oH (l:=g.ay) hT Z Z Z Z Z Z Z Z Z Z Z Z fj (λio c5=>?_);rw[lA];refine aq ?_;refine AW.range (S:=MS) (λ_=>[]) (λs=>((io,.cells false (s.vs++List.replicate s.k (.slice none 0 0)))::s.bs)::[(i2,.cells false [.int .i64 g.ae,.int .i64 g.ay,.int .i64 g.start,.slice a m c])]::own) (λj s G=>s.k=g.ay-j/\Abs.Rows CZ s.vs s.bs (List.replicate j (List.replicate (w.length+1) 0))) g.ay ⟨g.ay,[],[]⟩ Z Z Z Z Z Z Z Z Z zo rfl rfl (λ_=>rfl) (λ_=>rfl) sM (ah.flat (sh _)) ⟨rfl,Abs.Rows.nil⟩ ?_ ?_;{intro j s F1 ao hj hP;obtain⟨hk,I⟩:=hP;have a7:=I.len.1;rw[TU] at a7;refine aq ?_;refine WT.oH (l:=n+1) hT Z Z Z Z Z Z Z Z Z Z Z Z fj (λir c7=>?_);rw[lA];refine WT.cH (j:=j) (s:=1) hT Z Z Z Z Z Z Z Z Z hj (WT.storeAt hT 1 0 Z Z Z Z Z Z Z Z Z Z (by simp;omega) Z Z (aq ?_));refine⟨⟨g.ay-(j+1),s.vs++[.slice (some ⟨ir,0,none⟩) (n+1) (if n+1=0 then 0 else 1)],s.bs++[(ir,.cells false (List.replicate (n+1) (.int .u32 0)))]⟩,sM,ah.flat ?_,rfl,?_⟩;{dsimp only;rw[show 0+j*1=s.vs.length by omega,NO _ _ _ _ zo,show s.k-1=g.ay-(j+1) by omega];simp only[TF];exact HE _ _ _ _};{rw[show List.replicate (j+1) (List.replicate (w.length+1) 0)=List.replicate j (List.replicate (w.length+1) 0)++[List.replicate (w.length+1) 0] from List.replicate_succ'];have:=I.snoc (K:=CZ) (id:=ir) (row:=List.replicate (w.length+1) 0) (c:=if n+1=0 then 0 else 1) (by simp);rw[TU,U8,<-af] at this;rw[<-af];exact this}};{intro s F1 ao hP;obtain⟨hk,bx⟩:=hP;have a8:s.k=0:=by{omega};have b0:=hr.mono ao;have a9:=hw.mono ao;have b3:=hL.mono ao;have b4:iy g.ay w.length (List.replicate g.ay (List.replicate (w.length+1) 0)):=by{refine⟨by simp,λr hr=>?_,λr hr x hx=>?_⟩;{rw[Ub hr];simp};{rw[Ub hr] at hx;rw[Ub hx];exact Uv _}};have b5:Ck g w (List.replicate g.ay (List.replicate (w.length+1) 0)):=by{rintro n i j ⟨row,x,h1,h2,h3⟩;rw[Ub (gM h1)] at h2;rw[Ub (gM h2)] at h3;simp at h3};refine aq ?_;refine AW.block (AW.ek (S:=ES) (λs=>[(7,.bool s.again)]) (λt=>((io,.cells false (s.vs++List.replicate s.k (.slice none 0 0)))::t.bs)::[(i2,.cells false [.int .i64 g.ae,.int .i64 g.ay,.int .i64 g.start,.slice a m c])]::own) (λt G=>Abs.Rows CZ s.vs t.bs t.E/\iy g.ay w.length t.E/\Ck g w t.E/\(t.again=false->sQ g w t.E)) (λt=>if t.again=true then 1+(g.ay*((w.length+1)*2 ^ (w.length+1))-total t.E) else 0) ⟨_,s.bs,true⟩ sM oR ⟨bx,b4,b5,λh=>(by cases h)⟩ ?_);intro t F2 a2 hP;obtain⟨I,J,hS,hC⟩:=hP;have b6:=b0.mono a2;refine aq ?_;refine AW.cond Z (λh=>?_) (λh=>?_);{refine aq ?_;refine AW.block (aq ?_);refine AW.range (S:=ES) (λs=>[(7,.bool s.again)]) (λt=>((io,.cells false (s.vs++List.replicate s.k (.slice none 0 0)))::t.bs)::[(i2,.cells false [.int .i64 g.ae,.int .i64 g.ay,.int .i64 g.start,.slice a m c])]::own) (λk u G=>Abs.Rows CZ s.vs u.bs u.E/\iy g.ay w.length u.E/\Ck g w u.E/\total t.E<=total u.E/\(u.again=true->total t.E<total u.E)/\(u.again=false->∀r∈g.rules.take k,∀i,i<=w.length->sZ w u.E r i)) m ⟨t.E,t.bs,false⟩ Z Z Z Z Z Z Z Z Z zo rfl rfl (λ_=>rfl) (λ_=>rfl) sM oR ⟨I,J,hS,mc _,λh=>(by cases h),by simp⟩ ?_ ?_;{intro k u F3 ag hk hP;obtain⟨I,J,hS,ac,P,hC⟩:=hP;have b7:=b6.mono ag;refine aq ?_;refine WT.bh hT b7 Z Z Z Z Z Z Z Z Z zo (λr a3 b1 off ro cs lx hb c8 ba=>?_);obtain⟨b2,n2,d2,rfl,b8⟩:=ba;obtain⟨bb,dd,b9⟩:=hg.right r (gM a3);refine aq ?_;refine WT.az hT Z Z Z Z Z Z (λi9 df=>?_);refine aq ?_;refine AW.range (S:=ES) (λs=>[(7,.bool s.again)]) (λt=>[(i9,.cells false [.int .i64 r.left,.slice b2 n2 d2])]::((io,.cells false (s.vs++List.replicate s.k (.slice none 0 0)))::t.bs)::[(i2,.cells false [.int .i64 g.ae,.int .i64 g.ay,.int .i64 g.start,.slice a m c])]::own) (λi u G=>Abs.Rows CZ s.vs u.bs u.E/\iy g.ay w.length u.E/\Ck g w u.E/\total t.E<=total u.E/\(u.again=true->total t.E<total u.E)/\(u.again=false->(∀r∈g.rules.take k,∀i,i<=w.length->sZ w u.E r i)/\∀i',i'<i->sZ w u.E r i')) (n+1) u Z Z Z Z Z Z Z Z Z zo rfl rfl (λ_=>rfl) (λ_=>rfl) sM oR ⟨I,J,hS,ac,P,λh=>⟨hC h,by omega⟩⟩ ?_ ?_;{intro i u F4 av hi hP;obtain⟨I,J,hS,ac,P,hC⟩:=hP;have ca:=((a9.mono a2).mono ag).mono av;have cf:=((b3.mono a2).mono ag).mono av;have ch:=b8.mono av;have U:=J.size;have dq:2 ^ (w.length+1)<=4294967296:=Tt (j:=32) (by decide) zo;obtain⟨row,C⟩:∃row,u.E[r.left]?=some row:=⟨_,gE zo⟩;have bc:=J.row row (gM C);obtain⟨x,hx⟩:∃x,row[i]?=some x:=⟨_,gE zo⟩;have cj:=J.bit row (gM C) x (gM hx);obtain⟨id,cc,cn,ax,ds⟩:=I.at r.left row C;have a7:=I.len.1;have al:(row.map CZ.cell)[0+i*1]?=some (.int .u32 x):=by{rw[AI,Tp,zy,hx];rfl};have a1:(s.vs++List.replicate s.k (Value.slice none 0 0))[0+r.left*1]?=some (.slice (some ⟨id,0,none⟩) row.length cc):=by{rw[AI,Tp,AT zo];exact cn};have an:∀G,(∀i b,(i,b)∈((io,aJ.cells false (s.vs++List.replicate s.k (Value.slice none 0 0)))::u.bs)->G i=some b)->bk (bz Dh) G (some ⟨io,0,none⟩) g.ay (if g.ay=0 then 0 else 1) u.E:=by{intro G a0;have:=Abs.Rows.arr (K:=CZ) (R:=Dh) rfl (λ_ _=>rfl) (F:=G) (o:=io) (c:=if u.E.length=0 then 0 else 1) (ro:=false) I (λi b hm=>a0 i b (mb _ hm)) rfl (by rw[a0 io _ me,a8];simp);rw[U] at this;exact this};refine aq ?_;refine WT.fP 1 Tryz.func72 Z Z Z Z Z Z Z (λG hG a0=>sN G (cf.mono hG) (t:=g.ae) (ca.mono hG) (an G a0) (ch.mono hG) J b9 br zo i zo) (λv hv=>?_);obtain⟨y,rfl,cr,bd⟩:=hv;have ct:x ||| y<2 ^ (w.length+1):=UN cj cr;refine aq ?_;refine WT.cH (j:=r.left) (s:=1) hT Z Z Z Z Z Z Z Z Z bb (WT.loadAt hT 1 Z Z Z Z Z Z me Z Z a1 (aq ?_));refine WT.cH (j:=i) (s:=1) hT Z Z Z Z Z Z Z Z Z zo (WT.loadAt hT 1 Z Z Z Z Z Z (mb _ (gM ax)) Z Z al (WT.pX (x:=y) (y:=x) Z Z Z Z Z Z zo zo (aq ?_)));refine AW.cond Z (λh=>?_) (λh=>?_);{have cv:andNot y x≠0:=by{intro e;rw[e] at h;simp at h};refine aq ?_;refine WT.cH (j:=r.left) (s:=1) hT Z Z Z Z Z Z Z Z Z bb (WT.loadAt hT 1 Z Z Z Z Z Z me Z Z a1 (aq ?_));refine WT.cH (j:=i) (s:=1) hT Z Z Z Z Z Z Z Z Z zo (WT.loadAt hT 1 Z Z Z Z Z Z (mb _ (gM ax)) Z Z al (aq ?_));refine WT.AF (x:=x) (y:=y) Z Z Z Z Z Z zo zo (WT.cH (j:=i) (s:=1) hT Z Z Z Z Z Z Z Z Z zo (WT.storeAt hT 1 (r.left+1) Z Z Z Z Z Z ax Z Z Z (by simp;omega) Z Z (aq ?_)));have cw:x<x ||| y:=by{rcases IN x (x ||| y) with h1 | h1;{exact h1};{exfalso;have h2:x ||| y=x:=Nat.le_antisymm h1 Nat.left_le_or;refine cv ((jX zo zo).2 λj hj=>?_);rw[<-h2,Ui,hj];simp}};have d0:=Jt (y:=x ||| y) C hx cw;refine⟨⟨put u.E r.left i (x ||| y),u.bs.set r.left (id,.cells false ((row.set i (x ||| y)).map CZ.cell)),true⟩,sM,ah.flat ?_,?_,J.put C ct,?_,by dsimp only;omega,λ_=>by dsimp only;omega,λh=>(by cases h)⟩;{rw[T9];rw[show 0+i*1=i by omega];exact sh _};{rw[put_eq C];exact I.set r.left row (row.set i (x ||| y)) id C (by simp) ax};{intro n' i' j' hb';rw[Nk C hx] at hb';split at hb';{rename_i he;obtain⟨rfl,rfl⟩:=he;rw[Ui,T7] at hb';rcases hb' with hb' | hb';{exact hS _ _ _ ⟨row,x,C,hx,hb'⟩};{exact .HM (gM a3) (wD hS ((bd j').1 hb'))}};{exact hS _ _ _ hb'}}};{have he:andNot y x=0:=by{simp at h;omega};(have cx:=(jX zo zo).1 he;refine aq ?_;refine⟨u,sM,cF,I,J,hS,ac,P,λh=>⟨(hC h).1,λi' d3=>?_⟩⟩;rcases IN i' i with h3 | h3);{exact(hC h).2 i' h3};{have:i'=i:=by{omega};subst this;intro j hj;exact⟨row,x,C,hx,cx j ((bd j).2 hj)⟩}}};{intro u F4 av hP;obtain⟨I,J,hS,ac,P,hC⟩:=hP;refine⟨u,sM,cF,I,J,hS,ac,P,λh=>mP a3 (hC h).1 λi hi=>(hC h).2 i zo⟩}};{intro u F3 ag hP;obtain⟨I,J,hS,ac,P,hC⟩:=hP;rw[qs zo] at hC;refine⟨u,?_,sM,cF,I,J,hS,hC⟩;have:=LN J;rw[h,n0 rfl];split;{rename_i h4;have:=P h4;omega};{omega}}};{refine AW.exit (AW.aw 0 Z Z (λF3 ag bf=>?_));have an:bk (bz Dh) F3 (some ⟨io,0,none⟩) g.ay (if g.ay=0 then 0 else 1) t.E:=by{have U:=J.size;have:=Abs.Rows.arr (K:=CZ) (R:=Dh) rfl (λ_ _=>rfl) (F:=F3) (o:=io) (c:=if t.E.length=0 then 0 else 1) (ro:=false) I (λi b hm=>bf i b (mb _ hm)) rfl (by rw[bf io _ me,a8];simp);rw[U] at this;exact this};refine aq ?_;exact AW.ret ⟨_,[],⟨_,_,rfl,rfl,rfl⟩,bF,rfl,_,_,t.E,rfl,an,gN.of J hS (hC h)⟩}}
theorem u0(x p:Nat):(x / 2 ^ p &&& 1)=if x.testBit p=true then 1 else 0:=by
 rw[Nat.and_one_is_mod,<-Nat.shiftRight_eq_div_pow];have:=Nat.testBit_eq_decide_div_mod_eq (x:=x) (i:=p);rw[Nat.shiftRight_eq_div_pow];rw[this];simp only[TQ];rcases Nat.mod_two_eq_zero_or_one (x / 2 ^ p) with h | h<;>simp[h]
noncomputable def IV(g:aj)(w:List Nat)(n i j:Nat):Bool:=@decide (vu g w ⟨false,n⟩ i j) (Classical.propDecidable _)
structure NS where
 xs:List Nat
 a:Option Addr
 m:Nat
 c:Nat
 B:List (Nat×aJ)
theorem OH{g:aj}{w:List Nat}:∀{s:Sym} {i j:Nat},vu g w s i j->i<=j:=by
 intro s i j h;refine vu.rec (motive_1:=λs i j _=>i<=j) (motive_2:=λl i j _=>i<=j) ?_ ?_ ?_ ?_ h;{intro t i _;omega};{intro r i j _ _ o;exact o};{intro i;omega};{intro s l i m j _ _ p C;omega}
theorem IF{g:aj}{w:List Nat}:∀{l:List Sym} {i j:Nat},v7 g w l i j->i<=j
 | [],i,j,h=>by rw[Lg.1 h];omega
 | s::l,i,j,h=>by{obtain⟨m,h1,o⟩:=Ki.1 h;have:=OH h1;have:=IF o;omega}
structure Item where
 aB:Nat
 dot:Nat
 fJ:Nat
deriving DecidableEq
def zY(rs:List bY)(x:Item):Option Sym:=(rs[x.aB]?).bind λr=>r.right[x.dot]?
def HH(rs:List bY)(k:Nat)(x:Item):Prop:=∃r,rs[x.aB]?=some r/\x.dot<=r.right.length/\x.fJ<=k
def EH(x:Item):Item:=⟨x.aB,x.dot+1,x.fJ⟩
def GA(rs:List bY)(L:Nat->List Item)(k:Nat)(x:Item):Prop:=
 (∀n i r,zY rs x=some ⟨false,n⟩->rs[i]?=some r->r.left=n->(⟨i,0,k⟩:Item)∈L k)/\
 (∀r,rs[x.aB]?=some r->x.dot=r.right.length->∀y∈L x.fJ,zY rs y=some ⟨false,r.left⟩->EH y∈L k)
structure OP(g:aj)(v:List Nat)(L:Nat->List Item):Prop where
 ok:∀k,k<=v.length->∀x∈L k,HH g.rules k x
 start:∀i r,g.rules[i]?=some r->r.left=g.start->(⟨i,0,0⟩:Item)∈L 0
 closed:∀k,k<=v.length->∀x∈L k,GA g.rules L k x
 scan:∀k t,v[k]?=some t->∀x∈L k,zY g.rules x=some ⟨true,t⟩->EH x∈L (k+1)
def HP(g:aj)(E:List Bool):Prop:=∀r∈g.rules,(∀y∈r.right,y.term=true\/E[y.n]?=some true)->E[r.left]?=some true
def O4(E:List Bool)(r:bY):Bool:=!(r.right.any λy=>!y.term&&!(E.getD y.n false))
def trimmed(E:List Bool)(g:aj):aj:={ g with rules:=g.rules.filter (O4 E) }
def M6(g:aj)(n:Nat):Prop:=∃w,vu g w ⟨false,n⟩ 0 w.length
structure Ma(g:aj)(E:List Bool):Prop where
 len:E.length=g.ay
 closed:HP g E
 sound:∀n,E[n]?=some true->M6 g n
theorem Mp{α:Type}(x a b c:α)(l:List α):(x::a::b::c::l).Perm (a::b::c::x::l):=(U3 (l₁:=[a,b,c])).symm
def KV:Ty Item where
 size:=3
 rel:=λ_ l x=>l=[.int .i64 x.aB,.int .i64 x.dot,.int .i64 x.fJ]
 len:=λ_ _ _ h=>by rw[h];rfl
 one:=λ_ _ _ h=>by rw[h];rfl
 mono:=λ_ _ _ _ _ h=>h
theorem mD(F:aA){a:Option Addr}{m c:Nat}{xs:List Sym}(g:bk gR F a m c xs)(hm:m<=1000000) :
  Abs.Spec CC 74 [.slice a m c] F [] λJ v o=>∃i,o=[i]/\∃j l,v=.slice j m l/\mn gR J j m l i xs:=by
 refine Abs.Spec.fn (n:=8) Tryz.func74 rfl rfl λown=>?_;refine aq ?_;refine WT.nj hT Z Z Z Z Z Z Z Z (aq ?_);refine AW.cond Z (λh=>?_) (λh=>?_);{obtain rfl:a=none:=by{simpa using h};obtain⟨rfl,rfl⟩:=g.nil rfl;obtain rfl:xs=[]:=BY g.len.symm;refine aq ?_;refine AW.le (own2:=[]::own) (ah.flat (sh _)) (AW.ret ⟨_,[[]],⟨_,_,rfl,rfl,rfl⟩,bF,_,rfl,_,_,rfl,(cb.cK _ _).vec⟩)};{refine aq ?_;refine WT.aR hT Z Z Z Z Z Z Z Z Z Z Z Z Z Z (λi5 P=>?_);refine aq ?_;obtain⟨ds,r,C⟩:=nE hT g (t:=88) rfl rfl 101;refine WT.tL hT Z Z Z Z Z Z Z Z Z Z Z Z (λR U=>r _ R U) C g.len (by decide) fj (λj l i I _=>?_);refine aq ?_;refine AW.le (ah.cons _ (ah.skip _ oR)) (AW.ret ⟨_,[_],⟨_,_,rfl,rfl,rfl⟩,bF,_,rfl,_,_,rfl,I⟩)}
theorem nT(F:aA)(n:Int):Abs.Spec CC 29 [.int .i64 n] F [] λ_ v o=>o=[]/\v=.agg ⟨[.bool false,.int .i64 n]⟩:=by
 refine Abs.Spec.fn (n:=5) Tryz.func29 rfl rfl λown=>?_;refine AW.seq (AW.fp ?_);refine WT.az hT Z Z Z Z Z Z (λi2 g=>?_);refine aq ?_;exact AW.ret ⟨_,[],⟨_,_,⟨_,rfl,λG j i=>aD (i.has (p:=0) rfl me) (aM hT rfl)⟩,rfl,rfl⟩,bF,rfl,rfl⟩
theorem ND(F:aA)(n:Int):Abs.Spec CC 121 [.int .i64 n] F [] λ_ v o=>o=[]/\v=.agg ⟨[.bool true,.int .i64 n]⟩:=by
 refine Abs.Spec.fn (n:=5) Tryz.func121 rfl rfl λown=>?_;refine AW.seq (AW.fp ?_);refine WT.az hT Z Z Z Z Z Z (λi2 g=>?_);refine aq ?_;exact AW.ret ⟨_,[],⟨_,_,⟨_,rfl,λG j i=>aD (i.has (p:=0) rfl me) (aM hT rfl)⟩,rfl,rfl⟩,bF,rfl,rfl⟩
structure CS where
 j:Nat
 a:Option Addr
 c:Nat
 B:List (Nat×aJ)
theorem JY(F:aA)(g:aj){a:Option Addr}{m c:Nat}(hr:bk cD F a m c g.rules)(hm:m<=1000000)(ab:∀r∈g.rules,r.right.length<=1000000) :
  Abs.Spec CC 40 [.agg ⟨ai g a m c⟩] F [] λF' v o=>∃B',o=[B']/\∃a' c',v=.agg ⟨ai g a' m c'⟩/\cb cD F' a' m c' B' g.rules:=by
 unfold ai;have l:=hr.len;refine Abs.Spec.fn (n:=28) Tryz.func40 rfl rfl λown=>?_;refine AW.seq (AW.fp ?_);refine WT.bN Z Z Z Z Z Z (λi1 a4=>?_);refine WT.az hT Z Z Z Z Z Z (λi2 a5=>?_);refine aq ?_;refine WT.az hT Z Z Z Z Z Z (λi3 a6=>?_);refine aq ?_;refine AW.range (S:=CS) (λ_=>[]) (λs=>s.B::[(i3,.cells false [.int .i64 g.ae,.int .i64 g.ay,.int .i64 g.start,.slice s.a (g.rules.take s.j).length s.c])]::[(i2,.cells false [.int .i64 0,.int .i64 0,.int .i64 0,.slice none 0 0])]::[(i1,.cells false [.int .i64 g.ae,.int .i64 g.ay,.int .i64 g.start,.slice a m c])]::own) (λj s G=>s.j=j/\cb cD G s.a (g.rules.take s.j).length s.c s.B (g.rules.take s.j)) m ⟨0,none,0,[]⟩ Z Z Z Z Z Z Z Z Z zo rfl rfl (λ_=>rfl) (λ_=>rfl) sM (ah.flat (sh _)) ⟨rfl,by simpa using cb.cK _ _⟩ ?_ ?_;{intro j s F1 t hj hP;obtain⟨rfl,hb⟩:=hP;have ad:=hr.mono t;refine gz ?_;refine WT.bh hT ad Z Z Z Z Z Z Z Z Z zo (λr C b off ro cs lx a8 a9 I=>?_);obtain⟨ra,rn,rc,rfl,J⟩:=I;have a1:=J.len;have ba:=ab r (gM C);refine gz ?_;refine WT.az hT Z Z Z Z Z Z (λi5 bb=>?_);refine gz ?_;refine AW.draw (ps:=[(1,6),(1,8),(3,6)]) Z Z (gz ?_);refine WT.jY Tryz.func74 Z Z Z Z Z Z (mD _ J zo) (λF2 v B2 af hv=>?_);obtain⟨ca,cc,rfl,ag⟩:=hv;refine WT.aw 0 Z Z (λF3 P i=>?_);have al:=ag.arr P i;have an:=(hb.mono af).mono P;refine gz ?_;refine WT.aR hT Z Z Z Z Z Z Z Z Z Z Z Z Z Z (λi9 bd=>?_);have bf:(g.rules.take s.j).length<=1000000:=by{simp;omega};refine WT.aZ (ys:=[r]) hT 3 an Z (λ_=>rfl) Z Z Z Z Z Z Z Z Z Z Z (λh0 s0=>aN hT s0 0 Z Z Z Z) (aG.single (R:=cD) (x:=r) ⟨_,_,_,rfl,al⟩) Z (by decide) fj (λa3 c3 B3 i=>?_);have he:g.rules.take (s.j+1)=g.rules.take s.j++[r]:=by{rw[yo,C];rfl};have U:(g.rules.take (s.j+1)).length=(g.rules.take s.j).length+1:=by{rw[he];simp};rw[<-he,<-U] at i;rw[<-U];refine gz ?_;refine⟨lU,?_⟩;exact⟨⟨s.j+1,a3,c3,B3⟩,sM,cF,rfl,i⟩};{intro s F1 t hP;obtain⟨rfl,hb⟩:=hP;rw[qs zo,<-l] at hb;rw[qs zo,<-l];refine gz ?_;refine AW.perm (Mp _ _ _ _ _) (AW.ret ⟨_,[_],⟨_,_,⟨_,rfl,λG h0 s0=>aD (s0.has (p:=1) Z me) (aM hT rfl)⟩,rfl,rfl⟩,bF,_,rfl,_,_,rfl,?_⟩);exact hb}
structure gh where
 aB:Nat
 kids:List Key
deriving DecidableEq
def vB:Ty Key where
 size:=4
 rel:=λ_ l x=>l=[.bool x.sym.term,.int .i64 x.sym.n,.int .i64 x.fJ,.int .i64 x.to]
 len:=λ_ _ _ h=>by rw[h];rfl
 one:=λ_ _ _ h=>by rw[h];rfl
 mono:=λ_ _ _ _ _ h=>h
def rP:Ty gh where
 size:=2
 rel:=λF l x=>∃a n c,l=[.int .i64 x.aB,.slice a n c]/\bk vB F a n c x.kids
 len:=λ_ _ _ h=>by obtain⟨a,n,c,rfl,_⟩:=h;rfl
 one:=λ_ _ _ h=>by obtain⟨a,n,c,rfl,_⟩:=h;rfl
 mono:=λ_ _ _ _ g h=>by obtain⟨a,n,c,e,h⟩:=h;exact⟨a,n,c,e,h.mono g⟩
def fZ(w:List Nat)(E:List (List Nat))(s:Sym)(i j:Nat):Bool:=
 if s.term=true then decide (w[i]?=some s.n/\j=i+1)
 else match E[s.n]? with
  | some row=>match row[i]? with
   | some x=>x.testBit j
   | none=>false
  | none=>false
theorem mQ{w:List Nat}{E:List (List Nat)}{s:Sym}{i j:Nat}:fZ w E s i j=true↔Step w E s i j:=by
 unfold fZ Step;split;{simp};{split;{rename_i row h1;split;{rename_i x o;refine⟨λh=>⟨row,x,h1,o,h⟩,?_⟩;rintro⟨row',x',g,l,p⟩;rw[h1] at g;cases g;rw[o] at l;cases l;exact p};{rename_i o;refine⟨λh=>(by cases h),?_⟩;rintro⟨row',x',g,l,p⟩;rw[h1] at g;cases g;rw[o] at l;cases l}};{rename_i h1;refine⟨λh=>(by cases h),?_⟩;rintro⟨row',x',g,l,p⟩;rw[h1] at g;cases g}}
def splits(w:List Nat)(E:List (List Nat))(to:Nat):List Sym->Nat->List (List Key)
 | [],i=>if i=to then [[]] else []
 | s::l,i=>(List.range (to+1)).flatMap λm=>if fZ w E s i m=true then (splits w E to l m).map (⟨s,i,m⟩::·) else []
theorem uD{w:List Nat}{E:List (List Nat)}{to:Nat}:∀{l:List Sym} {i:Nat},splits w E to l i≠[]->Reads w E l i to
 | [],i,h=>by{unfold splits at h;split at h;{assumption};{exact absurd rfl h}}
 | s::l,i,h=>by{unfold splits at h;obtain⟨x,g⟩:=List.exists_mem_of_ne_nil _ h;obtain⟨m,_,hm⟩:=Up.1 g;split at hm;{rename_i hs;refine⟨m,mQ.1 hs,uD λe=>?_⟩;rw[e] at hm;cases hm};{cases hm}}
theorem oY{α β:Type}(f:α->List β)(b:Nat):∀(l:List α),(∀x∈l,(f x).length<=b)->(l.flatMap f).length<=l.length*b
 | [],_=>by simp
 | a::l,h=>by{have:=oY f b l λx g=>h x (mb _ g);have i:=h a me;rw[Ur,sj,IT,TO,Uu];omega}
theorem sf{w:List Nat}{E:List (List Nat)}{to:Nat}:∀{l:List Sym} {i:Nat},(splits w E to l i).length<=(to+1) ^ l.length
 | [],i=>by unfold splits;split<;>simp
 | s::l,i=>by{unfold splits;have h:=oY (λm=>if fZ w E s i m=true then (splits w E to l m).map (⟨s,i,m⟩::·) else []) ((to+1) ^ l.length) (List.range (to+1)) λm _=>by{split;{rw[tj];exact sf};{exact If _}};rw[T3] at h;rw[IT,We,Nat.mul_comm];exact h}
theorem ml{w:List Nat}{E:List (List Nat)}{to:Nat}:∀{l:List Sym} {i:Nat} {ks:List Key},ks∈splits w E to l i->ks.length=l.length
 | [],i,ks,h=>by{unfold splits at h;split at h;{rw[ti.1 h];rfl};{cases h}}
 | s::l,i,ks,h=>by{unfold splits at h;obtain⟨m,_,hm⟩:=Up.1 h;split at hm;{obtain⟨g,j,rfl⟩:=x6.1 hm;simp[ml j]};{cases hm}}
def db(g:aj)(w:List Nat)(E:List (List Nat))(k:Key)(i:Nat):List gh:=match g.rules[i]? with
 | some r=>if r.left=k.sym.n/\k.sym.term=false then (splits w E k.to r.right k.fJ).map (gh.mk i) else []
 | none=>[]
def bT(g:aj)(w:List Nat)(E:List (List Nat))(k:Key):List gh:=(List.range g.rules.length).flatMap (db g w E k)
theorem rE(F:aA){a:Option Addr}{m c:Nat}{xs:List Key}(g:bk vB F a m c xs)(hm:m<=1000000) :
  Abs.Spec CC 142 [.slice a m c] F [] λP v o=>∃j,o=[j]/\∃l i,v=.slice l m i/\mn vB P l m i j xs/\(xs=[]->i=0):=by
 refine Abs.Spec.fn (n:=8) Tryz.func142 rfl rfl λown=>?_;refine aq ?_;refine WT.nj hT Z Z Z Z Z Z Z Z (aq ?_);refine AW.cond Z (λh=>?_) (λh=>?_);{obtain rfl:a=none:=by{simpa using h};obtain⟨rfl,rfl⟩:=g.nil rfl;obtain rfl:xs=[]:=BY g.len.symm;refine aq ?_;refine AW.le (own2:=[]::own) (ah.flat (sh _)) (AW.ret ⟨_,[[]],⟨_,_,rfl,rfl,rfl⟩,bF,_,rfl,_,_,rfl,(cb.cK _ _).vec,λ_=>rfl⟩)};{refine aq ?_;refine WT.aR hT Z Z Z Z Z Z Z Z Z Z Z Z Z Z (λi5 R=>?_);refine aq ?_;obtain⟨ds,r,C⟩:=nE hT g (t:=245) rfl rfl 243;refine WT.Lu hT Z Z Z Z Z Z Z Z Z Z Z Z (λU s0=>r _ U s0) C g.len (by decide) fj (λl i j I J=>?_);refine aq ?_;refine AW.le (ah.cons _ (ah.skip _ oR)) (AW.ret ⟨_,[_],⟨_,_,rfl,rfl,rfl⟩,bF,_,rfl,_,_,rfl,I,J⟩)}
structure I2(F:aA)(i3 i4 i5 i6 i7 i8:Nat)(k:Key)(aB:Nat)(b:Option Addr)(n d:Nat)(a:Option Addr)(m c:Nat):Prop where
 hk:F i3=some (.cells false [.bool k.sym.term,.int .i64 k.sym.n,.int .i64 k.fJ,.int .i64 k.to])
 hi:F i5=some (.cells false [.int .i64 aB])
 hw:F i6=some (.cells false [.slice b n d])
 he:F i7=some (.cells false [.slice a m c])
 self:F i8=some (.cells false [.func (.func 141) ⟨[]⟩ ⟨[.pointer (some ⟨i3,0,none⟩),.pointer (some ⟨i4,0,none⟩),.pointer (some ⟨i5,0,none⟩),.pointer (some ⟨i6,0,none⟩),.pointer (some ⟨i7,0,none⟩),.pointer (some ⟨i8,0,none⟩)]⟩])
theorem I2.mono{F G:aA}{i3 i4 i5 i6 i7 i8:Nat}{k:Key}{aB:Nat}{b:Option Addr}{n d:Nat}{a:Option Addr}{m c:Nat}(h:I2 F i3 i4 i5 i6 i7 i8 k aB b n d a m c)(g:aA.le F G):I2 G i3 i4 i5 i6 i7 i8 k aB b n d a m c:=
 ⟨g _ _ h.hk,g _ _ h.hi,g _ _ h.hw,g _ _ h.he,g _ _ h.self⟩
def Kf(F:aA)(i4:Nat)(B:List (Nat×aJ))(outs:List gh):Prop:=∃a n c g,B=(i4,.cells false [.slice a n c])::g/\cb rP F a n c g outs
theorem Kf.mono{F G:aA}{i4:Nat}{B:List (Nat×aJ)}{outs:List gh}(h:Kf F i4 B outs)(g:aA.le F G):Kf G i4 B outs:=by
 obtain⟨a,n,c,i,h1,j⟩:=h;exact⟨a,n,c,i,h1,j.mono g⟩
theorem rO{α:Type}(f:Nat->List α){p q:Nat}(g:p<=q)(h:∀m,p<=m->m<q->f m=[]):(List.range q).flatMap f=(List.range p).flatMap f:=by
 induction q with| zero =>{obtain rfl : p = 0 := by{omega};rfl}| succ q i=>{rcases IN q p with h2 | h2;{obtain rfl:p=q+1:=by{omega};rfl};{rw[Uk,VH,i h2 λm j l=>h m j zo];simp[h q h2 zo]}}
theorem HC{α:Type}(f:Nat->List α){p q:Nat}(g:p<=q)(h:∀m,p<=m->m<q->f m=[]):(List.range (q+1)).flatMap f=(List.range p).flatMap f++f q:=by
 rw[Uk,VH,rO f g h];simp
structure WS where
 u:Nat
 B:List (Nat×aJ)
def jr(w:List Nat)(E:List (List Nat))(k:Key)(aB:Nat)(kids:List Key)(s:Sym)(i:Nat)(l:List Sym)(m:Nat):List gh:=
 if fZ w E s i m=true then (splits w E k.to l m).map (λks=>⟨aB,(kids++[⟨s,i,m⟩])++ks⟩) else []
theorem Ju(w:List Nat)(E:List (List Nat))(k:Key)(aB:Nat)(kids:List Key)(s:Sym)(i:Nat)(l:List Sym) :
  (splits w E k.to (s::l) i).map (λks=>(⟨aB,kids++ks⟩:gh))=(List.range (k.to+1)).flatMap (jr w E k aB kids s i l):=by
 unfold splits;rw[List.map_flatMap];congr 1;funext m;unfold jr;split;{rw[Us];apply Uc;intro ks _;simp};{rfl}
theorem Kn{α:Type}(f:Nat->List α){p q:Nat}(h:p<=q):((List.range p).flatMap f).length<=((List.range q).flatMap f).length:=by
 induction q with| zero =>{obtain rfl : p = 0 := by{omega};exact mc _}| succ q g=>{rcases IN q p with h2 | h2;{obtain rfl:p=q+1:=by{omega};exact mc _};{rw[Uk,VH,sj];have:=g h2;omega}}
theorem JL{i3 i4 i5 i6 i7 i8:Nat}{k:Key}{aB:Nat}{b:Option Addr}{n d:Nat}{a:Option Addr}{m c:Nat}{w:List Nat}{E:List (List Nat)}{t ay:Nat}(bi:iy ay w.length E)(bn:w.length<=30)(d6:k.to<=30) :
  ∀(l:List Sym) (F:aA) (hL:Laid F) (hC:I2 F i3 i4 i5 i6 i7 i8 k aB b n d a m c) (hw:bk eV F b n d w) (hE:bk (bz Dh) F a m c E)
   {la:Option Addr} {ln lc:Nat} (hl:bk gR F la ln lc l) (ad:∀y∈l,cP t ay y) (from_:Nat) (J:from_<=w.length) {ka:Option Addr} {kn kc:Nat} {kids:List Key} (i:bk vB F ka kn kc kids) (hlen:kids.length+l.length<=4)
   {B:List (Nat×aJ)} {outs:List gh} (hB:Kf F i4 B outs) (aa:outs.length+(splits w E k.to l from_).length<=1000000000),
  Abs.Spec CC 141 [.slice la ln lc,.int .i64 from_,.slice ka kn kc,.pointer (some ⟨i3,0,none⟩),.pointer (some ⟨i4,0,none⟩),.pointer (some ⟨i5,0,none⟩),.pointer (some ⟨i6,0,none⟩),.pointer (some ⟨i7,0,none⟩),.pointer (some ⟨i8,0,none⟩)] F [B]
   λF' v o=>∃B',o=[B']/\Kf F' i4 B' (outs++(splits w E k.to l from_).map λks=>⟨aB,kids++ks⟩):=by
 intro l;induction l with| nil=>{intro F hL hC hw hE la ln lc hl ad from_ J ka kn kc kids i hlen B outs hB aa;obtain⟨oa,on,oc,OB,rfl,hO⟩:=hB;obtain⟨h3,h5,h6,h7,h8⟩:=hC;have a5:=hl.len;have a6:ln=0:=by{simpa using a5};subst a6;have cr:=i.len;refine Abs.Spec.fn (n:=71) Tryz.func141 rfl rfl λown=>?_;refine AW.le (own2:=[(i4,.cells false [.slice oa on oc])]::OB::own) (ah.flat (sh _)) (aq ?_);refine AW.cond Z (λ_=>?_) (λh=>(by cases h));refine aq ?_;have ar:splits w E k.to [] from_=if from_=k.to then [[]] else []:=rfl;refine AW.cond Z (λh=>?_) (λh=>?_);{have h:from_=k.to:=by{simp at h;omega};rw[ar,n0 h] at aa ⊢;have ec:=hO.len;refine AW.draw (ps:=[(0,3),(0,5),(1,3)]) Z Z (aq ?_);refine WT.jY Tryz.func142 Z Z Z Z Z Z (rE _ i zo) (λF2 v B2 P hv=>?_);obtain⟨ca,cc,rfl,a7,_⟩:=hv;refine WT.aw 0 Z Z (λF3 ab a8=>?_);have cs:=a7.arr ab a8;have ct:=(hO.mono P).mono ab;refine aq ?_;refine WT.aR hT Z Z Z Z Z Z Z Z Z Z Z Z Z Z (λi9 cv=>?_);refine WT.aZ (ys:=[(⟨aB,kids⟩:gh)]) hT 3 ct Z (λ_=>rfl) Z Z Z Z Z Z Z Z Z Z Z (λh0 s0=>aN hT s0 0 Z Z Z Z) (aG.single (R:=rP) (x:=⟨aB,kids⟩) ⟨_,_,_,rfl,cs⟩) Z (by decide) fj (λa3 c3 B3 a8=>?_);refine aq ?_;refine⟨lU,?_⟩;refine AW.le (own2:=((i4,.cells false [.slice a3 (on+1) c3])::B3)::own) (ah.skip _ (ah.skip _ (ah.flat (sh _)))) (AW.ret ⟨_,[_],rfl,bF,_,rfl,_,_,_,B3,rfl,?_⟩);simpa using a8};{have h:from_≠k.to:=by{intro e;simp at h;omega};rw[ar,nw h];refine aq ?_;refine AW.le (own2:=((i4,.cells false [.slice oa on oc])::OB)::own) (ah.flat (sh _)) (AW.ret ⟨_,[_],rfl,bF,_,rfl,oa,on,oc,OB,rfl,?_⟩);simpa using hO}}| cons s l ih=>{intro F hL hC hw hE la ln lc hl ad from_ J ka kn kc kids i hlen B outs hB aa;obtain⟨oa,on,oc,OB,rfl,hO⟩:=hB;obtain⟨h3,h5,h6,h7,h8⟩:=id hC;have a5:=hl.len;have a6:ln=l.length+1:=by{simpa using a5};subst a6;have cr:=i.len;have eo:2 ^ (w.length+1)<=4294967296:=Tt (j:=32) (by decide) zo;have ep:(s::l).length=l.length+1:=rfl;refine Abs.Spec.fn (n:=71) Tryz.func141 rfl rfl λown=>?_;refine AW.le (own2:=[(i4,.cells false [.slice oa on oc])]::OB::own) (ah.flat (sh _)) (aq ?_);refine AW.cond Z (λh=>(by simp at h;omega)) (λ_=>?_);refine aq ?_;refine AW.draw (ps:=[(6,4)]) Z Z (aq ?_);refine WT.bj Tryz.func72 Z Z Z Z Z Z (sN _ hL hw hE hl bi ad bn zo from_ J) (λv hv=>?_);obtain⟨r,rfl,es,c1⟩:=hv;refine aq ?_;refine WT.Iv (x:=r) (y:=k.to) Z Z Z Z Z Z zo (WT.oI (x:=r / 2 ^ k.to) (y:=1) Z Z Z Z Z Z (VL (Wd _ _) zo) (by decide) ?_);rw[u0];refine aq ?_;refine⟨lU,?_⟩;refine AW.cond Z (λh=>?_) (λh=>?_);{have c2:¬Reads w E (s::l) from_ k.to:=by{intro hR;rw[<-c1] at hR;rw[hR] at h;simp at h};have ar:splits w E k.to (s::l) from_=[]:=Classical.byContradiction λbt=>c2 (uD bt);rw[ar];refine AW.le (own2:=((i4,.cells false [.slice oa on oc])::OB)::own) (ah.flat (sh _)) (AW.ret ⟨_,[_],rfl,bF,_,rfl,oa,on,oc,OB,rfl,?_⟩);simpa using hO};{obtain⟨sa,sc,c5,a9⟩:=hl.slice (C:=CC) (lo:=0) (hi:=1) (If _) zo hT (t:=88) Z Z Z none (some (.int .i64 1)) rfl rfl;refine aq ?_;refine WT.slice Z Z Z Z Z Z Z Z c5 (aq ?_);have a9:bk gR F sa 1 sc [s]:=a9;refine WT.bj Tryz.func72 Z Z Z Z Z Z (sN _ hL hw hE a9 bi (λy hy=>ad y (by rw[ti.1 hy];exact D2 ..)) bn (by simp) from_ J) (λv hv=>?_);obtain⟨x,rfl,c7,c8⟩:=hv;have ba:∀j,x.testBit j=fZ w E s from_ j:=λj=>by{rw[T8,c8,mQ];simp[Reads]};have ax:(splits w E k.to (s::l) from_).map (λks=>(⟨aB,kids++ks⟩:gh))=(List.range (k.to+1)).flatMap (jr w E k aB kids s from_ l):=Ju ..;have bb:(splits w E k.to (s::l) from_).length=((List.range (k.to+1)).flatMap (jr w E k aB kids s from_ l)).length:=by{rw[<-ax,tj]};rw[ax];rw[bb] at aa;refine aq ?_;refine AW.block (AW.ek (S:=WS) (λs=>[(12,.int .u32 (s.u:Nat))]) (λs=>s.B::own) (λu G=>u.u<2 ^ (w.length+1)/\∃p,(∀j,u.u.testBit j=(decide (p<=j)&&x.testBit j))/\Kf G i4 u.B (outs++(List.range (min p (k.to+1))).flatMap (jr w E k aB kids s from_ l))) (λs=>s.u) ⟨x,(i4,.cells false [.slice oa on oc])::OB⟩ sM (ah.flat (sh _)) ⟨c7,0,λj=>by simp,?_⟩ ?_);{rw[Nat.zero_min];simp only[List.range_zero,List.flatMap_nil,Tx];exact⟨oa,on,oc,OB,rfl,hO⟩};{intro u F2 P hP;obtain⟨u,UB⟩:=u;obtain⟨bv,p,U,hU⟩:=hP;dsimp only at bv U hU;have bx:=hL.mono P;have b0:=hC.mono P;have c9:=hw.mono P;have dd:=hE.mono P;have b1:=hl.mono P;have av:=i.mono P;obtain⟨g3,g5,g6,g7,g8⟩:=id b0;refine aq ?_;refine AW.cond Z (λh=>?_) (λh=>?_);{have bt:u≠0:=by{intro e;subst e;simp at h};obtain⟨g,q,rfl,ex⟩:=zU (w.length+1) u zo bv;have b2:p<=g:=by{have:=U g;rw[oy] at this;simp at this;exact this.1};have df:x.testBit g=true:=by{have:=U g;rw[oy] at this;simp at this;exact this.2};have a0:∀m,p<=m->m<g->jr w E k aB kids s from_ l m=[]:=by{intro m h1 h2;have:=U m;rw[oy,n0 h2] at this;simp[h1] at this;unfold jr;rw[<-ba,this];simp};have hle:2 ^ g*(2*q+1) &&& (2 ^ g*(2*q+1)-1)<=2 ^ g*(2*q+1)-1:=Nat.and_le_right;have af:∀j,(2 ^ g*(2*q+1) &&& (2 ^ g*(2*q+1)-1)).testBit j=(decide (g+1<=j)&&x.testBit j):=by{intro j;rw[tJ,U];by_cases h1:j=g;{have h3:¬j+1<=j:=by{omega};subst h1;simp[h3]};{by_cases h2:p<=j;{by_cases h3:g+1<=j;{simp[h1,h2,h3]};{have:=U j;rw[oy,n0 zo] at this;simp[h2] at this;simp[this]}};{have h3:¬g+1<=j:=by{omega};simp[h2,h3]}}};refine aq ?_;refine AW.block (aq ?_);refine WT.bj Tryz.func113 Z Z Z Z Z Z (Il _ bx g q zo) (λv hv=>?_);subst hv;refine aq ?_;refine AW.cond Z (λh2=>?_) (λh2=>?_);{have h2:g<=k.to:=by{simp at h2;omega};obtain⟨lb,lo,ey,lcs,ll,rfl,dk,dq,dr⟩:=b1.el 0 s rfl;obtain rfl:ll=_:=dr;have ds:=b1.slice (C:=CC) (lo:=1) (hi:=l.length+1) zo (mc _) hT (t:=88) Z Z Z (some (.int .i64 1)) none rfl rfl;obtain⟨ta,tc,dy,b3⟩:=ds;have b4:bk gR F2 ta (l.length+1-1) tc l:=by{have e:((s::l).take (l.length+1)).drop 1=l:=by{simp};rw[e] at b3;exact b3};have b5:g<=w.length:=by{omega};have b6:jr w E k aB kids s from_ l g=(splits w E k.to l g).map (λks=>⟨aB,(kids++[⟨s,from_,g⟩])++ks⟩):=by{unfold jr;rw[n0 (by rw[<-ba];exact df)]};have a1:(List.range (g+1)).flatMap (jr w E k aB kids s from_ l)=(List.range p).flatMap (jr w E k aB kids s from_ l)++jr w E k aB kids s from_ l g:=HC _ b2 a0;have bc:=Kn (jr w E k aB kids s from_ l) (show g+1<=k.to+1 by omega);rw[a1,sj,b6,tj] at bc;refine AW.draw (ps:=[(0,5),(0,12),(0,13),(2,5),(2,12),(2,13),(8,5)]) Z Z (aq ?_);refine WT.slice Z Z Z Z Z Z Z Z dy (aq ?_);refine WT.jY Tryz.func142 Z Z Z Z Z Z (rE _ av zo) (λF3 v B3 ab hv=>?_);obtain⟨ca,cc,rfl,a7,d0⟩:=hv;have e1:=ab _ _ g8;have b7:=ab _ _ dk;refine aq ?_;refine WT.cH (j:=0) (s:=2) hT Z Z Z Z Z Z Z Z Z zo (WT.QM hT b7 dq Z Z Z Z Z Z Z Z (aq ?_));refine WT.aR hT Z Z Z Z Z Z Z Z Z Z Z Z Z Z (λi9 cv=>?_);refine WT.M0 (ys:=[(⟨s,from_,g⟩:Key)]) hT 1 a7 d0 Z (λ_=>rfl) Z Z Z Z Z Z Z Z Z Z Z (λh0 s0=>aN hT s0 0 Z Z Z Z) (aG.single (R:=vB) (x:=⟨s,from_,g⟩) rfl) Z (by decide) fj (λa4 c4 B4 d1=>?_);refine WT.aw 1 Z Z (λF4 b8 b9=>?_);have d2:=d1.frozen b8 b9;have I:=ab.trans b8;refine WT.qP 2 Tryz.func141 Z Z Z Z Z Z Z Z Z (λ_=>rfl) (ih F4 (bx.mono I) (b0.mono I) (c9.mono I) (dd.mono I) (b4.mono I) (λy hy=>ad y (mb _ hy)) g b5 d2 (by simp;omega) (hU.mono I) ?_) (λF5 v B5 e4 hv=>?_);{rw[Ul zo,sj];omega};refine aq ?_;refine⟨lU,?_⟩;refine aq ?_;refine WT.Cj (x:=2 ^ g*(2*q+1)) (y:=1) Z Z Z Z Z Z zo zo (WT.oI (x:=2 ^ g*(2*q+1)) Z Z Z Z Z Z zo zo (aq ?_));refine⟨⟨_,B5⟩,?_,sM,ah.skip _ (ah.skip _ oR),?_,g+1,af,?_⟩;{dsimp only;omega};{dsimp only;omega};{dsimp only;rw[Ul zo,a1,b6];rw[Ul zo,By] at hv;exact hv}};{have h2:k.to<g:=by{simp at h2;omega};refine aq ?_;refine WT.Cj (x:=2 ^ g*(2*q+1)) (y:=1) Z Z Z Z Z Z zo zo (WT.oI (x:=2 ^ g*(2*q+1)) Z Z Z Z Z Z zo zo (aq ?_));refine⟨⟨_,UB⟩,?_,sM,cF,?_,g+1,af,?_⟩;{dsimp only;omega};{dsimp only;omega};{dsimp only;rw[U5 zo];have:(List.range (k.to+1)).flatMap (jr w E k aB kids s from_ l)=(List.range (min p (k.to+1))).flatMap (jr w E k aB kids s from_ l):=rO _ zo λm h3 h4=>a0 m zo zo;rw[this];exact hU}}};{have h0:u=0:=by{simp at h;omega};subst h0;refine AW.exit ⟨_,[_],rfl,bF,_,rfl,?_⟩;have:(List.range (k.to+1)).flatMap (jr w E k aB kids s from_ l)=(List.range (min p (k.to+1))).flatMap (jr w E k aB kids s from_ l):=rO _ zo λm h3 h4=>by{have:=U m;simp at this;unfold jr;rw[<-ba,this zo];simp};rw[this];exact hU}}}}
theorem pE{g:aj}{w:List Nat}{E:List (List Nat)}{k:Key}(j:∀r∈g.rules,r.right.length<=4)(hk:k.to<=30)(i:Nat):(db g w E k i).length<=923521:=by
 unfold db;split;{rename_i r o;split;{rw[tj];have h1:=sf (w:=w) (E:=E) (to:=k.to) (l:=r.right) (i:=k.fJ);have t:(k.to+1) ^ r.right.length<=31 ^ 4:=AS (Nat.pow_le_pow_left zo _) (Tt (by decide) (j r (gM o)));have C:31 ^ 4=923521:=by{decide};omega};{simp}};{simp}
structure Sx where
 j:Nat
 a:Option Addr
 n:Nat
 c:Nat
 B:List (Nat×aJ)
theorem Hk(F:aA)(hL:Laid F)(g:aj)(hg:Valid g){ga:Option Addr}{gm gc:Nat}(hr:bk cD F ga gm gc g.rules){b:Option Addr}{n d:Nat}{w:List Nat}(hw:bk eV F b n d w)(a1:w.length<=30)
  {a:Option Addr} {m c:Nat} {E:List (List Nat)} (hE:bk (bz Dh) F a m c E) (a2:iy g.ay w.length E) (k:Key) (a3:k.fJ<=w.length) (U:k.to<=30) :
  Abs.Spec CC 105 [.agg ⟨ai g ga gm gc⟩,.slice b n d,.slice a m c,.agg ⟨[.bool k.sym.term,.int .i64 k.sym.n,.int .i64 k.fJ,.int .i64 k.to]⟩] F [] λF' v o=>o=[]/\∃a n c,v=.slice a n c/\bk rP F' a n c (bT g w E k):=by
 unfold ai;have a4:=hr.len;have b8:=hg.range.rules;refine Abs.Spec.fn (n:=41) Tryz.func105 rfl rfl λown=>?_;refine AW.seq (AW.fp ?_);refine WT.bN Z Z Z Z Z Z (λi4 b9=>?_);refine WT.bN Z Z Z Z Z Z (λi5 ca=>?_);refine WT.bN Z Z Z Z Z Z (λi6 cc=>?_);refine WT.bN Z Z Z Z Z Z (λi7 cf=>?_);refine WT.aw 0 Z Z (λG1 a5 a6=>?_);refine WT.aw 1 Z Z (λG2 ao a7=>?_);refine WT.aw 2 Z Z (λG3 aa ab=>?_);have P:=a5.trans (ao.trans aa);have f7:=aa _ _ (ao _ _ (a6 i7 _ me));have f6:=aa _ _ (a7 i6 _ me);have f5:=ab i5 _ me;refine WT.le (own2:=[(i4,.cells false [.int .i64 g.ae,.int .i64 g.ay,.int .i64 g.start,.slice ga gm gc])]::own) (ah.skip _ (ah.skip _ (ah.skip _ oR))) (aq ?_);refine WT.az hT Z Z Z Z Z Z (λi9 ch=>?_);refine aq ?_;refine AW.range (S:=Sx) (λ_=>[]) (λs=>((i9,.cells false [.slice s.a s.n s.c])::s.B)::[(i4,.cells false [.int .i64 g.ae,.int .i64 g.ay,.int .i64 g.start,.slice ga gm gc])]::own) (λj s G=>cb rP G s.a s.n s.c s.B ((List.range j).flatMap (db g w E k))) gm ⟨0,none,0,0,[]⟩ Z Z Z Z Z Z Z Z Z zo rfl rfl (λ_=>rfl) (λ_=>rfl) sM (ah.flat (sh _)) (cb.cK _ _) ?_ ?_;{intro j s F1 C hj hb;have a8:=(hr.mono P).mono C;have e5:=C _ _ f5;have e6:=C _ _ f6;have e7:=C _ _ f7;refine gz ?_;refine WT.bh hT a8 Z Z Z Z Z Z Z Z Z zo (λr J b1 off ro cs lx cn cp av=>?_);obtain⟨ra,rn,rc,rfl,bc⟩:=av;obtain⟨bx,cr,bd⟩:=hg.right r (gM J);refine gz ?_;refine WT.az hT Z Z Z Z Z Z (λi10 b0=>?_);refine WT.az hT Z Z Z Z Z Z (λi11 b2=>?_);have t:(List.range (j+1)).flatMap (db g w E k)=(List.range j).flatMap (db g w E k)++db g w E k j:=by{rw[Uk,VH];simp};have b3:((List.range j).flatMap (db g w E k)).length<=32*923521:=by{have:=oY (db g w E k) 923521 (List.range j) λi _=>pE (λr hr=>(hg.right r hr).2.1) U i;rw[T3] at this;exact AS this (TG _ zo)};refine gz ?_;refine WT.split 27 Z (λh3=>?_) (λh3=>?_);{have ac:db g w E k j=[]:=by{unfold db;rw[J];simp only;rw[nw];rintro⟨e,_⟩;simp[e] at h3};refine gz ?_;refine AW.cond Z (λ_=>?_) (λh=>(by cases h));refine AW.exit ⟨s,sM,ah.skip _ (ah.skip _ oR),?_⟩;dsimp only;rw[t,ac,Tx];exact hb};{have ad:r.left=k.sym.n:=by{simp at h3;omega};refine gz ?_;refine AW.cond Z (λh4=>?_) (λh4=>?_);{have ac:db g w E k j=[]:=by{unfold db;rw[J];simp only;rw[nw];rintro⟨_,e⟩;simp[e] at h4};refine AW.exit ⟨s,sM,ah.skip _ (ah.skip _ oR),?_⟩;dsimp only;rw[t,ac,Tx];exact hb};{have af:k.sym.term=false:=by{simpa using h4};have R:db g w E k j=(splits w E k.to r.right k.fJ).map (gh.mk j):=by{unfold db;rw[J];simp only;rw[n0 ⟨ad,af⟩]};have ag:=pE (w:=w) (E:=E) (k:=k) (λr hr=>(hg.right r hr).2.1) U j;rw[R,tj] at ag;refine gz ?_;refine WT.az hT Z Z Z Z Z Z (λi12 b4=>?_);refine gz ?_;refine WT.aw 0 Z Z (λG4 ax bn=>?_);refine WT.aw 2 Z Z (λG5 al bo=>?_);have l:=ax.trans al;have br:=al _ _ (bn i12 _ me);have bs:=bo i10 _ me;have e5:=l _ _ e5;have e6:=l _ _ e6;have e7:=l _ _ e7;have I:=P.trans (C.trans l);refine WT.qP 3 Tryz.func141 Z Z Z Z Z Z Z Z Z (λ_=>rfl) (JL (aB:=j) a2 a1 U r.right G5 (hL.mono I) ⟨e7,bs,e5,e6,br⟩ (hw.mono I) (hE.mono I) ((bc.mono ax).mono al) bd k.fJ a3 (bk.cK _ _) (by simp;omega) ⟨_,_,_,_,rfl,hb.mono l⟩ zo) (λF5 v B5 cv hv=>?_);refine gz ?_;obtain⟨na,nn,nc,nB,rfl,bt⟩:=hv;refine⟨⟨0,na,nn,nc,nB⟩,sM,ah.skip _ (ah.skip _ (ah.skip _ oR)),?_⟩;dsimp only;rw[t,R];simpa using bt}}};{intro s F1 C hb;refine AW.le (own2:=[(i9,.cells false [.slice s.a s.n s.c])]::s.B::[(i4,.cells false [.int .i64 g.ae,.int .i64 g.ay,.int .i64 g.start,.slice ga gm gc])]::own) (ah.flat (sh _)) (AW.aw 1 Z Z (λF3 bv ab=>?_));refine gz ?_;refine AW.ret ⟨_,[],⟨_,_,rfl,rfl,rfl⟩,bF,rfl,s.a,s.n,s.c,rfl,?_⟩;unfold bT;rw[<-a4];exact hb.frozen bv ab}
theorem zh{α:Type}[Inhabited α]{lt:α->α->Bool}(h:Go.Sort.SWO lt)(xs:List α):(Go.Sort.sort lt xs.toArray).toList.Perm xs/\(Go.Sort.sort lt xs.toArray).toList.Pairwise (λx y=>lt y x=false):=by
 obtain⟨⟨h1,_,p⟩,r⟩:=Go.Sort.sort_sorts lt h xs.toArray;have t:(Go.Sort.sort lt xs.toArray).size=xs.length:=by{rw[h1];simp};refine⟨?_,?_⟩;{have C:((Go.Sort.sort lt xs.toArray).extract 0 xs.toArray.size).toList=(Go.Sort.sort lt xs.toArray).toList:=by{rw[show xs.toArray.size=(Go.Sort.sort lt xs.toArray).size by rw[h1],Array.extract_size]};have I:(xs.toArray.extract 0 xs.toArray.size).toList=xs:=by{rw[Array.extract_size]};rw[C,I] at p;exact p};{rw[TS];intro i j hi J l;have o:i<(Go.Sort.sort lt xs.toArray).size:=by{simpa using hi};have g:j<(Go.Sort.sort lt xs.toArray).size:=by{simpa using J};have:=r i j (If _) l (by rw[<-h1];exact g);rw[getElem!_pos _ i o,getElem!_pos _ j g] at this;simpa using this}
def js(x y:Key):Bool:=decide (x.fJ<y.fJ\/(x.fJ=y.fJ/\(x.to<y.to\/(x.to=y.to/\dO x.sym y.sym<0))))
theorem vE{x y:Key}:js x y=true↔(x.fJ<y.fJ\/(x.fJ=y.fJ/\(x.to<y.to\/(x.to=y.to/\dO x.sym y.sym<0)))):=by unfold js;exact VM
theorem uZ{x y:Key}:js x y=false↔¬(x.fJ<y.fJ\/(x.fJ=y.fJ/\(x.to<y.to\/(x.to=y.to/\dO x.sym y.sym<0)))):=by unfold js;exact decide_eq_false_iff_not
theorem qT(a b:Sym):dO a b<0↔((a.term=true/\b.term=false)\/(a.term=b.term/\a.n<b.n)):=by
 obtain⟨at_,i⟩:=a;obtain⟨g,j⟩:=b;unfold dO bm;cases at_<;>cases g<;>simp<;>(repeat' split)<;>omega
theorem ju:Go.Sort.SWO js where
 irrefl:=λx=>by rw[uZ,qT];cases x.sym.term<;>simp
 trans:=λx y z h1 g=>by
  rw[vE,qT] at *;cases i:x.sym.term<;>cases j:y.sym.term<;>cases l:z.sym.term<;>simp[i,j,l] at h1 g ⊢<;>omega
 ntrans:=λx y z h1 g=>by
  rw[uZ,qT] at *;cases i:x.sym.term<;>cases j:y.sym.term<;>cases l:z.sym.term<;>simp[i,j,l] at h1 g ⊢<;>omega
theorem HA(x y:Key)(h1:js x y=false)(g:js y x=false):x=y:=by
 rw[uZ,qT] at *;obtain⟨⟨i,l⟩,o,p⟩:=x;obtain⟨⟨j,r⟩,t,C⟩:=y;simp only at h1 g;simp only[Key.mk.injEq,Sym.mk.injEq];cases i<;>cases j<;>simp at h1 g ⊢<;>omega
theorem KA(x y:Key):jq [bm x.fJ y.fJ,bm x.to y.to,dO x.sym y.sym]<0↔js x y=true:=by
 rw[vE];simp only[jq];generalize dO x.sym y.sym=z;unfold bm;repeat' split;all_goals omega
theorem Bf{j:Nat}(F:aA)(x y:Key):Abs.Spec (xV j) 107 [.agg ⟨[.bool x.sym.term,.int .i64 x.sym.n,.int .i64 x.fJ,.int .i64 x.to]⟩,.agg ⟨[.bool y.sym.term,.int .i64 y.sym.n,.int .i64 y.fJ,.int .i64 y.to]⟩] F [] λ_ v o=>o=[]/\v=.int .i64 (jq [bm x.fJ y.fJ,bm x.to y.to,dO x.sym y.sym]):=by
 refine Abs.Spec.fn (n:=22) Tryz.func107 rfl rfl λown=>?_;refine AW.seq (AW.fp ?_);refine WT.bN Z Z Z Z Z Z (λi2 r=>?_);refine WT.bN Z Z Z Z Z Z (λi3 t=>?_);refine aq ?_;refine AW.draw (ps:=[(6,4),(8,4),(11,4),(11,9),(13,4),(13,9)]) Z Z (aq ?_);refine WT.bj Tryz.func111 Z Z Z Z Z Z (dD _ _ _) (λv g=>?_);subst g;refine aq ?_;refine WT.bj Tryz.func111 Z Z Z Z Z Z (dD _ _ _) (λv g=>?_);subst g;refine aq ?_;refine WT.bj Tryz.func120 Z Z Z Z Z Z (Az _ x.sym y.sym) (λv g=>?_);subst g;refine WT.aR hT Z Z Z Z Z Z Z Z Z Z Z Z Z Z (λi9 C=>?_);refine WT.fP 0 Tryz.func110 Z Z Z Z Z Z Z (λG I i=>xX G (l:=[bm x.fJ y.fJ,bm x.to y.to,dO x.sym y.sym]) (cb.frozen (F:=F) (B:=[(i9,.cells false [.int .i64 (bm x.fJ y.fJ),.int .i64 (bm x.to y.to),.int .i64 (dO x.sym y.sym)])]) ⟨rfl,.inr ⟨i9,_,rfl,rfl,rfl,aG.cons (l:=[_]) Z (aG.cons (l:=[_]) Z (aG.single (x:=dO x.sym y.sym) rfl)),by decide⟩⟩ I i) (by decide)) (λv g=>?_);subst g;refine aq ?_;refine⟨lU,?_⟩;exact AW.ret ⟨_,[],⟨_,_,rfl,rfl,rfl⟩,bF,rfl,rfl⟩
theorem FK:ltOf K0=js:=by
 funext x y;unfold ltOf;rw[T8,VM];exact KA x y
theorem Ab:∀xs:List Key,wQ (xs.flatMap zC)=some xs
 | []=>rfl
 | ⟨⟨t,n⟩,a,b⟩::xs=>by{show (match wQ (xs.flatMap zC) with | some l=>some ((⟨⟨t,n⟩,a,b⟩:Key)::l) | none=>none)=_;rw[Ab xs]}
theorem EE(F:aA){a0:Option Addr}{m c:Nat}{B:List (Nat×aJ)}{xs:List Key}(l:mn vB F a0 m c B xs)(i:xs=[]->a0=none)(hm:m<=1000000) :
  Abs.Spec CC 106 [.slice a0 m c,.func (.func 107) ⟨[]⟩ ⟨[]⟩] F [B] λp v o=>∃j,o=[j]/\mn vB p a0 m c j (Go.Sort.sort js xs.toArray).toList:=by
 have:=Spec.sort (C:=CC) (F:=F) (R:=vB) (enc:=zC) (dec:=wQ) (lt:=js) (f:=106) (g:=107) (by rw[<-FK];rfl) ju (λ_ _ _ h=>h) (λ_ _=>rfl) Ab l i hm;exact this
def gf:List Nat->List Nat->Int
 | [],[]=>0
 | [],_::_=>-1
 | _::_,[]=>1
 | a::l,b::m=>if bm a b=0 then gf l m else bm a b
theorem kH:∀(j:Nat) (l m:List Nat),j<=l.length->j<=m.length->(∀i (h1:i<l.length) (g:i<m.length),i<j->bm l[i] m[i]=0)->gf l m=gf (l.drop j) (m.drop j)
 | 0,l,m,_,_,_=>by simp
 | j+1,[],m,h,_,_=>by simp at h
 | j+1,_::_,[],_,h,_=>by simp at h
 | j+1,a::l,b::m,h1,g,h=>by{have o:=h 0 (by simp) (by simp) zo;simp only[V0] at o;simp only[gf,o,TY,VG];exact kH j l m (by simpa using h1) (by simpa using g) (λi r t C=>h (i+1) (by simpa using r) (by simpa using t) zo)}
theorem xD(F:aA){a b:Option Addr}{m n c d:Nat}{xs ys:List Nat}(hx:bk eV F a m c xs)(hy:bk eV F b n d ys)(hm:m<=1000000)(hn:n<=1000000) :
  Abs.Spec CC 112 [.slice a m c,.slice b n d] F [] λ_ v o=>o=[]/\v=.int .i64 (gf xs ys):=by
 refine Abs.Spec.fn (n:=36) Tryz.func112 rfl rfl λown=>?_;have R:=hx.len;have U:=hy.len;refine aq ?_;refine AW.range (S:=Unit) (λ_=>[]) (λ_=>_) (λj _ _=>j<=n/\∀i (h1:i<xs.length) (h2:i<ys.length),i<j->bm xs[i] ys[i]=0) m () Z Z Z Z Z Z Z Z Z zo Z Z (λ_=>rfl) (λ_=>rfl) sM oR ⟨by omega,by omega⟩ ?_ ?_;{intro j _ F1 t hj r;obtain⟨aa,r⟩:=r;have ab:=hx.mono t;have ac:=hy.mono t;refine aq ?_;refine WT.bh hT ab Z Z Z Z Z Z Z Z Z zo (λx I b1 off ro cs lx hb hp J=>?_);obtain rfl:lx=_:=J;refine aq ?_;refine AW.cond Z (λl=>?_) (λl=>?_);{have l:n<=j:=by{simp at l;omega};refine aq ?_;refine AW.ret ⟨_,[],⟨_,_,rfl,rfl,rfl⟩,bF,rfl,?_⟩;rw[kH j xs ys zo zo r,TE (show ys.length<=j by omega),Tl (show j<xs.length by omega)];rfl};{have l:j<n:=by{simp at l;omega};refine aq ?_;refine WT.bh hT ac Z Z Z Z Z Z Z Z Z zo (λy P b2 ag ar av ly ay a0 C=>?_);obtain rfl:ly=_:=C;refine aq ?_;refine WT.bj Tryz.func111 Z Z Z Z Z Z (dD _ x y) (λv hv=>?_);subst hv;have ex:xs[j]'zo=x:=by{rw[gE zo] at I;simpa using I};have ey:ys[j]'zo=y:=by{rw[gE zo] at P;simpa using P};refine aq ?_;refine AW.cond Z (λg=>?_) (λg=>?_);{have g:bm x y≠0:=by{simpa using g};refine aq ?_;refine AW.ret ⟨_,[],⟨_,_,rfl,rfl,rfl⟩,bF,rfl,?_⟩;rw[kH j xs ys zo zo r,Tl (show j<xs.length by omega),Tl (show j<ys.length by omega)];simp[gf,ex,ey,g,ff]};{have g:bm x y=0:=by{simpa using g};(refine aq ?_;refine⟨(),sM,cF,by omega,λi h1 h2 h3=>?_⟩;rcases IN i j with h4 | h4);{exact r i h1 h2 h4};{have:i=j:=by{omega};subst this;rw[ex,ey];exact g}}}};{intro _ F1 t r;obtain⟨aa,r⟩:=r;refine aq ?_;have e:=kH m xs ys zo zo r;rw[TE (show xs.length<=m by omega)] at e;refine AW.cond Z (λl=>?_) (λl=>?_);{have l:m<n:=by{simp at l;omega};refine aq ?_;refine AW.ret ⟨_,[],⟨_,_,rfl,rfl,rfl⟩,bF,rfl,?_⟩;rw[e,Tl (show m<ys.length by omega)];rfl};{have l:m=n:=by{simp at l;omega};refine aq ?_;refine AW.ret ⟨_,[],⟨_,_,rfl,rfl,rfl⟩,bF,rfl,?_⟩;rw[e,TE (show ys.length<=m by omega)];rfl}}
structure gV where
 aB:Nat
 kids:List Nat
deriving DecidableEq
def oA:Ty gV where
 size:=2
 rel:=λF l x=>∃a n c,l=[.int .i64 x.aB,.slice a n c]/\bk eV F a n c x.kids/\x.kids.length<=1000000
 len:=λ_ _ _ h=>by obtain⟨a,n,c,rfl,_⟩:=h;rfl
 one:=λ_ _ _ h=>by obtain⟨a,n,c,rfl,_⟩:=h;rfl
 mono:=λ_ _ _ _ g h=>by obtain⟨a,n,c,e,h,i⟩:=h;exact⟨a,n,c,e,h.mono g,i⟩
def jV(x y:gV):Int:=jq [bm x.aB y.aB,gf x.kids y.kids]
theorem jP(F:aA){t C:List Value}(x y:gV)(I:oA.rel F t x)(J:oA.rel F C y):Abs.Spec CC 109 [.agg ⟨t⟩,.agg ⟨C⟩] F [] λ_ v o=>o=[]/\v=.int .i64 (jV x y):=by
 obtain⟨xa,xn,xc,rfl,g,P⟩:=I;obtain⟨ya,yn,yc,rfl,i,R⟩:=J;have U:=g.len;have aa:=i.len;refine Abs.Spec.fn (n:=17) Tryz.func109 rfl rfl λown=>?_;refine AW.seq (AW.fp ?_);refine WT.bN Z Z Z Z Z Z (λi2 ab=>?_);refine WT.bN Z Z Z Z Z Z (λi3 ac=>?_);refine aq ?_;refine AW.draw (ps:=[(6,4),(8,4)]) Z Z (aq ?_);refine WT.bj Tryz.func111 Z Z Z Z Z Z (dD _ _ _) (λv j=>?_);subst j;refine aq ?_;refine WT.bj Tryz.func112 Z Z Z Z Z Z (xD _ g i zo zo) (λv j=>?_);subst j;refine WT.aR hT Z Z Z Z Z Z Z Z Z Z Z Z Z Z (λi9 ad=>?_);refine WT.fP 0 Tryz.func110 Z Z Z Z Z Z Z (λG hG r=>xX G (l:=[bm x.aB y.aB,gf x.kids y.kids]) (cb.frozen (F:=F) (B:=[(i9,.cells false [.int .i64 (bm x.aB y.aB),.int .i64 (gf x.kids y.kids)])]) ⟨rfl,.inr ⟨i9,_,rfl,rfl,rfl,aG.cons (l:=[_]) Z (aG.single (x:=gf x.kids y.kids) rfl),by decide⟩⟩ hG r) (by decide)) (λv j=>?_);subst j;refine aq ?_;refine⟨lU,?_⟩;exact AW.ret ⟨_,[],⟨_,_,rfl,rfl,rfl⟩,bF,rfl,rfl⟩
def um(xs:List gV):Prop:=∀(i j:Nat) (x y:gV),i<j->xs[i]?=some x->xs[j]?=some y->¬jV y x<0
theorem Cg(F:aA){a0:Option Addr}{m c:Nat}{xs:List gV}(r:bk oA F a0 m c xs)(hs:um xs)(a b:Nat)(ha:a<=1000000)(hb:b<=m)(hm:m<=1000000) :
  Abs.Spec CC 162 [.slice a0 m c,.int .i64 a,.int .i64 b,.func (.func 109) ⟨[]⟩ ⟨[]⟩] F [] λF' v o=>o=[]/\v=.tuple ⟨[]⟩:=by
 have aa:=r.len;refine Abs.Spec.fn (n:=53) Tryz.func162 rfl rfl λown=>?_;refine ak ?_;refine AW.block (AW.ek (S:=Nat) (λs=>[(8,.int .i64 (s:Nat))]) (λs=>own) (λs G=>a+1<=s) (λs=>b-s) (a+1) sM oR (mc _) ?_);intro s F1 t hP;have C:=r.mono t;refine ak ?_;refine AW.cond Z (λh=>?_) (λh=>?_);{have h:s<b:=by{simpa using h};refine ak ?_;refine AW.block (ak ?_);refine AW.block (AW.ek (S:=Unit) (λu=>[]) (λu=>own) (λu G=>True) (λu=>0) () sM oR trivial ?_);intro u F2 I _;have j:=C.mono I;refine ak ?_;refine WT.split 21 Z (λl=>?_) (λl=>absurd l (by simp;omega));refine ak ?_;refine WT.bh hT j Z Z Z Z Z Z Z Z Z zo (λy hy b1 off ro cs ly ac ad g=>?_);obtain⟨ya,yn,yc,J,ae⟩:=id g;subst J;refine ak ?_;refine WT.bh hT j Z Z Z Z Z Z Z Z Z zo (λx hx b2 U ag al lx an ao i=>?_);obtain⟨xa,xn,xc,P,ar⟩:=id i;subst P;refine ak ?_;refine WT.kz Tryz.func109 Z Z Z Z Z Z Z Z (jP _ y x g i) (λv r=>?_);subst r;have R:=hs (s-1) s x y zo hx hy;refine ak ?_;refine AW.cond Z (λh=>absurd h (by simpa using R)) (λ_=>?_);refine AW.exit (ak ?_);exact⟨s+1,by omega,sM,ah.refl _,by omega⟩};{have h:¬s<b:=by{simpa using h};refine AW.exit ⟨_,[],rfl,bF,rfl,rfl⟩}
theorem qX{xs:List gV}(hs:um xs):∀(N:Nat) (F:aA) {a0:Option Addr} {len cc:Nat} (C:bk oA F a0 len cc xs) (a m b:Nat) (hN:b-a<N) (ae:a<m) (af:m<b) (hb:b<=len) (hm:len<=1000000),
  Abs.Spec CC 163 [.slice a0 len cc,.int .i64 a,.int .i64 m,.int .i64 b,.func (.func 109) ⟨[]⟩ ⟨[]⟩] F [] λF' v o=>o=[]/\v=.tuple ⟨[]⟩
 | 0,F,a0,len,cc,C,a,m,b,hN,_,_,_,_=>absurd hN (T6 _)
 | N+1,F,a0,len,cc,C,a,m,b,hN,ae,af,hb,hm=>by{have b5:=C.len;refine Abs.Spec.fn (n:=220) Tryz.func163 rfl rfl λown=>?_;refine ak ?_;refine AW.cond Z (λh=>?_) (λh=>?_);{have h:m=a+1:=by{simp at h;omega};refine ak ?_;refine AW.block (AW.ek (S:=Nat) (λs=>[(11,.int .i64 (s:Nat))]) (λs=>own) (λs G=>m<=s/\s<=b) (λs=>s) b sM oR ⟨by omega,mc _⟩ ?_);intro s F1 I hP;have t:=C.mono I;obtain⟨a7,a8⟩:=hP;refine ak ?_;refine AW.cond Z (λl=>?_) (λl=>?_);{have l:m<s:=by{simpa using l};refine ak ?_;refine AW.block (ak ?_);refine WT.conv hT (k2:=.u64) Z Z Z Z Z Z Z Z (xS zo) (WT.Q0 Z Z Z Z Z Z (by decide) (IC (x:=m+s) (y:=1) (by decide)) (WT.conv hT (k2:=.i64) Z Z Z Z Z Z Z Z (wrap64 zo) ?_));rw[Nat.pow_one];refine ak ?_;refine WT.bh hT t Z Z Z Z Z Z Z Z Z zo (λy hy b1 off ro cs ly al an g=>?_);obtain⟨ya,yn,yc,J,ao⟩:=id g;subst J;refine ak ?_;refine WT.bh hT t Z Z Z Z Z Z Z Z Z zo (λx hx b2 aa av ax lx ay a1 i=>?_);obtain⟨xa,xn,xc,P,a2⟩:=id i;subst P;refine ak ?_;refine WT.kz Tryz.func109 Z Z Z Z Z Z Z Z (jP _ y x g i) (λv C=>?_);subst C;have R:=hs a ((m+s) / 2) x y zo hx hy;refine ak ?_;refine AW.cond Z (λh=>absurd h (by simpa using R)) (λ_=>?_);refine ak ?_;exact⟨(m+s) / 2,by omega,sM,ah.refl _,by omega,by omega⟩};{have l:s=m:=by{simp at l;omega};refine AW.exit (ak ?_);refine AW.block (AW.ek (S:=Unit) (λs=>[]) (λs=>own) (λs G=>True) (λs=>0) () sM oR trivial ?_);intro u F2 ab _;refine ak ?_;refine AW.cond Z (λh3=>(by simp at h3;omega)) (λ_=>?_);refine AW.exit (AW.ret ⟨_,[],rfl,bF,rfl,rfl⟩)}};{have h:m≠a+1:=by{intro e;subst e;simp at h};refine ak ?_;refine AW.cond Z (λh'=>?_) (λh'=>?_);{have h':b=m+1:=by{simp at h';omega};refine ak ?_;refine AW.block (AW.ek (S:=Nat) (λs=>[(14,.int .i64 (s:Nat))]) (λs=>own) (λs G=>a<=s/\s<=m) (λs=>m-s) a sM oR ⟨mc _,by omega⟩ ?_);intro s F1 I hP;have t:=C.mono I;obtain⟨a7,a8⟩:=hP;refine ak ?_;refine AW.cond Z (λl=>?_) (λl=>?_);{have l:s<m:=by{simpa using l};refine ak ?_;refine AW.block (ak ?_);refine WT.conv hT (k2:=.u64) Z Z Z Z Z Z Z Z (xS zo) (WT.Q0 Z Z Z Z Z Z (by decide) (IC (x:=s+m) (y:=1) (by decide)) (WT.conv hT (k2:=.i64) Z Z Z Z Z Z Z Z (wrap64 zo) ?_));rw[Nat.pow_one];refine ak ?_;refine WT.bh hT t Z Z Z Z Z Z Z Z Z zo (λy hy b1 off ro cs ly al an g=>?_);obtain⟨ya,yn,yc,J,ao⟩:=id g;subst J;refine ak ?_;refine WT.bh hT t Z Z Z Z Z Z Z Z Z zo (λx hx b2 aa av ax lx ay a1 i=>?_);obtain⟨xa,xn,xc,P,a2⟩:=id i;subst P;refine ak ?_;refine WT.kz Tryz.func109 Z Z Z Z Z Z Z Z (jP _ y x g i) (λv C=>?_);subst C;have R:=hs ((s+m) / 2) m x y zo hx hy;refine ak ?_;refine AW.cond Z (λ_=>?_) (λh=>absurd h (by simpa using R));refine ak ?_;exact⟨(s+m) / 2+1,by omega,sM,ah.refl _,by omega,by omega⟩};{have l:s=m:=by{simp at l;omega};subst l;refine AW.exit (ak ?_);refine AW.block (AW.ek (S:=Unit) (λs=>[]) (λs=>own) (λs G=>True) (λs=>0) () sM oR trivial ?_);intro u F2 ab _;refine ak ?_;refine AW.cond Z (λh3=>(by simp at h3)) (λ_=>?_);refine AW.exit (AW.ret ⟨_,[],rfl,bF,rfl,rfl⟩)}};{have h':b≠m+1:=by{intro e;subst e;simp at h'};refine ak ?_;refine WT.conv hT (k2:=.u64) Z Z Z Z Z Z Z Z (xS zo) (WT.Q0 Z Z Z Z Z Z (by decide) (IC (x:=a+b) (y:=1) (by decide)) (WT.conv hT (k2:=.i64) Z Z Z Z Z Z Z Z (wrap64 zo) ?_));rw[Nat.pow_one];obtain⟨j,a4⟩:∃j,(a+b) / 2=j:=⟨_,rfl⟩;rw[a4];refine ak ?_;refine AW.Q1 (S:=Nat×Nat) (λs=>[(20,.int .i64 (s.1:Nat)),(21,.int .i64 (s.2:Nat))]) (λs=>own) (λs G=>(j<m/\s.1=j+m-b/\s.2=j)\/(m<=j/\s.1=a/\s.2=m)) ?_ (λs F1 I hP=>?_);{refine AW.cond Z (λl=>?_) (λl=>?_);{have l:j<m:=by{simp at l;omega};refine ak ?_;exact⟨(j+m-b,j),sM,ah.refl _,.inl ⟨l,rfl,rfl⟩⟩};{have l:m<=j:=by{simp at l;omega};refine ak ?_;exact⟨(a,m),sM,ah.refl _,.inr ⟨l,rfl,rfl⟩⟩}};{obtain⟨st,r⟩:=s;dsimp only at hP ⊢;have t:=C.mono I;have ba:st<=r:=by{omega};have b6:r<=m/\r<=j:=by{omega};refine ak ?_;refine AW.block (AW.ek (S:=Nat) (λs=>[(20,.int .i64 (s:Nat))]) (λs=>own) (λs G=>st<=s/\s<=r) (λs=>r-s) st sM oR ⟨mc _,ba⟩ ?_);intro u F2 ab bb;obtain⟨b7,b8⟩:=bb;have U:=t.mono ab;refine ak ?_;refine AW.cond Z (λl=>?_) (λl=>?_);{have l:u<r:=by{simpa using l};refine ak ?_;refine AW.block (ak ?_);refine WT.conv hT (k2:=.u64) Z Z Z Z Z Z Z Z (xS zo) (WT.Q0 Z Z Z Z Z Z (by decide) (IC (x:=u+r) (y:=1) (by decide)) (WT.conv hT (k2:=.i64) Z Z Z Z Z Z Z Z (wrap64 zo) ?_));rw[Nat.pow_one];obtain⟨cx,bc⟩:∃cx,(u+r) / 2=cx:=⟨_,rfl⟩;rw[bc];have b9:u<=cx/\cx<r:=by{omega};refine ak ?_;refine WT.bh hT U Z Z Z Z Z Z Z Z Z zo (λy hy b1 off ro cs ly al an g=>?_);obtain⟨ya,yn,yc,J,ao⟩:=id g;subst J;refine ak ?_;refine WT.bh hT U Z Z Z Z Z Z Z Z Z zo (λx hx b2 aa av ax lx ay a1 i=>?_);obtain⟨xa,xn,xc,P,a2⟩:=id i;subst P;refine ak ?_;refine WT.kz Tryz.func109 Z Z Z Z Z Z Z Z (jP _ y x g i) (λv C=>?_);subst C;have R:=hs cx _ x y zo hx hy;refine ak ?_;refine AW.cond Z (λ_=>?_) (λh=>absurd h (by simpa using R));refine ak ?_;exact⟨cx+1,by omega,sM,ah.refl _,by omega,by omega⟩};{have l:u=r:=by{simp at l;omega};subst l;refine AW.exit (ak ?_);rcases hP with ⟨hq,_,hu⟩ | ⟨hq,_,hu⟩;{subst hu;have he:u+m-u=m:=by{omega};refine WT.split 181 Z (λe=>?_) (λe=>absurd e (by simp;omega));refine ak ?_;refine AW.cond Z (λe=>absurd e (by simp)) (λ_=>?_);refine ak ?_;refine WT.split 195 Z (λe=>?_) (λe=>absurd e (by simp;omega));refine ak ?_;refine AW.cond Z (λe=>absurd e (by simp)) (λ_=>?_);refine ak ?_;refine WT.split 209 Z (λe=>?_) (λe=>absurd e (by simp;omega));refine ak ?_;refine AW.cond Z (λ_=>?_) (λe=>absurd e (by simp;omega));rw[he];refine ak ?_;refine WT.bj Tryz.func163 Z Z Z Z Z Z (qX hs N _ U u m b zo zo af hb hm) (λv C=>?_);refine ak ?_;refine⟨_,[],rfl,bF,rfl,rfl⟩};{subst hu;have he:j+u-u=j:=by{omega};refine WT.split 181 Z (λe=>absurd e (by simp)) (λe=>?_);refine ak ?_;refine AW.cond Z (λe=>absurd e (by simp)) (λ_=>?_);refine ak ?_;refine WT.split 195 Z (λe=>?_) (λe=>absurd e (by simp;omega));refine ak ?_;rw[he];refine AW.cond Z (λe=>?_) (λe=>?_);{have e:u<j:=by{simpa using e};refine ak ?_;refine WT.bj Tryz.func163 Z Z Z Z Z Z (qX hs N _ U a u j zo ae e zo hm) (λv C=>?_);refine ak ?_;refine WT.split 209 Z (λe=>absurd e (by simp)) (λe=>?_);refine ak ?_;refine AW.cond Z (λe=>absurd e (by simp)) (λ_=>?_);refine ak ?_;refine⟨_,[],rfl,bF,rfl,rfl⟩};{refine ak ?_;refine WT.split 209 Z (λe=>absurd e (by simp)) (λe=>?_);refine ak ?_;refine AW.cond Z (λe=>absurd e (by simp)) (λ_=>?_);refine ak ?_;refine⟨_,[],rfl,bF,rfl,rfl⟩}}}}}}}
theorem Di(F:aA){a0:Option Addr}{m c:Nat}{xs:List gV}(hv:bk oA F a0 m c xs)(hs:um xs)(hm:m<=1000000) :
  Abs.Spec CC 145 [.slice a0 m c,.int .i64 m,.func (.func 109) ⟨[]⟩ ⟨[]⟩] F [] λF' v o=>o=[]/\v=.tuple ⟨[]⟩:=by
 have ad:=hv.len;refine Abs.Spec.fn (n:=63) Tryz.func145 rfl rfl λown=>?_;refine ak ?_;refine AW.block (AW.ek (S:=Nat) (λs=>[(7,.int .i64 (s:Nat)),(8,.int .i64 ((s+20:Nat):Int))]) (λs=>own) (λs G=>s<=m) (λs=>m-s) 0 sM oR (If _) ?_);intro s F1 I hP;have g:=hv.mono I;refine ak ?_;refine AW.cond Z (λl=>?_) (λl=>?_);{have l:s+20<=m:=by{simp at l;omega};refine ak ?_;refine AW.block (ak ?_);refine WT.bj Tryz.func162 Z Z Z Z Z Z (Cg _ g hs s (s+20) zo l hm) (λv i=>?_);refine ak ?_;exact⟨s+20,by omega,sM,ah.refl _,l⟩};{refine AW.exit (ak ?_);refine WT.bj Tryz.func162 Z Z Z Z Z Z (Cg _ g hs s m zo (mc _) hm) (λv i=>?_);refine ak ?_;refine AW.block (AW.ek (S:=Nat×Nat×Nat) (λs=>[(6,.int .i64 (s.1:Nat)),(7,.int .i64 (s.2.1:Nat)),(8,.int .i64 (s.2.2:Nat))]) (λs=>own) (λs G=>0<s.1) (λs=>m-s.1) (20,s,s+20) sM oR (show 0<20 by decide) ?_);intro u F2 J P;have R:=g.mono J;obtain⟨bs,ua,ub⟩:=u;dsimp only at P ⊢;refine ak ?_;refine AW.cond Z (λU=>?_) (λU=>?_);{have U:bs<m:=by{simpa using U};refine ak ?_;refine AW.block (ak ?_);refine AW.block (AW.ek (S:=Nat×Nat) (λs=>[(7,.int .i64 (s.1:Nat)),(8,.int .i64 (s.2:Nat))]) (λs=>own) (λs G=>s.1<=m/\s.2=s.1+2*bs) (λs=>m-s.1) (0,2*bs) sM oR ⟨If _,by omega⟩ ?_);intro z F3 aa r;have t:=R.mono aa;obtain⟨za,zb⟩:=z;dsimp only at r ⊢;obtain⟨ae,ab⟩:=r;subst ab;refine ak ?_;refine AW.cond Z (λj=>?_) (λj=>?_);{have j:za+2*bs<=m:=by{simp at j;omega};refine ak ?_;refine AW.block (ak ?_);refine WT.bj Tryz.func163 Z Z Z Z Z Z (qX hs _ _ t za (za+bs) (za+2*bs) (TD _) zo zo j hm) (λv i=>?_);refine ak ?_;exact⟨(za+2*bs,za+2*bs+2*bs),by dsimp only;omega,sM,ah.refl _,j,rfl⟩};{have j:m<za+2*bs:=by{simp at j;omega};refine AW.exit (ak ?_);refine AW.cond Z (λC=>?_) (λC=>?_);{have C:za+bs<m:=by{simp at C;omega};refine ak ?_;refine WT.bj Tryz.func163 Z Z Z Z Z Z (qX hs _ _ t za (za+bs) m (TD _) zo C (mc _) hm) (λv i=>?_);refine ak ?_;refine WT.mulL 2 Z Z Z Z Z Z zo (ak ?_);exact⟨(bs*2,za,za+2*bs),by dsimp only;omega,sM,ah.refl _,by dsimp only;omega⟩};{refine ak ?_;refine WT.mulL 2 Z Z Z Z Z Z zo (ak ?_);exact⟨(bs*2,za,za+2*bs),by dsimp only;omega,sM,ah.refl _,by dsimp only;omega⟩}}};{refine AW.exit ⟨_,[],rfl,bF,rfl,rfl⟩}}
theorem vM(F:aA){a0:Option Addr}{m c:Nat}{xs:List gV}(g:bk oA F a0 m c xs)(hs:um xs)(hm:m<=1000000) :
  Abs.Spec CC 108 [.slice a0 m c,.func (.func 109) ⟨[]⟩ ⟨[]⟩] F [] λj v o=>o=[]/\v=.tuple ⟨[]⟩:=by
 refine Abs.Spec.fn (n:=9) Tryz.func108 rfl rfl λown=>?_;refine ak ?_;refine WT.bj Tryz.func145 Z Z Z Z Z Z (Di _ g hs hm) (λv i=>?_);refine ak ?_;refine⟨_,[],rfl,bF,rfl,rfl⟩
inductive dZ(g:aj)(w:List Nat)(E:List (List Nat))(root:Key):Key->Prop
 | root:dZ g w E root root
 | Nb {k q:Key} {p:gh}:dZ g w E root k->p∈bT g w E k->q∈p.kids->dZ g w E root q
def gC(g:aj)(w:List Nat)(k:Key):Prop:=cP g.ae g.ay k.sym/\k.fJ<=w.length/\k.to<=w.length
theorem y8{w:List Nat}{E:List (List Nat)}{to:Nat}:∀{l:List Sym} {i:Nat} {ks:List Key},ks∈splits w E to l i->i<=w.length->to<=w.length->∀q∈ks,q.sym∈l/\q.fJ<=w.length/\q.to<=w.length
 | [],i,ks,h,_,_,q,hq=>by{unfold splits at h;split at h;{rw[ti.1 h] at hq;cases hq};{cases h}}
 | s::l,i,ks,h,hi,j,q,hq=>by{unfold splits at h;obtain⟨m,g,hm⟩:=Up.1 h;have g:=Tz.1 g;split at hm;{obtain⟨o,r,rfl⟩:=x6.1 hm;rcases PJ.1 hq with rfl | hq;{exact⟨D2 ..,hi,by show m<=_;omega⟩};{have:=y8 r zo j q hq;exact⟨mb _ this.1,this.2⟩}};{cases hm}}
theorem dJ{g:aj}{w:List Nat}{E:List (List Nat)}{k:Key}{p:gh}:p∈bT g w E k↔∃r,g.rules[p.aB]?=some r/\r.left=k.sym.n/\k.sym.term=false/\p.kids∈splits w E k.to r.right k.fJ:=by
 unfold bT;rw[Up];constructor;{rintro⟨i,hi,hp⟩;unfold db at hp;split at hp;{rename_i r j;split at hp;{rename_i o;obtain⟨ks,l,rfl⟩:=x6.1 hp;exact⟨r,j,o.1,o.2,l⟩};{cases hp}};{cases hp}};{rintro⟨r,j,h1,t,C⟩;refine⟨p.aB,Tz.2 (gS j).1,?_⟩;unfold db;rw[j];simp only;rw[n0 ⟨h1,t⟩];exact x6.2 ⟨p.kids,C,by cases p;rfl⟩}
theorem Mk{g:aj}(i:Valid g){w:List Nat}{E:List (List Nat)}{k q:Key}{p:gh}(hk:gC g w k)(hp:p∈bT g w E k)(j:q∈p.kids):gC g w q:=by
 obtain⟨r,l,_,_,o⟩:=dJ.1 hp;obtain⟨t,C,I⟩:=y8 o hk.2.1 hk.2.2 q j;exact⟨(i.right r (gM l)).2.2 _ t,C,I⟩
theorem dZ.Es{g:aj}(i:Valid g){w:List Nat}{E:List (List Nat)}{root k:Key}(h:dZ g w E root k)(j:gC g w root):gC g w k:=by
 induction h with| root=>{exact j}| Nb _ hp l o=>{exact Mk i o hp l}
def De(k:Key):Nat:=(if k.sym.term=true then 100 else 0)*961+k.sym.n*961+k.fJ*31+k.to
theorem td{g:aj}(p:Valid g){w:List Nat}(hw:w.length<=30){L:List Key}(r:∀k∈L,gC g w k)(t:L.Nodup):L.length<=200000:=by
 have i:=p.range;have j:∀k∈L,k.sym.n<10/\k.fJ<=30/\k.to<=30:=λk hk=>by{obtain⟨h1,o,R⟩:=r k hk;unfold cP at h1;have:=i.ae;have:=i.ay;split at h1<;>exact⟨by omega,by omega,by omega⟩};have h:=yw 200000 (L.map De) ?_ ?_;{rwa [tj] at h};{rw[TP,U0];refine(TP.1 t).imp_of_mem ?_;intro a b C I l he;apply l;have h1:=j a C;have o:=j b I;obtain⟨⟨at_,U⟩,af,ao⟩:=a;obtain⟨⟨J,bn⟩,bf,bo⟩:=b;unfold De at he;simp only at he h1 o;simp only[Key.mk.injEq,Sym.mk.injEq];cases at_<;>cases J<;>simp at he ⊢<;>omega};{intro x P;obtain⟨k,hk,rfl⟩:=x6.1 P;have h1:=j k hk;unfold De;split<;>omega}
inductive O7:List Key->List Key->Prop
 | here {a b:Key} {l m:List Key}:a.sym=b.sym->a.fJ=b.fJ->a.to<b.to->O7 (a::l) (b::m)
 | next {a:Key} {l m:List Key}:O7 l m->O7 (a::l) (a::m)
theorem rI{w:List Nat}{E:List (List Nat)}{to:Nat}:∀(l:List Sym) (i:Nat),(splits w E to l i).Pairwise O7
 | [],i=>by unfold splits;split<;>simp
 | s::l,i=>by{unfold splits;rw[List.pairwise_flatMap];constructor;{intro m _;split;{rw[U0];exact(rI l m).imp .next};{exact .nil}};{refine V1.imp ?_;intro m o hm x g y j;split at g;{split at j;{obtain⟨x',_,rfl⟩:=x6.1 g;obtain⟨p,_,rfl⟩:=x6.1 j;exact .here rfl rfl hm};{cases j}};{cases g}}}
def Sn(p q:gh):Prop:=p.aB<q.aB\/(p.aB=q.aB/\O7 p.kids q.kids)
theorem uw(g:aj)(w:List Nat)(E:List (List Nat))(k:Key):(bT g w E k).Pairwise Sn:=by
 unfold bT;rw[List.pairwise_flatMap];constructor;{intro i _;unfold db;split;{split;{rw[U0];exact(rI _ _).imp λh=>.inr ⟨rfl,h⟩};{exact .nil}};{exact .nil}};{refine V1.imp ?_;intro i j o x l y p;have at_:∀{i:Nat} {x:gh},x∈db g w E k i->x.aB=i:=by{intro i x l;unfold db at l;split at l;{split at l;{obtain⟨_,_,rfl⟩:=x6.1 l;rfl};{cases l}};{cases l}};left;rw[at_ l,at_ p];exact o}
structure Node where
 key:Key
 cr:List gV
def wv:Ty Node where
 size:=5
 rel:=λF l x=>∃a n c,l=[.bool x.key.sym.term,.int .i64 x.key.sym.n,.int .i64 x.key.fJ,.int .i64 x.key.to,.slice a n c]/\bk oA F a n c x.cr
 len:=λ_ _ _ h=>by obtain⟨a,n,c,rfl,_⟩:=h;rfl
 one:=λ_ _ _ h=>by obtain⟨a,n,c,rfl,_⟩:=h;rfl
 mono:=λ_ _ _ _ g h=>by obtain⟨a,n,c,e,h⟩:=h;exact⟨a,n,c,e,h.mono g⟩
def place(S:List Key)(k:Key):Nat:=S.idxOf k
def eQ(S:List Key)(p:gh):gV:=⟨p.aB,p.kids.map (place S)⟩
def mkNode(g:aj)(w:List Nat)(E:List (List Nat))(S:List Key)(k:Key):Node:=⟨k,(bT g w E k).map (eQ S)⟩
theorem iV{S:List Key}{k:Key}(h:k∈S):S[place S k]?=some k:=by
 unfold place;rw[gE (U9 h),List.getElem_idxOf]
theorem AO{S:List Key}(g:S.Nodup){k:Key}{i:Nat}(h:S[i]?=some k):place S k=i:=by
 have h1:=iV (gM h);obtain⟨j,l⟩:=gS h;obtain⟨o,p⟩:=gS h1;rcases VV (place S k) i with h6 | h6 | h6;{exact absurd (p.trans l.symm) (TS.1 (TP.1 g) _ _ o j h6)};{exact h6};{exact absurd (l.trans p.symm) (TS.1 (TP.1 g) _ _ j o h6)}
theorem LG{S:List Key}(hs:S.Pairwise (λx y=>js x y=true)){a b:Key}(l:a∈S)(o:b∈S)(h:js a b=true):place S a<place S b:=by
 have h1:=iV l;have p:=iV o;obtain⟨r,g⟩:=gS h1;obtain⟨t,i⟩:=gS p;rcases VV (place S a) (place S b) with h7 | h7 | h7;{exact h7};{have:a=b:=by{rw[<-g,<-i];simp only[h7]};subst this;rw[ju.irrefl] at h;cases h};{have:=TS.1 hs _ _ t r h7;rw[g,i] at this;have j:=ju.trans _ _ _ h this;rw[ju.irrefl] at j;cases j}
theorem M4{S:List Key}(hs:S.Pairwise (λx y=>js x y=true)):∀{l m:List Key},O7 l m->(∀q∈l,q∈S)->(∀q∈m,q∈S)->0<gf (m.map (place S)) (l.map (place S))/\gf (l.map (place S)) (m.map (place S))<0:=by
 intro l m h;induction h with| @here a b l m h1 j o=>{intro g hm;have r:place S a<place S b:=LG hs (g a me) (hm b me) (by rw[vE];right;exact⟨j,.inl o⟩);simp only[y2,gf];have t:bm (place S b:Nat) (place S a:Nat)=1:=by{unfold bm;rw[nw zo,n0 zo]};have C:bm (place S a:Nat) (place S b:Nat)=-1:=by{unfold bm;rw[n0 zo]};rw[t,C];simp}| @next a l m _ I=>{intro g hm;have e:bm (place S a:Nat) (place S a:Nat)=0:=by{unfold bm;rw[nw zo,nw zo]};simp only[y2,gf,e,TY];exact I (λq i=>g q (mb _ i)) (λq i=>hm q (mb _ i))}
structure rq(g:aj)(w:List Nat)(E:List (List Nat))(root:Key)(S:List Key):Prop where
 sorted:S.Pairwise (λx y=>js x y=true)
 reach:∀k∈S,dZ g w E root k
 first:root∈S
 closed:∀k∈S,∀p∈bT g w E k,∀q∈p.kids,q∈S
theorem rq.nodup{g:aj}{w:List Nat}{E:List (List Nat)}{root:Key}{S:List Key}(h:rq g w E root S):S.Nodup:=by
 rw[TP];refine h.sorted.imp ?_;rintro a b i rfl;rw[ju.irrefl] at i;cases i
theorem MW{S:List Key}(hs:S.Pairwise (λx y=>js x y=true)){p q:gh}(h:Sn p q)(hp:∀x∈p.kids,x∈S)(j:∀x∈q.kids,x∈S):0<jV (eQ S q) (eQ S p)/\jV (eQ S p) (eQ S q)<0:=by
 unfold jV eQ;simp only[jq];rcases h with h | ⟨h1,l⟩;{have g:bm (q.aB:Nat) (p.aB:Nat)=1:=by{unfold bm;rw[nw zo,n0 zo]};have i:bm (p.aB:Nat) (q.aB:Nat)=-1:=by{unfold bm;rw[n0 zo]};rw[g,i];simp};{have g:bm (q.aB:Nat) (p.aB:Nat)=0:=by{unfold bm;rw[nw zo,nw zo]};have i:bm (p.aB:Nat) (q.aB:Nat)=0:=by{unfold bm;rw[nw zo,nw zo]};obtain⟨o,r⟩:=M4 hs l hp j;simp only[g,i,TY];rw[nw zo,nw zo];exact⟨o,r⟩}
theorem Gi{g:aj}{w:List Nat}{E:List (List Nat)}{root:Key}{S:List Key}(h:rq g w E root S){k:Key}(hk:k∈S):((bT g w E k).map (eQ S)).Pairwise λx y=>0<jV y x/\jV x y<0:=by
 rw[U0];refine(uw g w E k).imp_of_mem ?_;intro a b l o i;exact MW h.sorted i (λx j=>h.closed k hk a l x j) (λx j=>h.closed k hk b o x j)
theorem Dw{g:aj}{w:List Nat}{E:List (List Nat)}{root:Key}{S:List Key}(h:rq g w E root S){k:Key}(hk:k∈S):um ((bT g w E k).map (eQ S)):=by
 intro i j x y l o p;obtain⟨h1,r⟩:=gS o;obtain⟨t,C⟩:=gS p;have:=TS.1 (Gi h hk) i j h1 t l;rw[r,C] at this;omega
theorem M3(x y:Key):(((x.sym.term==y.sym.term)&&(((x.sym.n:Int)==(y.sym.n:Int))&&true))&&(((x.fJ:Int)==(y.fJ:Int))&&(((x.to:Int)==(y.to:Int))&&true)))=decide (x=y):=by
 rw[T8];obtain⟨⟨g,i⟩,j,l⟩:=x;obtain⟨⟨o,p⟩,r,t⟩:=y;simp only[tx,T5,TQ,Key.mk.injEq,Sym.mk.injEq,Vs];constructor;{rintro⟨⟨rfl,h1⟩,C,I⟩;exact⟨⟨rfl,by omega⟩,by omega,by omega⟩};{rintro⟨⟨rfl,rfl⟩,rfl,rfl⟩;exact⟨⟨rfl,rfl⟩,rfl,rfl⟩}
noncomputable def j5:qd CC 243 Key where
 key:=λx=>.agg ⟨[.bool x.sym.term,.int .i64 x.sym.n,.int .i64 x.fJ,.int .i64 x.to]⟩
 ok:=λp=>DG hT 8 _ _ rfl
 eq:=λp q=>by
  have h:rD CC 8 243 (.agg ⟨[.bool p.sym.term,.int .i64 p.sym.n,.int .i64 p.fJ,.int .i64 p.to]⟩) (.agg ⟨[.bool q.sym.term,.int .i64 q.sym.n,.int .i64 q.fJ,.int .i64 q.to]⟩)=some (decide (p=q)):=by
   rw[<-M3];exact Dz hT 8 _ _ _ _ rfl
  by_cases e:p=q
  ·exact .inl ⟨e,by rw[h];simp[e]⟩
  ·exact .inr ⟨e,by rw[h];simp[e]⟩
def er(g:aj)(w:List Nat)(E:List (List Nat))(L:List Key):Nat:=(L.map λk=>(bT g w E k).length).sum
structure IS where
 L:List Key
 a:Option Addr
 c:Nat
 B:List (Nat×aJ)
 se:cd Key
structure KS where
 a:Option Addr
 n:Nat
 c:Nat
 B:List (Nat×aJ)
structure BS where
 i:Nat
 L:List Key
 a:Option Addr
 c:Nat
 B:List (Nat×aJ)
 pe:cd Key
 se:cd Key
 Kd:Nat
structure KM(g:aj)(w:List Nat)(E:List (List Nat))(root:Key)(L:List Key)(se:cd Key):Prop where
 nd:L.Nodup
 first:root∈L
 reach:∀k∈L,dZ g w E root k
 seen:∀k,Abs.look se k=if k∈L then some (.bool true) else none
structure Ny(g:aj)(w:List Nat)(E:List (List Nat))(root:Key)(F:aA)(s:BS):Prop where
 l:KM g w E root s.L s.se
 cr:∀j k,j<s.i->s.L[j]?=some k->∃a n c,Abs.look s.pe k=some (.slice a n c)/\bk rP F a n c (bT g w E k)
 closed:∀j k,j<s.i->s.L[j]?=some k->∀p∈bT g w E k,∀q∈p.kids,q∈s.L
 Kd:s.Kd=er g w E (s.L.take s.i)
 le:s.i<=s.L.length
theorem Ny.mono{g:aj}{w:List Nat}{E:List (List Nat)}{root:Key}{F G:aA}{s:BS}(h:Ny g w E root F s)(i:aA.le F G):Ny g w E root G s:=
 ⟨h.l,λj k h1 o=>by obtain⟨a,n,c,p,r⟩:=h.cr j k h1 o;exact⟨a,n,c,p,r.mono i⟩,h.closed,h.Kd,h.le⟩
theorem KM.add{g:aj}{w:List Nat}{E:List (List Nat)}{root:Key}{L:List Key}{se:cd Key}(h:KM g w E root L se){k:Key}(hk:k∉L)(i:dZ g w E root k):KM g w E root (L++[k]) (cE se k (.bool true)) where
 nd:=by
  rw[Uf];exact⟨h.nd,by simp,λa j b l e=>by rw[ti.1 l] at e;exact hk (e▸j)⟩
 first:=Te _ h.first
 reach:=λq hq=>by
  rcases D1.1 hq with hq | hq
  ·exact h.reach q hq
  ·rw[ti.1 hq];exact i
 seen:=λq=>by
  rw[Abs.fT,h.seen];by_cases e:q=k
  ·subst e;simp
  ·simp[e]
theorem w7{g:aj}(j:Valid g){w:List Nat}{E:List (List Nat)}{k:Key}(hk:k.to<=30):(bT g w E k).length<=32*923521:=by
 unfold bT;have:=oY (db g w E k) 923521 (List.range g.rules.length) λi _=>pE (λr l=>(j.right r l).2.1) hk i;rw[T3] at this;exact AS this (TG _ (j.range.rules))
theorem mG{g:aj}(j:Valid g){w:List Nat}{E:List (List Nat)}{k:Key}(hk:k.to<=12):(bT g w E k).length<=913952:=by
 unfold bT;have:=oY (db g w E k) 28561 (List.range g.rules.length) λi _=>by{unfold db;split;{rename_i r o;split;{rw[tj];have h1:=sf (w:=w) (E:=E) (to:=k.to) (l:=r.right) (i:=k.fJ);have t:(k.to+1) ^ r.right.length<=13 ^ 4:=AS (Nat.pow_le_pow_left zo _) (Tt (by decide) (j.right r (gM o)).2.1);have C:13 ^ 4=28561:=by{decide};omega};{simp}};{simp}};rw[T3] at this;exact AS this (AS (TG _ (j.range.rules)) (by decide))
theorem tB{g:aj}{w:List Nat}{E:List (List Nat)}{L:List Key}{i:Nat}{k:Key}(h:L[i]?=some k):er g w E (L.take (i+1))=er g w E (L.take i)+(bT g w E k).length:=by
 unfold er;rw[yo,h];simp
theorem AP{g:aj}(i:Valid g){w:List Nat}{E:List (List Nat)}:∀(L:List Key),(∀k∈L,k.to<=30)->er g w E L<=L.length*(32*923521)
 | [],_=>by simp[er]
 | k::L,h=>by{have h1:=AP i (E:=E) (w:=w) L λk hk=>h k (mb _ hk);have j:=w7 i (E:=E) (w:=w) (h k me);unfold er at h1 ⊢;rw[y2,TL,IT,TO,Uu];omega}
def K7(g:aj)(w:List Nat)(E:List (List Nat))(root:Key)(most:Nat)(F:aA)(v:Value):Prop:=
 (∃S a n c,v=.tuple ⟨[.agg ⟨[.slice a n c,.int .i64 (place S root:Nat)]⟩,.bool true]⟩/\rq g w E root S/\bk wv F a n c (S.map (mkNode g w E S))/\er g w E S<=most)\/
 (v=.tuple ⟨[.agg ⟨[.slice none 0 0,.int .i64 0]⟩,.bool false]⟩/\∃L:List Key,L.Nodup/\(∀k∈L,dZ g w E root k)/\most<er g w E L)
theorem Ht(F:aA)(hL:Laid F)(g:aj)(hg:Valid g){ga:Option Addr}{gm gc:Nat}(hr:bk cD F ga gm gc g.rules){b:Option Addr}{n d:Nat}{w:List Nat}(hw:bk eV F b n d w)(h6:w.length<=12)
  {a:Option Addr} {m c:Nat} {E:List (List Nat)} (hE:bk (bz Dh) F a m c E) (bi:iy g.ay w.length E) (most:Nat) (fs:most<=4611686018427387904) :
  Abs.Spec CC 71 [.agg ⟨ai g ga gm gc⟩,.slice b n d,.slice a m c,.int .i64 most] F [] λF' v o=>o=[]/\
   ((fZ w E ⟨false,g.start⟩ 0 w.length=false/\v=.tuple ⟨[.agg ⟨[.slice none 0 0,.int .i64 (-1)]⟩,.bool true]⟩)\/
    (fZ w E ⟨false,g.start⟩ 0 w.length=true/\K7 g w E ⟨⟨false,g.start⟩,0,w.length⟩ most F' v)):=by
 unfold ai;have cp:w.length<=30:=by{omega};have ki:=hr.len;have ft:=hw.len;subst ft;have fx:=hg.range;have fy:=fx.start;have kk:=bi.size;refine Abs.Spec.fn (n:=187) Tryz.func71 rfl rfl λown=>?_;refine AW.seq (AW.fp ?_);refine WT.bN Z Z Z Z Z Z (λi4 kl=>?_);refine WT.az hT Z Z Z Z Z Z (λi8 ko=>?_);refine aq ?_;refine WT.bj Tryz.func29 Z Z Z Z Z Z (nT _ _) (λv hv=>?_);subst hv;refine aq ?_;refine WT.az hT Z Z Z Z Z Z (λi10 h8=>?_);refine aq ?_;refine WT.bh hT hE Z Z Z Z Z Z Z Z Z zo (λrow av b1 off ro cs lx kq kr d8=>?_);obtain⟨a2,n2,c2,rfl,ct⟩:=d8;have ia:=bi.row row (gM av);refine aq ?_;refine WT.bh (j:=0) hT ct Z Z Z Z Z Z Z Z Z zo (λx hx b3 ib ks kt f0 bn kw cv=>?_);obtain rfl:f0=_:=cv;have k0:=bi.bit row (gM av) x (gM hx);have k1:2 ^ (w.length+1)<=4294967296:=Tt (j:=32) (by decide) zo;have cw:fZ w E ⟨false,g.start⟩ 0 w.length=x.testBit w.length:=by{unfold fZ;simp only[av,hx];simp};refine aq ?_;refine WT.Iv (x:=x) (y:=w.length) Z Z Z Z Z Z zo (WT.oI (x:=x / 2 ^ w.length) (y:=1) Z Z Z Z Z Z (VL (Wd _ _) zo) (by decide) ?_);rw[u0,<-cw];refine aq ?_;refine AW.cond Z (λh=>?_) (λh=>?_);{have h0:fZ w E ⟨false,g.start⟩ 0 w.length=false:=by{cases e:fZ w E ⟨false,g.start⟩ 0 w.length with| false=>{rfl}| true=>{rw[e] at h;simp at h}};refine aq ?_;exact AW.ret ⟨_,[],⟨_,_,⟨_,rfl,λG h0 s0=>aD (s0.has (p:=1) rfl me) (aM hT rfl)⟩,⟨_,_,rfl,rfl,rfl⟩,rfl⟩,bF,rfl,.inl ⟨h0,rfl⟩⟩};{have h1:fZ w E ⟨false,g.start⟩ 0 w.length=true:=by{cases e:fZ w E ⟨false,g.start⟩ 0 w.length with| false=>{rw[e] at h;simp at h}| true=>{rfl}};have J:gC g w ⟨⟨false,g.start⟩,0,w.length⟩:=⟨by unfold cP;simpa using fy,If _,mc _⟩;generalize cx:(⟨⟨false,g.start⟩,0,w.length⟩:Key)=root at J ⊢;refine aq ?_;refine WT.makeMap Z Z Z Z (λim k2=>?_);refine aq ?_;refine WT.aR hT Z Z Z Z Z Z Z Z Z Z Z Z Z Z (λil k3=>?_);refine aq ?_;refine WT.makeMap Z Z Z Z (λis la=>?_);refine aq ?_;refine WT.Lq j5 (key:=⟨⟨false,g.start⟩,0,w.length⟩) (m:=[]) hT 0 0 Z Z Z Z Z Z Z Z Z Z Z Z (aq ?_);refine AW.block (AW.ek (S:=BS) (λs=>[(12,.slice s.a s.L.length s.c),(14,.int .i64 (s.Kd:Nat)),(15,.int .i64 (s.i:Nat))]) (λs=>[(is,.map (aP j5 s.se))]::s.B::[(im,.map (aP j5 s.pe))]::[(i10,.cells false [.bool false,.int .i64 g.start,.int .i64 0,.int .i64 w.length])]::[(i8,.cells false [.slice none 0 0,.int .i64 0])]::[(i4,.cells false [.int .i64 g.ae,.int .i64 g.ay,.int .i64 g.start,.slice ga gm gc])]::own) (λs G=>cb vB G s.a s.L.length s.c s.B s.L/\Ny g w E root G s/\s.Kd<=most) (λs=>200001-s.i) ⟨0,[root],some ⟨il,0,none⟩,4,[(il,.cells false [.bool false,.int .i64 g.start,.int .i64 0,.int .i64 w.length])],[],cE [] root (.bool true),0⟩ sM (ah.flat (by rw[<-cx];exact sh _)) ⟨⟨rfl,.inr ⟨il,_,rfl,rfl,rfl,aG.single (R:=vB) (x:=root) (by rw[<-cx];rfl),by decide⟩⟩,?_⟩ ?_);{refine⟨⟨⟨by simp,ti.2 rfl,λk hk=>by rw[ti.1 hk];exact .root,λk=>?_⟩,λj k hj _=>absurd hj (T6 _),λj k hj _=>absurd hj (T6 _),rfl,If _⟩,If _⟩;show Abs.look (cE [] root (.bool true)) k=_;rw[Abs.fT];simp[Abs.look]};{intro s F1 bo hP;obtain⟨hb,P,ic⟩:=hP;have ab:∀k∈s.L,gC g w k:=λk hk=>(P.l.reach k hk).Es hg J;have ie:=td hg cp ab P.l.nd;have f2:=hr.mono bo;have ea:=hw.mono bo;have f3:=hE.mono bo;have f4:=hL.mono bo;refine qo ?_;refine AW.cond Z (λh2=>?_) (λh2=>?_);{have h2:s.i<s.L.length:=by{simpa using h2};obtain⟨k,hk⟩:∃k,s.L[s.i]?=some k:=⟨_,gE h2⟩;have ax:=ab k (gM hk);have f5:=P.l.reach k (gM hk);have f6:=w7 hg (E:=E) (w:=w) (show k.to<=30 by have:=ax.2.2;omega);have ch:=AP hg (E:=E) (w:=w) (s.L.take s.i) (λq t=>by have:=(ab q (List.mem_of_mem_take t)).2.2;omega);rw[Tg,<-P.Kd] at ch;have ig:s.Kd<=200000*29552672:=AS ch (UT zo (by decide));refine qo ?_;refine AW.block (qo ?_);refine WT.HS hT hb.vec Z Z Z Z Z Z Z Z Z zo (λb5 f7=>?_);refine WT.EO hT 1 hb.vec f7 hk Z Z Z Z Z Z Z Z Z (λl5 f8=>?_);obtain rfl:l5=_:=f8;refine WT.bE Tryz.func105 Z Z Z Z Z Z (Hk _ f4 g hg f2 ea cp f3 bi k ax.2.1 (by have:=ax.2.2;omega)) (λF2 v br hv=>?_);obtain⟨pa,pn,pc,rfl,a1⟩:=hv;have cj:=a1.len;have c3:=hb.mono br;have f9:=P.mono br;refine qo ?_;refine AW.cond Z (λh3=>?_) (λh3=>?_);{have h3:most<s.Kd+pn:=by{simp at h3;omega};refine qo ?_;refine AW.ret ⟨_,[],⟨_,_,⟨_,rfl,λG h0 s0=>aD (s0.has (p:=4) Z me) (aM hT rfl)⟩,⟨_,_,rfl,rfl,rfl⟩,rfl⟩,bF,rfl,.inr ⟨h1,.inr ⟨rfl,s.L.take (s.i+1),?_,λq t=>P.l.reach q (List.mem_of_mem_take t),?_⟩⟩⟩;{exact(P.l.nd).sublist (List.take_sublist ..)};{rw[tB hk,<-P.Kd,<-cj];exact h3}};{have h3:s.Kd+pn<=most:=by{simp at h3;omega};refine qo ?_;refine WT.HS hT c3.vec Z Z Z Z Z Z Z Z Z zo (λb6 gd=>?_);refine WT.EO hT 1 c3.vec gd hk Z Z Z Z Z Z Z Z Z (λl6 gl=>?_);obtain rfl:l6=_:=gl;refine qo ?_;refine WT.Am j5 (key:=k) hT 2 0 Z Z Z Z Z Z Z Z Z Z Z Z (qo ?_);refine AW.range (S:=IS) (λu=>[(12,.slice u.a u.L.length u.c)]) (λu=>[(is,.map (aP j5 u.se))]::u.B::[(im,.map (aP j5 (cE s.pe k (.slice pa pn pc))))]::[(i10,.cells false [.bool false,.int .i64 g.start,.int .i64 0,.int .i64 w.length])]::[(i8,.cells false [.slice none 0 0,.int .i64 0])]::[(i4,.cells false [.int .i64 g.ae,.int .i64 g.ay,.int .i64 g.start,.slice ga gm gc])]::own) (λj u G=>cb vB G u.a u.L.length u.c u.B u.L/\KM g w E root u.L u.se/\(∃x,u.L=s.L++x)/\∀p∈(bT g w E k).take j,∀q∈p.kids,q∈u.L) pn ⟨s.L,s.a,s.c,s.B,s.se⟩ Z Z Z Z Z Z Z Z Z zo rfl rfl (λ_=>rfl) (λ_=>rfl) sM oR ⟨c3,P.l,⟨[],by simp⟩,by simp⟩ ?_ ?_;{intro j u F3 ac hj c4;obtain⟨bn,c6,al,bt⟩:=c4;have eb:=a1.mono ac;refine D3 ?_;refine WT.bh hT eb Z Z Z Z Z Z Z Z Z zo (λp ec b7 ih lj ll lm ln lo c7=>?_);obtain⟨ka,kn,kc,rfl,a3⟩:=c7;have eg:=a3.len;have a4:=gM ec;have eh:p.kids.length<=4:=by{obtain⟨r,c8,_,_,h4⟩:=dJ.1 a4;rw[ml h4];exact(hg.right r (gM c8)).2.1};refine D3 ?_;refine WT.az hT Z Z Z Z Z Z (λi18 ip=>?_);refine D3 ?_;refine AW.range (S:=IS) (λu=>[(12,.slice u.a u.L.length u.c)]) (λu=>[(i18,.cells false [.int .i64 p.aB,.slice ka kn kc])]::[(is,.map (aP j5 u.se))]::u.B::[(im,.map (aP j5 (cE s.pe k (.slice pa pn pc))))]::[(i10,.cells false [.bool false,.int .i64 g.start,.int .i64 0,.int .i64 w.length])]::[(i8,.cells false [.slice none 0 0,.int .i64 0])]::[(i4,.cells false [.int .i64 g.ae,.int .i64 g.ay,.int .i64 g.start,.slice ga gm gc])]::own) (λq u G=>cb vB G u.a u.L.length u.c u.B u.L/\KM g w E root u.L u.se/\(∃x,u.L=s.L++x)/\(∀p∈(bT g w E k).take j,∀q∈p.kids,q∈u.L)/\∀x∈p.kids.take q,x∈u.L) kn u Z Z Z Z Z Z Z Z Z zo rfl rfl (λ_=>rfl) (λ_=>rfl) sM oR ⟨bn,c6,al,bt,by simp⟩ ?_ ?_;{intro q z F4 ad t dd;obtain⟨bv,af,bx,b0,a6⟩:=dd;have em:=a3.mono ad;have g2:∀k∈z.L,gC g w k:=λk hk=>(af.reach k hk).Es hg J;have ls:=td hg cp g2 af.nd;refine D3 ?_;refine WT.bh hT em Z Z Z Z Z Z Z Z Z zo (λx df b8 cn en eo a7 ep es C=>?_);obtain rfl:a7=_:=C;have g3:dZ g w E root x:=.Nb f5 a4 (gM df);refine D3 ?_;refine WT.az hT Z Z Z Z Z Z (λi20 ir=>?_);refine D3 ?_;refine WT.oq j5 (key:=x) hT 2 Z Z Z Z Z Z Z me Z Z Z (WT.gn (v':=.bool (decide (x∈z.L))) 101 Z ?_ ?_);{rw[af.seen];by_cases e:x∈z.L<;>simp[e]};refine D3 ?_;refine AW.cond Z (λh4=>?_) (λh4=>?_);{have h4:x∉z.L:=by{simpa using h4};refine D3 ?_;refine WT.Am j5 (key:=x) hT 2 0 Z Z Z Z Z Z Z Z Z Z Z Z (D3 ?_);refine WT.aR hT Z Z Z Z Z Z Z Z Z Z Z Z Z Z (λi9 dk=>?_);refine WT.aZ (ys:=[x]) hT 4 bv Z (λ_=>rfl) Z Z Z Z Z Z Z Z Z Z Z (λh0 s0=>aN hT s0 0 Z Z Z Z) (aG.single (R:=vB) (x:=x) rfl) Z (by decide) fj (λa5 c5 B5 U=>?_);refine D3 ?_;have g4:z.L.length+1=(z.L++[x]).length:=by{simp};rw[g4] at U ⊢;refine⟨⟨z.L++[x],a5,c5,B5,cE z.se x (.bool true)⟩,sM,ah.skip _ (ah.skip _ oR),U,af.add h4 g3,?_,λp' hp' q' b2=>Te _ (b0 p' hp' q' b2),?_⟩;{obtain⟨y,hy⟩:=bx;exact⟨y++[x],by dsimp only;rw[hy,By]⟩};{intro x' hx';rw[yo,df] at hx';rcases D1.1 hx' with hx' | hx';{exact Te _ (a6 x' hx')};{obtain rfl:=ti.1 hx';exact Tf _ (ti.2 rfl)}}};{have h4:x∈z.L:=by{simpa using h4};refine D3 ?_;refine⟨z,sM,ah.skip _ oR,bv,af,bx,b0,?_⟩;intro x' hx';rw[yo,df] at hx';rcases D1.1 hx' with hx' | hx';{exact a6 x' hx'};{obtain rfl:=ti.1 hx';exact h4}}};{intro z F4 ad dd;obtain⟨bv,af,bx,b0,a6⟩:=dd;rw[qs zo] at a6;refine⟨z,sM,cF,bv,af,bx,?_⟩;rw[yo,ec];intro p' hp' q' b2;rcases D1.1 hp' with hp' | hp';{exact b0 p' hp' q' b2};{obtain rfl:=ti.1 hp';exact a6 q' b2}}};{intro u F3 ac c4;obtain⟨bn,c6,⟨x3,al⟩,bt⟩:=c4;rw[qs zo] at bt;have et:∀(j:Nat) (q:Key),s.L[j]?=some q->u.L[j]?=some q:=λj q t=>by{rw[al,AT (gS t).1];exact t};have a8:∀(j:Nat) (q:Key),j<s.i+1->u.L[j]?=some q->s.L[j]?=some q:=λj q hj t=>by{rw[al,AT zo] at t;exact t};refine D3 ?_;refine⟨⟨s.i+1,u.L,u.a,u.c,u.B,cE s.pe k (.slice pa pn pc),u.se,s.Kd+pn⟩,?_,sM,ah.refl _,bn,?_⟩;{dsimp only;omega};{refine⟨⟨c6,λj q hj t=>?_,λj q hj t=>?_,?_,?_⟩,h3⟩;{have t:=a8 j q hj t;dsimp only;rw[Abs.fT];by_cases e:q=k;{subst e;exact⟨pa,pn,pc,by simp,a1.mono ac⟩};{rw[nw e];rcases Nat.lt_succ_iff_lt_or_eq.1 hj with hj | hj;{obtain⟨a9,n9,c9,h9,ba⟩:=f9.cr j q hj t;exact⟨a9,n9,c9,h9,ba.mono ac⟩};{subst hj;rw[hk] at t;exact absurd (aE t).symm e}}};{have t:=a8 j q hj t;intro p hp x hx;dsimp only;rcases Nat.lt_succ_iff_lt_or_eq.1 hj with hj | hj;{rw[al];exact Te _ (P.closed j q hj t p hp x hx)};{subst hj;rw[hk] at t;obtain rfl:=aE t;exact bt p hp x hx}};{dsimp only;have e:u.L.take (s.i+1)=s.L.take (s.i+1):=by{rw[al,T4 zo]};rw[e,tB hk,<-P.Kd,<-cj]};{dsimp only;have:=(gS (et _ _ hk)).1;omega}}}}};{have h2:s.i=s.L.length:=by{have:=P.le;simp at h2;omega};refine AW.exit (qo ?_);refine WT.iA 1 Tryz.func106 Z Z Z Z Z Z Z (λ_=>rfl) (EE _ hb.vec (λe=>by have:=P.l.first;rw[e] at this;cases this) zo) (λF2 v B2 br hv=>?_);refine WT.aw 1 Z Z (λF3 ac g6=>?_);have dy:=hv.arr ac g6;obtain⟨I,e0⟩:=zh ju s.L;have e3:=br.trans ac;generalize (Go.Sort.sort js s.L.toArray).toList=S at dy I e0;have lw:S.length=s.L.length:=I.length_eq;have aa:∀k,k∈S↔k∈s.L:=λk=>I.mem_iff;have hK:rq g w E root S:=by{refine⟨?_,λk hk=>P.l.reach k ((aa k).1 hk),(aa _).2 P.l.first,λk hk p hp q t=>?_⟩;{have g7:S.Nodup:=I.nodup_iff.2 P.l.nd;have:=e0.and (TP.1 g7);refine this.imp ?_;rintro x y ⟨h3,h4⟩;cases h5:js x y with| true=>{rfl}| false=>{exact absurd (HA x y h5 h3) h4}};{obtain⟨j,hj⟩:=Vc.1 ((aa k).1 hk);have g8:=(gS hj).1;exact(aa q).2 (P.closed j k zo hj p hp q t)}};have a1:∀k∈S,∃a n c,Abs.look s.pe k=some (.slice a n c)/\bk rP F3 a n c (bT g w E k):=λk hk=>by{obtain⟨j,hj⟩:=Vc.1 ((aa k).1 hk);have g8:=(gS hj).1;obtain⟨a9,n9,c9,h9,ba⟩:=P.cr j k zo hj;exact⟨a9,n9,c9,h9,ba.mono e3⟩};have d0:er g w E S<=most:=by{have e1:er g w E S=er g w E s.L:=(I.map _).sum_nat;have e2:=P.Kd;rw[h2,Uo] at e2;omega};refine qo ?_;refine WT.makeMap Z Z Z Z (λb4 iw=>?_);refine qo ?_;refine AW.range (S:=cd Key) (λ_=>[]) (λne=>[(b4,.map (aP j5 ne))]::[(is,.map (aP j5 s.se))]::[]::[(im,.map (aP j5 s.pe))]::[(i10,.cells false [.bool false,.int .i64 g.start,.int .i64 0,.int .i64 w.length])]::[(i8,.cells false [.slice none 0 0,.int .i64 0])]::[(i4,.cells false [.int .i64 g.ae,.int .i64 g.ay,.int .i64 g.start,.slice ga gm gc])]::own) (λj ne G=>∀k,Abs.look ne k=if k∈S.take j then some (.int .i64 (place S k:Nat)) else none) s.L.length [] Z Z Z Z Z Z Z Z Z zo rfl rfl (λ_=>rfl) (λ_=>rfl) sM oR (λk=>by simp[Abs.look]) ?_ ?_;{intro j ne F4 ad hj bb;have bc:=dy.mono ad;refine D3 ?_;refine WT.bh hT bc Z Z Z Z Z Z Z Z Z zo (λk bd b8 cn en eo a7 ep es C=>?_);obtain rfl:a7=_:=C;refine D3 ?_;refine WT.az hT Z Z Z Z Z Z (λi23 i0=>?_);refine D3 ?_;refine WT.Am j5 (key:=k) hT 1 0 Z Z Z Z Z Z Z Z Z Z Z Z (D3 ?_);refine⟨cE ne k (.int .i64 (j:Nat)),sM,ah.skip _ oR,λq=>?_⟩;rw[Abs.fT,bb,yo,bd];by_cases e:q=k;{subst e;rw[AO hK.nodup bd];simp};{simp[e]}};{intro ne F4 ad bb;rw[qs zo] at bb;have bc:=dy.mono ad;have e4:∀k∈S,∃a n c,Abs.look s.pe k=some (.slice a n c)/\bk rP F4 a n c (bT g w E k):=λk hk=>by{obtain⟨a9,n9,c9,h9,ba⟩:=a1 k hk;exact⟨a9,n9,c9,h9,ba.mono ad⟩};refine D3 ?_;refine WT.oq j5 (key:=⟨⟨false,g.start⟩,0,w.length⟩) hT 0 Z Z Z Z Z Z Z me Z Z Z (WT.gn (v':=.int .i64 (place S root:Nat)) 127 Z (by rw[cx,bb,n0 hK.first];rfl) (D3 ?_));refine WT.az hT Z Z Z Z Z Z (λi24 i1=>?_);refine D3 ?_;refine AW.range (S:=KS) (λ_=>[]) (λu=>u.B::[(i24,.cells false [.slice u.a u.n u.c,.int .i64 (place S root:Nat)])]::[(b4,.map (aP j5 ne))]::[(is,.map (aP j5 s.se))]::[]::[(im,.map (aP j5 s.pe))]::[(i10,.cells false [.bool false,.int .i64 g.start,.int .i64 0,.int .i64 w.length])]::[(i8,.cells false [.slice none 0 0,.int .i64 0])]::[(i4,.cells false [.int .i64 g.ae,.int .i64 g.ay,.int .i64 g.start,.slice ga gm gc])]::own) (λj u G=>cb wv G u.a u.n u.c u.B ((S.take j).map (mkNode g w E S))) s.L.length ⟨none,0,0,[]⟩ Z Z Z Z Z Z Z Z Z zo rfl rfl (λ_=>rfl) (λ_=>rfl) sM (ah.flat (sh _)) (by simpa using cb.cK _ _) ?_ ?_;{intro j u F5 d1 hj hu;have e5:=bc.mono d1;have g9:=hu.len;rw[tj,Tg] at g9;refine Ls ?_;refine WT.bh hT e5 Z Z Z Z Z Z Z Z Z zo (λk bd b8 cn en eo a7 ep es C=>?_);obtain rfl:a7=_:=C;have ca:=gM bd;obtain⟨pa,pn,pc,ha,e6⟩:=e4 k ca;have e7:=e6.mono d1;have i2:=e6.len;have ax:=(hK.reach k ca).Es hg J;have f6:=mG hg (E:=E) (w:=w) (show k.to<=12 by have:=ax.2.2;omega);refine Ls ?_;refine WT.az hT Z Z Z Z Z Z (λi26 i3=>?_);refine Ls ?_;refine WT.az hT Z Z Z Z Z Z (λi27 i5=>?_);refine Ls ?_;refine WT.oq j5 (key:=k) hT 7 Z Z Z Z Z Z Z me Z Z Z ?_;rw[ha];refine WT.gn (v':=.slice pa pn pc) 144 Z Z (Ls ?_);refine AW.range (S:=KS) (λ_=>[]) (λz=>z.B::[(i27,.cells false [.bool k.sym.term,.int .i64 k.sym.n,.int .i64 k.fJ,.int .i64 k.to,.slice z.a z.n z.c])]::[(i26,.cells false [.bool k.sym.term,.int .i64 k.sym.n,.int .i64 k.fJ,.int .i64 k.to])]::u.B::[(i24,.cells false [.slice u.a u.n u.c,.int .i64 (place S root:Nat)])]::[(b4,.map (aP j5 ne))]::[(is,.map (aP j5 s.se))]::[]::[(im,.map (aP j5 s.pe))]::[(i10,.cells false [.bool false,.int .i64 g.start,.int .i64 0,.int .i64 w.length])]::[(i8,.cells false [.slice none 0 0,.int .i64 0])]::[(i4,.cells false [.int .i64 g.ae,.int .i64 g.ay,.int .i64 g.start,.slice ga gm gc])]::own) (λq z G=>cb oA G z.a z.n z.c z.B (((bT g w E k).take q).map (eQ S))) pn ⟨none,0,0,[]⟩ Z Z Z Z Z Z Z Z Z zo rfl rfl (λ_=>rfl) (λ_=>rfl) sM (ah.flat (sh _)) (by simpa using cb.cK _ _) ?_ ?_;{intro q z F6 bf t hz;have fa:=e7.mono bf;have d2:=hz.len;rw[tj,Tg] at d2;refine Fq ?_;refine WT.bh hT fa Z Z Z Z Z Z Z Z Z zo (λp fb b9 i7 l2 l3 l4 l7 l8 d3=>?_);obtain⟨ka,kn,kc,rfl,a3⟩:=d3;have eg:=a3.len;have a4:=gM fb;have eh:p.kids.length<=4:=by{obtain⟨r,c8,_,_,h4⟩:=dJ.1 a4;rw[ml h4];exact(hg.right r (gM c8)).2.1};refine Fq ?_;refine WT.az hT Z Z Z Z Z Z (λi29 jb=>?_);refine Fq ?_;refine WT.az hT Z Z Z Z Z Z (λi30 jn=>?_);refine Fq ?_;refine AW.range (S:=KS) (λ_=>[]) (λy=>y.B::[(i30,.cells false [.int .i64 p.aB,.slice y.a y.n y.c])]::[(i29,.cells false [.int .i64 p.aB,.slice ka kn kc])]::z.B::[(i27,.cells false [.bool k.sym.term,.int .i64 k.sym.n,.int .i64 k.fJ,.int .i64 k.to,.slice z.a z.n z.c])]::[(i26,.cells false [.bool k.sym.term,.int .i64 k.sym.n,.int .i64 k.fJ,.int .i64 k.to])]::u.B::[(i24,.cells false [.slice u.a u.n u.c,.int .i64 (place S root:Nat)])]::[(b4,.map (aP j5 ne))]::[(is,.map (aP j5 s.se))]::[]::[(im,.map (aP j5 s.pe))]::[(i10,.cells false [.bool false,.int .i64 g.start,.int .i64 0,.int .i64 w.length])]::[(i8,.cells false [.slice none 0 0,.int .i64 0])]::[(i4,.cells false [.int .i64 g.ae,.int .i64 g.ay,.int .i64 g.start,.slice ga gm gc])]::own) (λe y G=>cb eV G y.a y.n y.c y.B ((p.kids.take e).map (place S))) kn ⟨none,0,0,[]⟩ Z Z Z Z Z Z Z Z Z zo rfl rfl (λ_=>rfl) (λ_=>rfl) sM (ah.flat (sh _)) (by simpa using cb.cK _ _) ?_ ?_;{intro e y F7 ao he hy;have fc:=a3.mono ao;have hc:=hy.len;rw[tj,Tg] at hc;refine Hz ?_;refine WT.bh hT fc Z Z Z Z Z Z Z Z Z zo (λx fd ma hd j0 j2 fi j3 kb cc=>?_);obtain rfl:fi=_:=cc;have hf:=hK.closed k ca p a4 x (gM fd);refine Hz ?_;refine WT.az hT Z Z Z Z Z Z (λi32 kd=>?_);refine Hz ?_;refine AW.draw (ps:=[(1,5)]) Z Z (Hz ?_);refine WT.oq j5 (key:=x) hT 9 Z Z Z Z Z Z Z me Z Z Z (WT.gn (v':=.int .i64 (place S x:Nat)) 164 Z (by rw[bb,n0 hf];rfl) (WT.aR hT Z Z Z Z Z Z Z Z Z Z Z Z Z Z (λi9 dk=>?_)));refine WT.aZ (ys:=[place S x]) hT 2 hy Z (λ_=>rfl) Z Z Z Z Z Z Z Z Z Z Z (λh0 s0=>aN hT s0 0 Z Z Z Z) (aG.single (R:=eV) (x:=place S x) rfl) Z (by decide) fj (λa5 c5 B5 U=>?_);refine Hz ?_;refine⟨lU,?_⟩;refine⟨⟨a5,y.n+1,c5,B5⟩,sM,ah.skip _ (ah.skip _ oR),?_⟩;dsimp only;rw[yo,fd,Th];exact U};{intro y F7 ao hy;rw[qs zo] at hy;refine AW.aw 0 Z Z (λF8 fk hh=>?_);have hi:=hy.frozen fk hh;have hl:=(hz.mono ao).mono fk;refine Hz ?_;refine WT.aR hT Z Z Z Z Z Z Z Z Z Z Z Z Z Z (λi9 dk=>?_);refine WT.aZ (ys:=[eQ S p]) hT 4 hl Z (λ_=>rfl) Z Z Z Z Z Z Z Z Z Z Z (λh0 s0=>aN hT s0 0 Z Z Z Z) (aG.single (R:=oA) (x:=eQ S p) ⟨_,_,_,rfl,hi,by show (p.kids.map (place S)).length<=_;rw[tj];omega⟩) Z (by decide) fj (λa5 c5 B5 U=>?_);refine Hz ?_;refine⟨⟨a5,z.n+1,c5,B5⟩,sM,ah.skip _ (ah.skip _ (ah.skip _ (ah.skip _ oR))),?_⟩;dsimp only;rw[yo,fb,Th];exact U}};{intro z F6 bf hz;rw[qs zo] at hz;refine AW.aw 0 Z Z (λF7 ao hm=>?_);have d4:=hz.frozen ao hm;have hn:=(hu.mono bf).mono ao;have d2:=d4.len;rw[tj] at d2;refine Fq ?_;refine WT.bj Tryz.func108 Z Z Z Z Z Z (vM _ d4 (Dw hK ca) zo) (λv hv=>?_);refine Fq ?_;refine WT.aR hT Z Z Z Z Z Z Z Z Z Z Z Z Z Z (λi9 dk=>?_);refine WT.aZ (ys:=[mkNode g w E S k]) hT 4 hn Z (λ_=>rfl) Z Z Z Z Z Z Z Z Z Z Z (λh0 s0=>aN hT s0 0 Z Z Z Z) (aG.single (R:=wv) (x:=mkNode g w E S k) ⟨_,_,_,rfl,d4⟩) Z (by decide) fj (λa5 c5 B5 U=>?_);refine Fq ?_;refine⟨⟨a5,u.n+1,c5,B5⟩,sM,ah.skip _ (ah.skip _ (ah.skip _ (ah.skip _ oR))),?_⟩;dsimp only;rw[yo,bd,Th];exact U}};{intro u F5 d1 hu;rw[qs zo] at hu;refine AW.aw 0 Z Z (λF6 bf ho=>?_);have hs:=hu.frozen bf ho;refine Fq ?_;exact AW.ret ⟨_,[],⟨_,_,⟨_,rfl,λG h0 s0=>aD (s0.has (p:=7) rfl me) (aM hT rfl)⟩,⟨_,_,rfl,rfl,rfl⟩,rfl⟩,bF,rfl,.inr ⟨h1,.inl ⟨S,u.a,u.n,u.c,rfl,hK,hs,d0⟩⟩⟩}}}}}
def fR:List Nat->Nat
 | []=>1
 | a::l=>a*fR l
theorem As{α:Type}{f h:α->Nat}:∀(l:List α),(∀x∈l,f x<=h x)->fR (l.map f)<=fR (l.map h)
 | [],_=>mc _
 | a::l,g=>UT (g a me) (As l λx i=>g x (mb _ i))
theorem uJ{α:Type}{f h:α->Nat}:∀(l:List α),(∀x∈l,f x<=h x)->(l.map f).sum<=(l.map h).sum
 | [],_=>mc _
 | a::l,g=>by{simp only[y2,TL];exact Nat.add_le_add (g a me) (uJ l λx i=>g x (mb _ i))}
theorem CR{α:Type}{f:α->Nat}:∀(l:List α),(∀x∈l,1<=f x)->1<=fR (l.map f)
 | [],_=>mc _
 | a::l,g=>UT (g a me) (CR l λx i=>g x (mb _ i))
theorem Co:∀(l m:List Nat),fR (l++m)=fR l*fR m
 | [],m=>by simp[fR]
 | a::l,m=>by simp only[TI,fR,Co l m,Nat.mul_assoc]
theorem Hi{l:List Nat}(h:0∈l):fR l=0:=by
 induction l with| nil=>{cases h}| cons a l g=>{rcases PJ.1 h with h | h;{simp[fR,<-h]};{simp[fR,g h]}}
theorem uu{α:Type}{f:α->Nat}:∀{l:List α} {x:α},x∈l->f x<=(l.map f).sum
 | a::l,x,h=>by{simp only[y2,TL];rcases PJ.1 h with rfl | h;{omega};{have:=uu (f:=f) h;omega}}
theorem EK{l:List Nat}{x:Nat}(h:x∈l)(hp:∀y∈l,1<=y):x<=fR l:=by
 induction l with| nil=>{cases h}| cons a l i=>{have h1:1<=fR l:=by{have:=CR (f:=id) l λy g=>hp y (mb _ g);simpa using this};rcases PJ.1 h with rfl | h;{exact AS zo (Nat.mul_le_mul_left _ h1)};{have:=i h λy g=>hp y (mb _ g);have j:=hp a me;exact AS zo (UT j this)}}
def kC(x:Node):Nat:=if x.key.sym.term=true then 1 else 0
def j6(f:Nat->Nat)(p:gV):Nat:=fR (p.kids.map f)
def bG(Ns:List Node):Nat->Nat->Nat
 | 0,_=>0
 | d+1,v=>match Ns[v]? with
  | some x=>kC x+(x.cr.map (j6 (bG Ns d))).sum
  | none=>0
theorem z6(Ns:List Node):∀(d v:Nat),bG Ns d v<=bG Ns (d+1) v
 | 0,v=>If _
 | d+1,v=>by{show bG Ns (d+1) v<=bG Ns (d+1+1) v;unfold bG;split;{exact Nat.add_le_add_left (uJ _ λp _=>As _ λu _=>z6 Ns d u) _};{exact mc _}}
theorem pB(Ns:List Node){d e:Nat}(h:d<=e)(v:Nat):bG Ns d v<=bG Ns e v:=by
 induction e with| zero =>{obtain rfl : d = 0 := by{omega};exact mc _}| succ e g=>{rcases IN d (e+1) with h2 | h2;{exact AS (g zo) (z6 Ns e v)};{obtain rfl:d=e+1:=by{omega};exact mc _}}
def jl(T:Nat->Nat)(c:Nat):Prop:=∃D,∀d,D<=d->T d=c
theorem jl.uniq{T:Nat->Nat}{a b:Nat}(h:jl T a)(g:jl T b):a=b:=by
 obtain⟨D,h⟩:=h;obtain⟨i,g⟩:=g;rw[<-h (max D i) zo,g (max D i) zo]
noncomputable def Nw(T:Nat->Nat):Nat:=@dite _ (∃c,jl T c) (Classical.propDecidable _) (λh=>h.choose) (λ_=>0)
theorem jl.lim{T:Nat->Nat}{c:Nat}(h:jl T c):jl T (Nw T):=by
 unfold Nw;rw[dif_pos ⟨c,h⟩];exact(⟨c,h⟩:∃c,jl T c).choose_spec
theorem CO{α:Type}{T:α->Nat->Nat}{c:α->Nat}:∀(l:List α),(∀x∈l,jl (T x) (c x))->∃D,∀d,D<=d->∀x∈l,T x d=c x
 | [],_=>⟨0,λ_ _ x hx=>by cases hx⟩
 | a::l,h=>by{(obtain⟨g,h1⟩:=h a me;obtain⟨i,j⟩:=CO l λx hx=>h x (mb _ hx);refine⟨max g i,λd o x hx=>?_⟩;rcases PJ.1 hx with rfl | hx);{exact h1 d zo};{exact j d zo x hx}}
def Nr(Ns:List Node)(u v:Nat):Prop:=∃x p,Ns[v]?=some x/\p∈x.cr/\u∈p.kids
theorem Hq{Ns:List Node}{v:Nat}{x:Node}(g:Ns[v]?=some x)(c:Nat->Nat)(h:∀u,Nr Ns u v->jl (λd=>bG Ns d u) (c u)) :
  jl (λd=>bG Ns d v) (kC x+(x.cr.map (j6 c)).sum):=by
 obtain⟨D,i⟩:=CO (T:=λu d=>bG Ns d u) (c:=c) (x.cr.flatMap (·.kids)) λu hu=>by{obtain⟨p,hp,hu⟩:=Up.1 hu;exact h u ⟨x,p,g,hp,hu⟩};refine⟨D+1,λd l=>?_⟩;obtain⟨d,rfl⟩:∃j,d=j+1:=⟨d-1,by omega⟩;show bG Ns (d+1) v=_;unfold bG;rw[g];simp only;congr 2;apply Uc;intro p hp;unfold j6;congr 1;apply Uc;intro u hu;exact i d zo u (Up.2 ⟨p,hp,hu⟩)
inductive Path(Ns:List Node):Nat->Nat->Prop
 | one {v u:Nat}:Nr Ns u v->Path Ns v u
 | step {v u z:Nat}:Path Ns v u->Nr Ns z u->Path Ns v z
theorem Path.trans{Ns:List Node}{a b c:Nat}(h:Path Ns a b)(g:Path Ns b c):Path Ns a c:=by
 induction g with| one k=>{exact .step h k}| step _ k i=>{exact .step i k}
def qE(T:Nat->Nat):Prop:=∀B,∃d,B<=T d
section
variable {Ns:List Node}(hpr:∀v,v<Ns.length->∃d,1<=bG Ns d v)(hkid:∀u v,Nr Ns u v->u<Ns.length)
include hpr hkid
omit hkid in
theorem Fh:∃D,∀d,D<=d->∀v,v<Ns.length->1<=bG Ns d v:=by
 have:∀n,n<=Ns.length->∃D,∀d,D<=d->∀v,v<n->1<=bG Ns d v:=by{intro n;induction n with| zero=>{intro _;exact⟨0,λ_ _ v g=>absurd g (T6 _)⟩}| succ n i=>{(intro l;obtain⟨D,j⟩:=i zo;obtain⟨e,he⟩:=hpr n zo;refine⟨max D e,λd o v g=>?_⟩;rcases IN v n with h | h);{exact j d zo v h};{obtain rfl:v=n:=by{omega};exact AS he (pB Ns zo v)}}};exact this _ (mc _)
omit hpr in
theorem L3{D:Nat}(i:∀d,D<=d->∀v,v<Ns.length->1<=bG Ns d v){u v:Nat}(hk:Nr Ns u v){d:Nat}(j:D<=d):bG Ns d u<=bG Ns (d+1) v:=by
 obtain⟨x,p,g,hp,hu⟩:=hk;show _<=bG Ns (d+1) v;(conv=>rhs;unfold bG);rw[g];simp only;refine AS ?_ (AS (uu (f:=j6 (bG Ns d)) hp) (Nat.le_add_left _ _));refine EK (Ud hu) ?_;intro y l;obtain⟨z,o,rfl⟩:=x6.1 l;exact i d j z (hkid z v ⟨x,p,g,hp,o⟩)
omit hpr in
theorem IE{D:Nat}(i:∀d,D<=d->∀v,v<Ns.length->1<=bG Ns d v){u v:Nat}(h:Path Ns v u):∃L,1<=L/\∀d,D<=d->bG Ns d u<=bG Ns (d+L) v:=by
 induction h with| one k=>{exact⟨1,mc _,λd g=>L3 hkid i k g⟩}| @step u z _ k l=>{obtain⟨L,h1,o⟩:=l;refine⟨L+1,by omega,λd g=>?_⟩;have r:=L3 hkid i k g;have j:=o (d+1) zo;rw[show d+1+L=d+(L+1) by omega] at j;exact AS r j}
omit hkid in
theorem wi{v:Nat}(i:v<Ns.length):∃m,bG Ns m v=0/\1<=bG Ns (m+1) v:=by
 obtain⟨d,g⟩:=hpr v i;induction d with| zero=>{exact absurd g (by simp[bG])}| succ d j=>{by_cases h:1<=bG Ns d v;{exact j h};{exact⟨d,by omega,g⟩}}
omit hpr in
theorem Lz{D:Nat}(t:∀d,D<=d->∀v,v<Ns.length->1<=bG Ns d v){u v:Nat}(hk:Nr Ns u v){m:Nat}(hm:1<=bG Ns (m+1) v)(j:bG Ns m u=0){d:Nat}(C:D<=d)(o:m<=d) :
  bG Ns d u+1<=bG Ns (d+1) v:=by
 obtain⟨x,p,r,hp,hu⟩:=hk;have g:=hm;unfold bG at g;rw[r] at g;simp only at g;have i:bG Ns (d+1) v=kC x+(x.cr.map (j6 (bG Ns d))).sum:=by{show bG Ns (d+1) v=_;(conv=>lhs;unfold bG);rw[r]};rw[i];obtain⟨I,J,P⟩:=List.append_of_mem hp;have R:j6 (bG Ns m) p=0:=Hi (by rw[<-j];exact Ud hu);have U:bG Ns d u<=j6 (bG Ns d) p:=by{refine EK (Ud hu) ?_;intro y hy;obtain⟨z,hz,rfl⟩:=x6.1 hy;exact t d C z (hkid z v ⟨x,p,r,hp,hz⟩)};have mono:∀l:List gV,(l.map (j6 (bG Ns m))).sum<=(l.map (j6 (bG Ns d))).sum:=λl=>uJ l λq _=>As _ λz _=>pB Ns o z;have m1:=mono I;have m2:=mono J;rw[P] at g ⊢;simp only[Th,y2,Uw,TL] at g ⊢;omega
theorem Bn{u:Nat}(h:Path Ns u u):∃z,Path Ns u z/\(qE λd=>bG Ns d z):=by
 obtain⟨D,U⟩:=Fh hpr;have main:∀{a b:Nat},Path Ns a b->∀g j,bG Ns g a=0->1<=bG Ns (g+1) a->bG Ns j b=0->1<=bG Ns (j+1) b->g<=j->
   ∃v z m,(a=v\/Path Ns a v)/\Nr Ns z v/\(z=b\/Path Ns z b)/\1<=bG Ns (m+1) v/\bG Ns m z=0:=by
  intro a b t
  induction t with
  | @one b k=>
   intro g j h1 i h3 h4 C;exact⟨a,b,g,.inl rfl,k,.inl rfl,i,by have:=pB Ns C b;omega⟩
  | @step c b l k I=>
   intro g j h1 i h3 h4 C;have J:c<Ns.length:=by cases l with
    | one k=>exact hkid _ _ k
    | step _ k=>exact hkid _ _ k
   obtain⟨r,g1,g2⟩:=wi hpr J;by_cases P:g<=r
   ·obtain⟨v,z,m,q1,o,q3,q4,q5⟩:=I g r h1 i g1 g2 P;refine⟨v,z,m,q1,o,.inr ?_,q4,q5⟩;rcases q3 with rfl | q3
    ·exact .one k
    ·exact .step q3 k
   ·exact⟨c,b,r,.inr l,k,.inl rfl,g2,by have:=pB Ns (show r<=j by omega) b;omega⟩
 have R:u<Ns.length:=by cases h with
  | one k=>exact hkid _ _ k
  | step _ k=>exact hkid _ _ k
 obtain⟨mu,g1,g2⟩:=wi hpr R;obtain⟨v,z,m,q1,o,q3,q4,q5⟩:=main h mu mu g1 g2 g1 g2 (mc _);have hzv:z=v\/Path Ns z v:=by
  rcases q3 with rfl | q3
  ·rcases q1 with rfl | q1
   ·exact .inl rfl
   ·exact .inr q1
  ·rcases q1 with rfl | q1
   ·exact .inr q3
   ·exact .inr (q3.trans q1)
 obtain⟨L,hL⟩:∃L,∀d,D<=d->bG Ns d v<=bG Ns (d+L) z:=by
  rcases hzv with rfl | hzv
  ·exact⟨0,λd _=>mc _⟩
  ·obtain⟨L,_,i⟩:=IE hkid U hzv;exact⟨L,i⟩
 refine⟨z,?_,λB=>?_⟩
 ·rcases q1 with rfl | q1
  ·exact .one o
  ·exact .step q1 o
 ·have:∃d,D<=d/\m<=d/\B<=bG Ns d z:=by
   induction B with
   | zero=>exact⟨max D m,by omega,by omega,If _⟩
   | succ B I=>
    obtain⟨d,h1,i,h3⟩:=I;refine⟨d+1+L,by omega,by omega,?_⟩;have h4:=Lz hkid U o q4 q5 h1 i;have C:=hL (d+1) zo;omega
  obtain⟨d,_,_,h⟩:=this;exact⟨d,h⟩
theorem DM{v u:Nat}(h:Path Ns v u)(hu:qE λd=>bG Ns d u):qE λd=>bG Ns d v:=by
 obtain⟨D,g⟩:=Fh hpr;obtain⟨L,_,i⟩:=IE hkid g h;intro B;obtain⟨d,j⟩:=hu B;refine⟨max d D+L,?_⟩;have h1:=i (max d D) zo;have l:=pB Ns (show d<=max d D by omega) u;dsimp only at j ⊢;omega
end
def dV:Nat:=1000000000
def j7(T:Nat->Nat)(c:Int):Prop:=(∃n,jl T n/\c=(min n dV:Nat))\/(qE T/\c=-1)
theorem NG(a b:Nat):min (min a dV*min b dV) dV=min (a*b) dV:=by
 rcases Ts a with rfl | ha;{simp};rcases Ts b with rfl | hb;{simp};have h1:dV=1000000000:=rfl;by_cases h:a<=dV;{by_cases j:b<=dV;{rw[Ul h,Ul j]};{have g:dV<=a*b:=AS zo (Nat.le_mul_of_pos_left b ha);have i:dV<=min a dV*min b dV:=by{rw[Ul h,U5 zo];exact Nat.le_mul_of_pos_left _ ha};rw[U5 g,U5 i]}};{have g:dV<=a*b:=AS zo (VP a hb);have i:dV<=min a dV*min b dV:=by{rw[U5 (by omega:dV<=a)];exact VP _ zo};rw[U5 g,U5 i]}
theorem NX(a b:Nat):min (min a dV+min b dV) dV=min (a+b) dV:=by omega
end Go.Proofs.D