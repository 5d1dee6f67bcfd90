/-
  Walks: what functions of the program do, over the abstract machine.
-/
import Derived.Test.YtnbhiijpjbnfaaaDoorCtx
import Derived.Sort.AssemblyPlain
import Derived.Sort.LotD5
import Derived.Sort.LotD4
import Derived.Sort.Walk13a
set_option linter.unusedVariables false
set_option maxRecDepth 20000
set_option maxHeartbeats 0
open Go Go.Abs Go.Proofs Go.Proofs.D
namespace Go.Proofs.D
theorem tmod_below(x m:Int)(hm:0<m):x % m=if x.tmod m<0 then x.tmod m+m else x.tmod m:=by
 rcases Int.le_total 0 x with h | h
 ·rw[Int.tmod_eq_emod_of_nonneg h,if_neg];have:=Int.emod_nonneg x (show m≠0 by omega);omega
 ·have h1:=Int.tmod_add_mul_tdiv x m;have h2:x.tmod m≤0:=by have:=Int.tmod_nonneg m (show 0≤-x by omega);rw[Int.neg_tmod] at this;omega
  have h3:-m<x.tmod m:=by have:=Int.lt_tmod_of_pos x hm;omega
  split
  ·rename_i h4;have:x=(x.tmod m+m)+m*(x.tdiv m-1):=by rw[Int.mul_sub];omega
   rw[show x % m=((x.tmod m+m)+m*(x.tdiv m-1)) % m by rw[←this],Int.add_mul_emod_self_left];exact Int.emod_eq_of_lt zo zo
  ·have h5:x.tmod m=0:=by omega
   rw[h5];exact Int.emod_eq_zero_of_dvd (Int.dvd_of_tmod_eq_zero h5)
def below(x:Int)(m:Nat):Nat:=(x % (m:Int)).toNat
theorem below_lt(x:Int){m:Nat}(h:0<m):below x m<m:=by
 unfold below;have h1:=Int.emod_nonneg x (show (m:Int)≠0 by omega);have h2:=Int.emod_lt_of_pos x (show 0<(m:Int) by omega);omega
theorem below_spec(F:Frz)(x:Int)(m:Nat)(hm:0<m)(hm2:m≤9223372036854775807):Abs.Spec CC 43 [.int .i64 x,.int .i64 m] F [] fun _ v o=>o=[]∧v=.int .i64 (below x m:Nat):=by
 have e1:=tmod_below x m zo;have e2:-(m:Int)<x.tmod m:=Int.lt_tmod_of_pos x zo;have e3:(below x m:Int)=x % (m:Int):=by
  unfold below;exact Int.toNat_of_nonneg (Int.emod_nonneg x (show (m:Int)≠0 by omega))
 refine Abs.Spec.fn (n:=14) Tryd.func43 rfl rfl fun own=>?_;refine zB4 ?_;refine WT.remT Z Z Z Z Z Z zo ?_;refine zB4 ?_;refine AW.cond Z (fun hc=>?_) (fun hc=>?_)
 ·have hc:=of_decide_eq_true hc;refine zB4 ?_;refine AW.ret ⟨_,[],⟨_,_,rfl,rfl,rfl⟩,List.Sublist.refl _,rfl,?_⟩;show Value.int .i64 _=_;rw[e3,e1,if_pos hc]
 ·have hc:=of_decide_eq_false hc;refine zB4 ?_;refine AW.ret ⟨_,[],⟨_,_,rfl,rfl,rfl⟩,List.Sublist.refl _,rfl,?_⟩;show Value.int .i64 _=_;rw[e3,e1,if_neg hc]
def StreamB(F:Frz)(i:Nat)(B:List (Nat×Blk))(l:List Int):Prop:=∃a n c,B=[(i,.cells false [.slice a n c])]∧Arr tInt F a n c l
theorem StreamB.mono{F G:Frz}{i:Nat}{B:List (Nat×Blk)}{l:List Int}(h:StreamB F i B l)(hF:Frz.le F G):StreamB G i B l:=by
 obtain⟨a,n,c,e,h⟩:=h;exact⟨a,n,c,e,h.mono hF⟩
theorem next_spec(F:Frz)(i:Nat){B:List (Nat×Blk)}{l:List Int}(hl:StreamB F i B l)(m:Nat)(hm:0<m)(hm2:m≤9223372036854775807) :
  Abs.Spec CC 41 [.pointer (some ⟨i,0,none⟩),.int .i64 m] F [B] fun _ v o=>∃B',o=[B']∧∃r l',v=.int .i64 (r:Nat)∧r<m∧StreamB F i B' l':=by
 obtain⟨a,len,c,rfl,hl⟩:=hl;refine Abs.Spec.fn (n:=29) Tryd.func41 rfl rfl fun own=>?_;have hlen:=hl.len;refine zB4 ?_;refine AW.cond Z (fun hc=>?_) (fun hc=>?_)
 ·have h0:len=0:=by simpa using hc
  refine zB4 ?_;exact AW.ret ⟨_,[_],⟨_,_,rfl,rfl,rfl⟩,List.Sublist.refl _,_,rfl,0,l,rfl,hm,a,len,c,rfl,hl⟩
 ·have h0:len≠0:=by simpa using hc
  have hlt:0<l.length:=by omega
  refine zB4 ?_;refine WT.idxL (j:=0) hT hl Z Z Z Z Z Z Z Z Z hlt (fun x hx b off ro cs lx hb hp hrel=>?_);obtain rfl:lx=[.int .i64 x]:=hrel;refine zB4 ?_;obtain⟨a',c',hs,ha'⟩:=hl.slice (C:=CC) (lo:=1) (hi:=len) zo (Nat.le_refl _) hT (t:=22) Z Z Z (some (.int .i64 1)) none rfl rfl;refine WT.slice Z Z Z Z Z Z Z Z hs ?_;refine zB4 ?_;refine WT.callV Tryd.func43 Z Z Z Z Z Z (below_spec _ x m hm hm2) (fun v hv=>?_);subst hv;refine zB4 ?_;exact AW.ret ⟨_,[_],⟨_,_,rfl,rfl,rfl⟩,List.Sublist.refl _,_,rfl,below x m,_,rfl,below_lt x hm,a',len-1,c',rfl,ha'⟩
theorem take_all{α:Type}{p:α→Prop}{l:List α}{j:Nat}{x:α}(hx:l[j]?=some x)(h:∀y∈l.take j,p y)(h1:p x):∀y∈l.take (j+1),p y:=by
 intro y hy;rw[List.take_add_one,hx] at hy;simp at hy;rcases hy with hy | rfl
 ·exact h y hy
 ·exact h1
theorem has_spec(F:Frz){a:Option Addr}{m c:Nat}{rs:List Rule}(h:Arr tRule F a m c rs)(hm:m≤1000000){left:Nat}{b:Option Addr}{n d:Nat}{right:List Sym}(hr:Arr tSym F b n d right)(hn:n≤1000000) :
  Abs.Spec CC 42 [.slice a m c,.agg ⟨[.int .i64 left,.slice b n d]⟩] F [] fun F' v o=>o=[]∧v=.bool (decide (⟨left,right⟩∈rs)):=by
 refine Abs.Spec.fn (n:=52) Tryd.func42 rfl rfl fun own=>?_;have hlen:=h.len;have hrlen:=hr.len;refine AW.seq (AW.reg ?_);refine WT.boxT Z Z Z Z Z Z (fun i0 hi0=>?_);refine zB4 ?_;refine AW.range (S:=Unit) (fun _=>[]) (fun _=>_) (fun j _ _=>∀x∈rs.take j,x≠⟨left,right⟩) m () Z Z Z Z Z Z Z Z Z zo Z Z (fun _=>rfl) (fun _=>rfl) sM oR (by simp) ?_ ?_
 ·intro j _ F' hF hj hP;have h:=h.mono hF;have hr:=hr.mono hF;refine zB4 ?_;refine WT.idxL hT h Z Z Z Z Z Z Z Z Z zo (fun x hx b1 off ro cs lx hb hp hrel=>?_);obtain⟨b2,n2,d2,rfl,hx2⟩:=hrel;have hx2len:=hx2.len;refine zB4 ?_;refine WT.allocT hT Z Z Z Z Z Z (fun i1 hi1=>?_);refine zB4 ?_;have fin:x≠⟨left,right⟩→∀y∈rs.take (j+1),y≠⟨left,right⟩:=take_all hx hP;refine WT.split 20 Z (fun hne=>?_) (fun hne=>?_)
  ·refine zB4 ?_;refine AW.cond Z (fun _=>?_) (fun hc=>(by cases hc));refine AW.exit ⟨(),sM,zow,fin ?_⟩;intro e;subst e;simp at hne
  ·refine zB4 ?_;refine AW.cond Z (fun hc=>?_) (fun hc=>?_)
   ·refine AW.exit ⟨(),sM,zow,fin ?_⟩;simp at hc;intro e;rw[e] at hx2len;simp at hx2len;omega
   ·have hc:n2=n:=by simp at hc;omega
    have hne:x.left=left:=by simp at hne;omega
    refine zB4 ?_;refine AW.range (S:=Bool) (fun s=>[(7,.bool s)]) (fun _=>_) (fun j s _=>s=decide (x.right.take j=right.take j)) n2 true Z Z Z Z Z Z Z Z Z zo Z Z (fun _=>rfl) (fun _=>rfl) sM oR (by simp) ?_ ?_
    ·intro q s F'' hF2 hq hP2;have hx2:=hx2.mono hF2;have hr:=hr.mono hF2;have hlt1:q<x.right.length:=by omega
     have hlt2:q<right.length:=by omega
     have tk:(x.right.take (q+1)=right.take (q+1))↔(x.right.take q=right.take q∧x.right[q]=right[q]):=by
      rw[List.take_add_one,List.take_add_one,gE hlt1,gE hlt2];constructor
      ·intro he;have:=List.append_inj' he rfl;simpa using this
      ·rintro⟨e1,e2⟩;rw[e1,e2]
     refine zB4 ?_;refine WT.split 36 Z (fun hs=>?_) (fun hs=>?_)
     ·refine zB4 ?_;refine WT.idxL hT hx2 Z Z Z Z Z Z Z Z Z hlt1 (fun y hy b3 off3 ro3 cs3 l3 hb3 hp3 hrel3=>?_);obtain rfl:=hrel3;refine zB4 ?_;refine WT.idxL hT hr Z Z Z Z Z Z Z Z Z hlt2 (fun z hz b4 off4 ro4 cs4 l4 hb4 hp4 hrel4=>?_);obtain rfl:=hrel4;refine zB4 ?_;refine⟨_,sM,zow,?_⟩;rw[gE hlt1] at hy;rw[gE hlt2] at hz;cases hy;cases hz;rw[hs] at hP2;have:=sym_eq x.right[q] right[q];refine this.trans ?_;have h1:=of_decide_eq_true hP2.symm;simp[tk,h1]
     ·refine zB4 ?_;refine⟨_,sM,zow,?_⟩;rw[hs] at hP2;have h1:=of_decide_eq_false hP2.symm;simp[tk,h1]
    ·intro s F'' hF2 hs;rw[List.take_of_length_le zo,List.take_of_length_le zo] at hs;refine zB4 ?_;refine AW.cond Z (fun hc=>?_) (fun hc=>?_)
     ·refine zB4 ?_;refine AW.ret ⟨_,[],⟨_,_,rfl,rfl,rfl⟩,(List.sublist_cons_self ..).trans (List.sublist_cons_self ..),rfl,?_⟩;rw[hc] at hs;have e:=of_decide_eq_true hs.symm;have:(⟨left,right⟩:Rule)∈rs:=by
       have:x=⟨left,right⟩:=by cases x;simp at hne e;simp[hne,e]
       rw[←this];exact gM hx
      simp[this,tupleA]
     ·refine zB4 ?_;refine⟨(),sM,zow,fin ?_⟩;rintro rfl;rw[hc] at hs;simp at hs
 ·intro _ F' hF hP;refine zB4 ?_;refine AW.ret ⟨_,[],⟨_,_,rfl,rfl,rfl⟩,List.sublist_cons_self ..,rfl,?_⟩;rw[List.take_of_length_le zo] at hP;have:(⟨left,right⟩:Rule)∉rs:=fun hm=>hP _ hm rfl;simp[this,tupleA]
def SymOk(t n:Nat)(y:Sym):Prop:=if y.term=true then y.n<t else y.n<n
def RuleOk(t n:Nat)(r:Rule):Prop:=r.left<n∧r.right.length≤3∧∀y∈r.right,SymOk t n y
structure Small(g:Gram):Prop where
 terms:1≤g.terms∧g.terms≤3
 nons:1≤g.nons∧g.nons≤4
 start:g.start<g.nons
 rules:1≤g.rules.length∧g.rules.length≤8
 nodup:g.rules.Nodup
 ok:∀r∈g.rules,RuleOk g.terms g.nons r
structure GS where
 xs:List Rule
 a:Option Addr
 m:Nat
 c:Nat
 B:List (Nat×Blk)
 Bs:List (Nat×Blk)
structure GI where
 ys:List Sym
 a:Option Addr
 m:Nat
 c:Nat
 B:List (Nat×Blk)
 Bs:List (Nat×Blk)
theorem grammar_spec(F:Frz){a:Option Addr}{n c:Nat}{l:List Int}(hl:Arr tInt F a n c l) :
  Abs.Spec CC 15 [.slice a n c] F [] fun F' v o=>o=[]∧∃g,GramV F' v g∧Small g:=by
 refine Abs.Spec.fn (n:=72) Tryd.func15 rfl rfl fun own=>?_;refine AW.seq (AW.reg ?_);refine WT.allocT hT Z Z Z Z Z Z (fun i2 hi2=>?_);refine zB4 ?_;refine WT.boxT Z Z Z Z Z Z (fun i8 hi8=>?_);refine zB4 ?_;refine WT.call1 (B:=[(i8,.cells false [.slice a n c])]) 0 Tryd.func41 Z Z Z Z Z Z Z (fun _=>rfl) (next_spec F i8 ⟨a,n,c,rfl,hl⟩ 3 (by decide) (by decide)) (fun v B1 hv=>?_);obtain⟨r1,l1,rfl,hr1,hs1⟩:=hv;refine zB4 ?_;refine WT.call1 0 Tryd.func41 Z Z Z Z Z Z Z (fun _=>rfl) (next_spec F i8 hs1 4 (by decide) (by decide)) (fun v B2 hv=>?_);obtain⟨r2,l2,rfl,hr2,hs2⟩:=hv;refine zB4 ?_
 refine WT.allocT hT Z Z Z Z Z Z (fun i4 hi4=>?_);refine zB4 ?_;refine WT.call1 1 Tryd.func41 Z Z Z Z Z Z Z (fun _=>rfl) (next_spec F i8 hs2 (1+r2) zo zo) (fun v B3 hv=>?_);obtain⟨r3,l3,rfl,hr3,hs3⟩:=hv;refine zB4 ?_;refine WT.call1 1 Tryd.func41 Z Z Z Z Z Z Z (fun _=>rfl) (next_spec F i8 hs3 8 (by decide) (by decide)) (fun v B4 hv=>?_);obtain⟨r4,l4,rfl,hr4,hs4⟩:=hv;refine zB4 ?_
 refine AW.range (S:=GS) (fun _=>[]) (fun s=>[(i4,.cells false [.int .i64 (1+r1:Nat),.int .i64 (1+r2:Nat),.int .i64 r3,.slice s.a s.m s.c])]::s.B::s.Bs::[(i2,.cells false [.int .i64 0,.int .i64 0,.int .i64 0,.slice none 0 0])]::own)
  (fun j s G=>Bld tRule G s.a s.m s.c s.B s.xs∧(∃l,StreamB G i8 s.Bs l)∧(∀r∈s.xs,RuleOk (1+r1) (1+r2) r)∧s.xs.Nodup∧s.xs.length≤j∧(0<j→1≤s.xs.length)) (1+r4) ⟨[],none,0,0,[],B4⟩
  Z Z Z Z Z Z Z Z Z zo rfl rfl (fun _=>rfl) (fun _=>rfl) sM (OwnLe.flat (List.Perm.refl _)) ⟨Bld.nil_ _ _,⟨_,hs4⟩,by simp,by simp,by simp,by simp⟩ ?_ ?_
 ·intro j s F1 hF1 hj hP;obtain⟨hb,⟨ls,hst⟩,hok,hnd,hlen,hpos⟩:=hP;have hm1:=hb.len;refine zB4 ?_;refine WT.call1 2 Tryd.func41 Z Z Z Z Z Z Z (fun _=>rfl) (next_spec F1 i8 hst (1+r2) zo zo) (fun v B5 hv=>?_);obtain⟨r5,l5,rfl,hr5,hs5⟩:=hv;refine zB4 ?_;refine WT.allocT hT Z Z Z Z Z Z (fun i5 hi5=>?_);refine zB4 ?_;refine WT.call1 3 Tryd.func41 Z Z Z Z Z Z Z (fun _=>rfl) (next_spec F1 i8 hs5 4 (by decide) (by decide)) (fun v B6 hv=>?_);obtain⟨r6,l6,rfl,hr6,hs6⟩:=hv;refine zB4 ?_
  refine AW.range (S:=GI) (fun _=>[]) (fun s2=>[(i5,.cells false [.int .i64 r5,.slice s2.a s2.m s2.c])]::s2.B::[(i4,.cells false [.int .i64 (1+r1:Nat),.int .i64 (1+r2:Nat),.int .i64 r3,.slice s.a s.m s.c])]::s.B::s2.Bs::[(i2,.cells false [.int .i64 0,.int .i64 0,.int .i64 0,.slice none 0 0])]::own)
   (fun j s G=>Bld tSym G s.a s.m s.c s.B s.ys∧(∃l,StreamB G i8 s.Bs l)∧(∀y∈s.ys,SymOk (1+r1) (1+r2) y)∧s.ys.length=j) r6 ⟨[],none,0,0,[],B6⟩
   Z Z Z Z Z Z Z Z Z zo rfl rfl (fun _=>rfl) (fun _=>rfl) sM (OwnLe.flat (List.Perm.refl _)) ⟨Bld.nil_ _ _,⟨_,hs6⟩,by simp,by simp⟩ ?_ ?_
  ·intro q s2 F2 hF2 hq hP2;obtain⟨hb2,⟨ls2,hst2⟩,hok2,hlen2⟩:=hP2;have hm2:=hb2.len;refine zB4 ?_;refine WT.call1 4 Tryd.func41 Z Z Z Z Z Z Z (fun _=>rfl) (next_spec F2 i8 hst2 2 (by decide) (by decide)) (fun v B7 hv=>?_);obtain⟨r7,l7,rfl,hr7,hs7⟩:=hv;refine zB4 ?_;refine AW.cond Z (fun hc=>?_) (fun hc=>?_)
   ·refine AW.draw (ps:=[(1,5),(1,7)]) Z Z ?_;refine zB4 ?_;refine WT.call1 4 Tryd.func41 Z Z Z Z Z Z Z (fun _=>rfl) (next_spec F2 i8 hs7 (1+r1) zo zo) (fun v B8 hv=>?_);obtain⟨r8,l8,rfl,hr8,hs8⟩:=hv;refine zB4 ?_;refine WT.buildT hT Z Z Z Z Z Z Z Z Z Z Z Z Z Z (fun i9 hi9=>?_);refine WT.appendT (ys:=[⟨true,r8⟩]) hT 2 hb2 Z (fun _=>rfl) Z Z Z Z Z Z Z Z Z Z Z (fun h0 s0=>news_own hT s0 0 Z Z Z Z) (Cells.single (x:=(⟨true,r8⟩:Sym)) rfl) Z (by decide) zom (fun a3 c3 B3 hB3=>?_);refine zB4 ?_;refine⟨zrC,?_⟩;refine⟨⟨s2.ys++[⟨true,r8⟩],a3,s2.m+1,c3,B3,B8⟩,sM,zow,hB3,⟨_,hs8⟩,?_,by simp[hlen2]⟩
    intro y hy;rcases List.mem_append.1 hy with hy | hy
    ·exact hok2 y hy
    ·obtain rfl:=List.mem_singleton.1 hy;exact hr8
   ·refine AW.draw (ps:=[(1,5),(1,7)]) Z Z ?_;refine zB4 ?_;refine WT.call1 4 Tryd.func41 Z Z Z Z Z Z Z (fun _=>rfl) (next_spec F2 i8 hs7 (1+r2) zo zo) (fun v B8 hv=>?_);obtain⟨r8,l8,rfl,hr8,hs8⟩:=hv;refine zB4 ?_;refine WT.buildT hT Z Z Z Z Z Z Z Z Z Z Z Z Z Z (fun i9 hi9=>?_);refine WT.appendT (ys:=[⟨false,r8⟩]) hT 2 hb2 Z (fun _=>rfl) Z Z Z Z Z Z Z Z Z Z Z (fun h0 s0=>news_own hT s0 0 Z Z Z Z) (Cells.single (x:=(⟨false,r8⟩:Sym)) rfl) Z (by decide) zom (fun a3 c3 B3 hB3=>?_);refine zB4 ?_;refine⟨zrC,?_⟩;refine⟨⟨s2.ys++[⟨false,r8⟩],a3,s2.m+1,c3,B3,B8⟩,sM,zow,hB3,⟨_,hs8⟩,?_,by simp[hlen2]⟩
    intro y hy;rcases List.mem_append.1 hy with hy | hy
    ·exact hok2 y hy
    ·obtain rfl:=List.mem_singleton.1 hy;exact hr8
  ·intro s2 F2 hF2 hP2;obtain⟨hb2,⟨ls2,hst2⟩,hok2,hlen2⟩:=hP2;have hm2:=hb2.len;refine AW.freezeAll 1 Z Z (fun F3 hF3 hB3=>?_);have hy:=hb2.frozen hF3 hB3;have hb:=(hb.mono hF2).mono hF3;have hst2:=hst2.mono hF3;refine zB4 ?_;refine WT.callLend 3 Tryd.func42 Z Z Z Z Z Z Z (fun G hG hBG=>has_spec G (left:=r5) (hb.frozen hG hBG) zom (hy.mono hG) zom) (fun v hv=>?_);subst hv;refine zB4 ?_;refine AW.cond Z (fun hc=>?_) (fun hc=>?_)
   ·refine zB4 ?_;refine WT.buildT hT Z Z Z Z Z Z Z Z Z Z Z Z Z Z (fun i9 hi9=>?_);refine WT.appendT (ys:=[⟨r5,s2.ys⟩]) hT 4 hb Z (fun _=>rfl) Z Z Z Z Z Z Z Z Z Z Z (fun h0 s0=>news_own hT s0 0 Z Z Z Z) (Cells.single (R:=tRule) (x:=(⟨r5,s2.ys⟩:Rule)) ⟨_,_,_,rfl,hy⟩) Z (by decide) zom (fun a3 c3 B3 hB3=>?_);refine zB5 ?_;refine⟨⟨s.xs++[⟨r5,s2.ys⟩],a3,s.m+1,c3,B3,s2.Bs⟩,sM,zow,hB3,⟨_,hst2⟩,?_,?_,?_,?_⟩
    ·intro r hr;rcases List.mem_append.1 hr with hr | hr
     ·exact hok r hr
     ·obtain rfl:=List.mem_singleton.1 hr;exact⟨by simp;omega,by simp;omega,hok2⟩
    ·rw[List.nodup_append];refine⟨hnd,by simp,fun x hx y hy=>?_⟩;obtain rfl:=List.mem_singleton.1 hy;rintro rfl;simp[hx] at hc
    ·simp;omega
    ·simp
   ·refine zB4 ?_;have hin:(⟨r5,s2.ys⟩:Rule)∈s.xs:=by simpa using hc
    refine⟨{ s with Bs:=s2.Bs },sM,zow,hb,⟨_,hst2⟩,hok,hnd,by dsimp only;omega,fun _=>List.length_pos_of_mem hin⟩
 ·intro s F1 hF1 hP;obtain⟨hb,⟨ls,hst⟩,hok,hnd,hlen,hpos⟩:=hP;refine AW.freezeAll 1 Z Z (fun F3 hF3 hB3=>?_);have hx:=hb.frozen hF3 hB3;refine zB4 ?_;have hx3:=hb.len;refine AW.ret ⟨_,[],⟨_,_,⟨_,rfl,fun G h0 s0=>loadA_cells (s0.has (p:=3) Z me) (readT_ok hT rfl)⟩,rfl,rfl⟩,zsb,rfl,⟨1+r1,1+r2,r3,s.xs⟩,⟨_,_,_,rfl,hx⟩,?_⟩;exact⟨by dsimp only;omega,by dsimp only;omega,hr3,by dsimp only;omega,hnd,hok⟩
theorem isNaN_spec(F:Frz)(x:Int):Abs.Spec CC 84 [.int .i64 x] F [] fun _ v o=>o=[]∧v=.bool false:=by
 refine Abs.Spec.fn (n:=6) Tryd.func84 rfl rfl fun own=>?_;refine zB4 ?_;exact AW.ret ⟨_,[],⟨_,_,rfl,rfl,rfl⟩,List.Sublist.refl _,rfl,by simp[tupleA]⟩
def cmpInt(x y:Int):Int:=if x<y then -1 else if x > y then 1 else 0
theorem compare_spec(F:Frz)(x y:Int):Abs.Spec CC 71 [.int .i64 x,.int .i64 y] F [] fun _ v o=>o=[]∧v=.int .i64 (cmpInt x y):=by
 refine Abs.Spec.fn (n:=20) Tryd.func71 rfl rfl fun own=>?_;refine zB4 ?_;refine WT.callV Tryd.func84 Z Z Z Z Z Z (isNaN_spec _ x) (fun v hv=>?_);subst hv;refine zB4 ?_;refine WT.callV Tryd.func84 Z Z Z Z Z Z (isNaN_spec _ y) (fun v hv=>?_);subst hv;refine zB4 ?_;refine AW.cond Z (fun hc=>(by cases hc)) (fun _=>?_);refine zB4 ?_;refine AW.cond Z (fun hc=>(by cases hc)) (fun _=>?_);refine zB4 ?_;refine AW.cond Z (fun hc=>?_) (fun hc=>?_)
 ·refine zB4 ?_;exact AW.ret ⟨_,[],⟨_,_,rfl,rfl,rfl⟩,List.Sublist.refl _,rfl,by simp at hc;simp[tupleA,cmpInt,hc]⟩
 ·refine zB4 ?_;refine AW.cond Z (fun hc2=>?_) (fun hc2=>?_)
  ·refine zB4 ?_;exact AW.ret ⟨_,[],⟨_,_,rfl,rfl,rfl⟩,List.Sublist.refl _,rfl,by simp at hc hc2;simp[tupleA,cmpInt];omega⟩
  ·refine zB4 ?_;exact AW.ret ⟨_,[],⟨_,_,rfl,rfl,rfl⟩,List.Sublist.refl _,rfl,by simp at hc hc2;simp[tupleA,cmpInt];omega⟩
def orInt:List Int→Int
 | []=>0
 | x::l=>if x=0 then orInt l else x
theorem orInt_take{l:List Int}{j:Nat}(h:∀y∈l.take j,y=0):orInt l=orInt (l.drop j):=by
 induction j generalizing l with
 | zero=>simp
 | succ j ih=>
  cases l with
  | nil=>simp
  | cons x l=>
   have hx:x=0:=h x (by simp);simp only[orInt,hx,if_true,List.drop_succ_cons];exact ih (fun y hy=>h y (by simp[hy]))
theorem or_spec(F:Frz){a:Option Addr}{m c:Nat}{l:List Int}(hl:Arr tInt F a m c l)(hm:m≤1000000):Abs.Spec CC 70 [.slice a m c] F [] fun _ v o=>o=[]∧v=.int .i64 (orInt l):=by
 refine Abs.Spec.fn (n:=18) Tryd.func70 rfl rfl fun own=>?_;have hlen:=hl.len;refine zB4 ?_;refine AW.range (S:=Unit) (fun _=>[]) (fun _=>_) (fun j _ _=>∀y∈l.take j,y=0) m () Z Z Z Z Z Z Z Z Z zo Z Z (fun _=>rfl) (fun _=>rfl) sM oR (by simp) ?_ ?_
 ·intro j _ F1 hF1 hj hP;have hl1:=hl.mono hF1;refine zB4 ?_;refine WT.idxL hT hl1 Z Z Z Z Z Z Z Z Z zo (fun x hx b1 off ro cs lx hb hp hrel=>?_);obtain rfl:lx=_:=hrel;refine zB4 ?_;refine AW.cond Z (fun hc=>?_) (fun hc=>?_)
  ·refine zB4 ?_;refine AW.ret ⟨_,[],⟨_,_,rfl,rfl,rfl⟩,List.Sublist.refl _,rfl,?_⟩;have hc:x≠0:=by simpa using hc
   rw[orInt_take hP,List.drop_eq_getElem_cons (show j<l.length by omega)];have:l[j]=x:=by rw[gE zo] at hx;simpa using hx
   simp[orInt,this,hc,tupleA]
  ·refine zB4 ?_;have hc:x=0:=by simpa using hc
   exact⟨(),sM,zow,take_all hx hP hc⟩
 ·intro _ F1 hF1 hP;refine zB4 ?_;refine AW.ret ⟨_,[],⟨_,_,rfl,rfl,rfl⟩,List.Sublist.refl _,rfl,?_⟩;rw[orInt_take hP,List.drop_of_length_le zo];rfl
def cmpSym(a b:Sym):Int:=if a.term=b.term then cmpInt a.n b.n else if a.term=true then -1 else 1
theorem order_spec(F:Frz)(a b:Sym):Abs.Spec CC 73 [.agg ⟨[.bool a.term,.int .i64 a.n]⟩,.agg ⟨[.bool b.term,.int .i64 b.n]⟩] F [] fun _ v o=>o=[]∧v=.int .i64 (cmpSym a b):=by
 refine Abs.Spec.fn (n:=17) Tryd.func73 rfl rfl fun own=>?_;refine AW.seq (AW.reg ?_);refine WT.boxT Z Z Z Z Z Z (fun i1 hi1=>?_);refine WT.boxT Z Z Z Z Z Z (fun i2 hi2=>?_);refine zB4 ?_;refine AW.cond Z (fun hc=>?_) (fun hc=>?_)
 ·have hc:a.term≠b.term:=by simpa using hc
  refine zB4 ?_;refine AW.cond Z (fun hc2=>?_) (fun hc2=>?_)
  ·refine zB4 ?_;refine AW.ret ⟨_,[],⟨_,_,rfl,rfl,rfl⟩,zsb,rfl,?_⟩;rw[cmpSym,if_neg hc,if_pos hc2];rfl
  ·refine zB4 ?_;refine AW.ret ⟨_,[],⟨_,_,rfl,rfl,rfl⟩,zsb,rfl,?_⟩;rw[cmpSym,if_neg hc,if_neg (by simp[hc2])];rfl
 ·have hc:a.term=b.term:=by simpa using hc
  refine zB4 ?_;refine WT.callV Tryd.func71 Z Z Z Z Z Z (compare_spec _ _ _) (fun v hv=>?_);subst hv;refine zB4 ?_;refine AW.ret ⟨_,[],⟨_,_,rfl,rfl,rfl⟩,zsb,rfl,?_⟩;simp[cmpSym,hc,tupleA]
def cmpSyms:List Sym→List Sym→Int
 | [],[]=>0
 | [],_::_=>-1
 | _::_,[]=>1
 | a::l,b::m=>if cmpSym a b=0 then cmpSyms l m else cmpSym a b
theorem cmpSyms_take:∀(j:Nat) (l m:List Sym),j≤l.length→j≤m.length→(∀i (h1:i<l.length) (h2:i<m.length),i<j→cmpSym l[i] m[i]=0)→cmpSyms l m=cmpSyms (l.drop j) (m.drop j)
 | 0,l,m,_,_,_=>by simp
 | j+1,[],m,h,_,_=>by simp at h
 | j+1,_::_,[],_,h,_=>by simp at h
 | j+1,a::l,b::m,h1,h2,h=>by
  have h0:=h 0 (by simp) (by simp) zo;simp only[List.getElem_cons_zero] at h0;simp only[cmpSyms,h0,if_true,List.drop_succ_cons];exact cmpSyms_take j l m (by simpa using h1) (by simpa using h2) (fun i h3 h4 h5=>h (i+1) (by simpa using h3) (by simpa using h4) zo)
theorem compareFunc_spec(F:Frz){a b:Option Addr}{m n c d:Nat}{xs ys:List Sym}(hx:Arr tSym F a m c xs)(hy:Arr tSym F b n d ys)(hm:m≤1000000)(hn:n≤1000000) :
  Abs.Spec CC 72 [.slice a m c,.slice b n d,.func (.func 73) ⟨[]⟩ ⟨[]⟩] F [] fun _ v o=>o=[]∧v=.int .i64 (cmpSyms xs ys):=by
 refine Abs.Spec.fn (n:=39) Tryd.func72 rfl rfl fun own=>?_;have hxlen:=hx.len;have hylen:=hy.len;refine zB4 ?_;refine AW.range (S:=Unit) (fun _=>[]) (fun _=>_) (fun j _ _=>j≤n∧∀i (h1:i<xs.length) (h2:i<ys.length),i<j→cmpSym xs[i] ys[i]=0) m () Z Z Z Z Z Z Z Z Z zo Z Z (fun _=>rfl) (fun _=>rfl) sM oR ⟨by omega,by omega⟩ ?_ ?_
 ·intro j _ F1 hF1 hj hP;obtain⟨hjn,hP⟩:=hP;have hx1:=hx.mono hF1;have hy1:=hy.mono hF1;refine zB4 ?_;refine WT.idxL hT hx1 Z Z Z Z Z Z Z Z Z zo (fun x hxj b1 off ro cs lx hb hp hrel=>?_);obtain rfl:lx=_:=hrel;refine zB4 ?_;refine WT.allocT hT Z Z Z Z Z Z (fun i1 hi1=>?_);refine zB4 ?_;refine AW.cond Z (fun hc=>?_) (fun hc=>?_)
  ·have hc:n≤j:=by simp at hc;omega
   refine zB4 ?_;refine AW.ret ⟨_,[],⟨_,_,rfl,rfl,rfl⟩,zsb,rfl,?_⟩;rw[cmpSyms_take j xs ys zo zo hP,List.drop_of_length_le (show ys.length≤j by omega),List.drop_eq_getElem_cons (show j<xs.length by omega)];rfl
  ·have hc:j<n:=by simp at hc;omega
   refine zB4 ?_;refine WT.idxL hT hy1 Z Z Z Z Z Z Z Z Z zo (fun y hyj b2 off2 ro2 cs2 ly hb2 hp2 hrel2=>?_);obtain rfl:ly=_:=hrel2;refine zB4 ?_;refine WT.allocT hT Z Z Z Z Z Z (fun i2 hi2=>?_);refine zB4 ?_;refine WT.callC Tryd.func73 Z Z Z Z Z Z Z Z (order_spec _ x y) (fun v hv=>?_);subst hv;have ex:xs[j]'zo=x:=by rw[gE zo] at hxj;simpa using hxj
   have ey:ys[j]'zo=y:=by rw[gE zo] at hyj;simpa using hyj
   refine zB4 ?_;refine AW.cond Z (fun hc2=>?_) (fun hc2=>?_)
   ·have hc2:cmpSym x y≠0:=by simpa using hc2
    refine zB4 ?_;refine AW.ret ⟨_,[],⟨_,_,rfl,rfl,rfl⟩,zsb,rfl,?_⟩;rw[cmpSyms_take j xs ys zo zo hP,List.drop_eq_getElem_cons (show j<xs.length by omega),List.drop_eq_getElem_cons (show j<ys.length by omega)];simp[cmpSyms,ex,ey,hc2,tupleA]
   ·have hc2:cmpSym x y=0:=by simpa using hc2
    refine zB4 ?_;refine⟨(),sM,zow,by omega,fun i h1 h2 h3=>?_⟩;rcases Nat.lt_or_ge i j with h4 | h4
    ·exact hP i h1 h2 h4
    ·have:i=j:=by omega
     subst this;rw[ex,ey];exact hc2
 ·intro _ F1 hF1 hP;obtain⟨hjn,hP⟩:=hP;refine zB4 ?_;have e:=cmpSyms_take m xs ys zo zo hP;rw[List.drop_of_length_le (show xs.length≤m by omega)] at e;refine AW.cond Z (fun hc=>?_) (fun hc=>?_)
  ·have hc:m<n:=by simp at hc;omega
   refine zB4 ?_;refine AW.ret ⟨_,[],⟨_,_,rfl,rfl,rfl⟩,zsb,rfl,?_⟩;rw[e,List.drop_eq_getElem_cons (show m<ys.length by omega)];rfl
  ·have hc:m=n:=by simp at hc;omega
   refine zB4 ?_;refine AW.ret ⟨_,[],⟨_,_,rfl,rfl,rfl⟩,zsb,rfl,?_⟩;rw[e,List.drop_of_length_le (show ys.length≤m by omega)];rfl
def cmpRule(a b:Rule):Int:=orInt [cmpInt a.left b.left,cmpSyms a.right b.right]
theorem cmpInt_zero{x y:Int}:cmpInt x y=0↔x=y:=by unfold cmpInt;split<;>(try split)<;>omega
theorem cmpSym_zero{a b:Sym}:cmpSym a b=0↔a=b:=by
 obtain⟨s,n⟩:=a;obtain⟨t,m⟩:=b;unfold cmpSym;simp only[Sym.mk.injEq];by_cases h:s=t
 ·simp[h,cmpInt_zero];omega
 ·simp only[h,if_false,false_and,iff_false];split<;>decide
theorem cmpSyms_zero:∀(l m:List Sym),cmpSyms l m=0↔l=m
 | [],[]=>by simp[cmpSyms]
 | [],_::_=>by simp[cmpSyms]
 | _::_,[]=>by simp[cmpSyms]
 | a::l,b::m=>by
  simp only[cmpSyms,List.cons.injEq];by_cases h:cmpSym a b=0
  ·simp only[h,if_true,cmpSyms_zero l m];simp[cmpSym_zero.1 h]
  ·rw[if_neg h];constructor
   ·intro h2;exact absurd h2 h
   ·rintro⟨h2,_⟩;exact absurd (cmpSym_zero.2 h2) h
theorem cmpRule_zero{a b:Rule}:cmpRule a b=0↔a=b:=by
 obtain⟨x,l⟩:=a;obtain⟨y,m⟩:=b;simp only[cmpRule,orInt,Rule.mk.injEq];by_cases h:cmpInt x y=0
 ·simp only[h,if_true];have h3:=cmpInt_zero.1 h;have:x=y:=by omega
  simp only[this,true_and];have h2:=cmpSyms_zero l m;split
  ·rename_i h4;simp[h2.1 h4]
  ·rename_i h4;constructor
   ·intro h5;exact absurd h5 h4
   ·intro h5;exact absurd (h2.2 h5) h4
 ·rw[if_neg h];constructor
  ·intro h2;exact absurd h2 h
  ·rintro⟨h2,_⟩;exact absurd (cmpInt_zero.2 (by rw[h2])) h
theorem compareRule_spec(F:Frz)(x y:Rule){a b:Option Addr}{m n c d:Nat}(hx:Arr tSym F a m c x.right)(hy:Arr tSym F b n d y.right)(hm:m≤1000000)(hn:n≤1000000) :
  Abs.Spec CC 61 [.agg ⟨[.int .i64 x.left,.slice a m c]⟩,.agg ⟨[.int .i64 y.left,.slice b n d]⟩] F [] fun _ v o=>o=[]∧v=.int .i64 (cmpRule x y):=by
 refine Abs.Spec.fn (n:=17) Tryd.func61 rfl rfl fun own=>?_;refine AW.seq (AW.reg ?_);refine WT.boxT Z Z Z Z Z Z (fun i1 hi1=>?_);refine WT.boxT Z Z Z Z Z Z (fun i2 hi2=>?_);refine zB4 ?_;refine AW.draw (ps:=[(6,4),(8,4)]) Z Z ?_;refine zB4 ?_;refine WT.callV Tryd.func71 Z Z Z Z Z Z (compare_spec _ _ _) (fun v hv=>?_);subst hv;refine zB4 ?_;refine WT.callV Tryd.func72 Z Z Z Z Z Z (compareFunc_spec _ hx hy hm hn) (fun v hv=>?_);subst hv;refine WT.buildT hT Z Z Z Z Z Z Z Z Z Z Z Z Z Z (fun i9 hi9=>?_)
 refine WT.callLend 0 Tryd.func70 Z Z Z Z Z Z Z (fun G hG hBG=>or_spec G (l:=[cmpInt x.left y.left,cmpSyms x.right y.right]) (Bld.frozen (F:=F) (B:=[(i9,.cells false [.int .i64 (cmpInt x.left y.left),.int .i64 (cmpSyms x.right y.right)])]) ⟨rfl,.inr ⟨i9,_,rfl,rfl,rfl,Cells.cons (l:=[_]) Z (Cells.single (x:=cmpSyms x.right y.right) rfl),by decide⟩⟩ hG hBG) (by decide)) (fun v hv=>?_);subst hv;refine zB4 ?_;refine⟨zrC,?_⟩;exact AW.ret ⟨_,[],⟨_,_,rfl,rfl,rfl⟩,zsb,rfl,rfl⟩
def idxOf{α:Type}(p:α→Bool):List α→Int
 | []=>-1
 | x::l=>if p x=true then 0 else if idxOf p l=-1 then -1 else idxOf p l+1
theorem idxOf_ge{α:Type}(p:α→Bool):∀l:List α,-1≤idxOf p l
 | []=>by simp[idxOf]
 | x::l=>by have:=idxOf_ge p l;simp only[idxOf];split<;>(try split)<;>omega
theorem idxOf_take{α:Type}{p:α→Bool}:∀{l:List α} {j:Nat},j≤l.length→(∀y∈l.take j,p y=false)→idxOf p l=if idxOf p (l.drop j)=-1 then -1 else idxOf p (l.drop j)+j
 | l,0,_,_=>by simp
 | [],j+1,h,_=>by simp at h
 | x::l,j+1,h,h2=>by
  have hx:p x=false:=h2 x (by simp);have ih:=@idxOf_take α p l j (by simpa using h) (fun y hy=>h2 y (by simp[hy]));have:=idxOf_ge p (l.drop j);simp only[idxOf,hx,List.drop_succ_cons];rw[ih];by_cases h3:idxOf p (l.drop j)=-1
  ·simp[h3]
  ·simp only[h3,if_false];rw[if_neg (by simp),if_neg zo];omega
theorem idxOf_nonneg'{α:Type}{p:α→Bool}:∀{l:List α},0≤idxOf p l↔l.any p=true
 | []=>by simp[idxOf]
 | x::l=>by
  have ih:=@idxOf_nonneg' α p l;have:=idxOf_ge p l;simp only[idxOf,List.any_cons,Bool.or_eq_true,←ih];by_cases hx:p x=true
  ·simp[hx]
  ·rw[if_neg hx];constructor
   ·intro h;right;split at h<;>omega
   ·intro h;rcases h with h | h
    ·exact absurd h hx
    ·rw[if_neg zo];omega
theorem idxOf_nonneg{α:Type}{p:α→Bool}{l:List α}:decide (idxOf p l≥0)=l.any p:=by
 rw[Bool.eq_iff_iff,decide_eq_true_eq];exact idxOf_nonneg'
theorem idxOf_at{α:Type}{p:α→Bool}{l:List α}{j:Nat}{x:α}(hx:l[j]?=some x)(hp:p x=true)(h:∀y∈l.take j,p y=false):idxOf p l=j:=by
 have hj:j<l.length:=(gS hx).1;rw[idxOf_take zo h,List.drop_eq_getElem_cons hj];have:l[j]=x:=by rw[gE hj] at hx;simpa using hx
 simp[idxOf,this,hp]
theorem idxOf_none{α:Type}{p:α→Bool}{l:List α}(h:∀y∈l,p y=false):idxOf p l=-1:=by
 rw[idxOf_take (j:=l.length) (Nat.le_refl _) (by simpa using h)];simp[idxOf]
theorem shE0{p:Prop} (h:p:=by
 have hxlen:=hx.len;refine zB4 ?_;refine AW.range (S:=Unit) (fun _=>[]) (fun _=>_) (fun j _ G=>G=F∧∀y∈xs.take j,p y=false) m () Z Z Z Z Z Z Z Z Z zo Z Z (fun _=>rfl) (fun _=>rfl) sM oR ⟨rfl,by simp⟩ ?_ ?_
 ·intro j _ F1 hF1 hj hP;obtain⟨rfl,hP⟩:=hP;refine zB4 ?_;refine WT.idxL hT hx Z Z Z Z Z Z Z Z Z zo (fun x hxj b1 off ro cs lx hb hp1 hrel=>?_);obtain rfl:lx=_:=hrel;refine zB4 ?_;refine WT.callC hg hgb Z Z Z Z Z Z Z (hp x (gM hxj) ) (fun v hv=>?_);subst hv;refine zB4 ?_;refine AW.cond Z (fun hc=>?_) (fun hc=>?_)
  ·refine zB4 ?_;refine AW.ret ⟨_,[],⟨_,_,rfl,rfl,rfl⟩,zsb,rfl,?_⟩;rw[idxOf_at hxj hc hP];rfl
  ·refine zB4 ?_;exact⟨(),sM,zow,rfl,take_all hxj hP hc⟩
 ·intro _ F1 hF1 hP;obtain⟨rfl,hP⟩:=hP;rw[List.take_of_length_le zo] at hP;refine zB4 ?_;refine AW.ret ⟨_,[],⟨_,_,rfl,rfl,rfl⟩,zsb,rfl,?_⟩;rw[idxOf_none hP];rfl):p:=h
theorem symIndex_spec(F:Frz){a:Option Addr}{m c:Nat}{xs:List Sym}(hx:Arr tSym F a m c xs)(hm:m≤1000000)(p:Sym→Bool){g:Nat}{fn:Func}{first capt:List Value}(hg:CC.func g=some fn)(hgb:fn.body.isSome=true)
  (hp:∀x∈xs,  Abs.Spec CC g (first++[.agg ⟨[.bool x.term,.int .i64 x.n]⟩]++capt) F [] fun _ v o=>o=[]∧v=.bool (p x)) :
  Abs.Spec CC 52 [.slice a m c,.func (.func g) ⟨first⟩ ⟨capt⟩] F [] fun _ v o=>o=[]∧v=.int .i64 (idxOf p xs):=by
 refine Abs.Spec.fn (n:=19) Tryd.func52 rfl rfl fun own=>?_;exact shE0
theorem symAny_spec(F:Frz){a:Option Addr}{m c:Nat}{xs:List Sym}(hx:Arr tSym F a m c xs)(hm:m≤1000000)(p:Sym→Bool){g:Nat}{fn:Func}{first capt:List Value}(hg:CC.func g=some fn)(hgb:fn.body.isSome=true)
  (hp:∀x∈xs,  Abs.Spec CC g (first++[.agg ⟨[.bool x.term,.int .i64 x.n]⟩]++capt) F [] fun _ v o=>o=[]∧v=.bool (p x)) :
  Abs.Spec CC 24 [.slice a m c,.func (.func g) ⟨first⟩ ⟨capt⟩] F [] fun _ v o=>o=[]∧v=.bool (xs.any p):=by
 refine Abs.Spec.fn (n:=9) Tryd.func24 rfl rfl fun own=>?_;refine zB4 ?_;refine WT.callV Tryd.func52 Z Z Z Z Z Z (symIndex_spec _ hx hm p hg hgb hp) (fun v hv=>?_);subst hv;refine zB4 ?_;refine AW.ret ⟨_,[],⟨_,_,rfl,rfl,rfl⟩,zsb,rfl,?_⟩;rw[←idxOf_nonneg];rfl
theorem ruleIndex_spec(F:Frz){a:Option Addr}{m c:Nat}{xs:List Rule}(hx:Arr tRule F a m c xs)(hm:m≤1000000)(p:Rule→Bool){g:Nat}{fn:Func}{first capt:List Value}(hg:CC.func g=some fn)(hgb:fn.body.isSome=true)
  (hp:∀x∈xs,∀b n d,Arr tSym F b n d x.right→Abs.Spec CC g (first++[.agg ⟨[.int .i64 x.left,.slice b n d]⟩]++capt) F [] fun _ v o=>o=[]∧v=.bool (p x)) :
  Abs.Spec CC 53 [.slice a m c,.func (.func g) ⟨first⟩ ⟨capt⟩] F [] fun _ v o=>o=[]∧v=.int .i64 (idxOf p xs):=by
 refine Abs.Spec.fn (n:=19) Tryd.func53 rfl rfl fun own=>?_;have hxlen:=hx.len;refine zB4 ?_;refine AW.range (S:=Unit) (fun _=>[]) (fun _=>_) (fun j _ G=>G=F∧∀y∈xs.take j,p y=false) m () Z Z Z Z Z Z Z Z Z zo Z Z (fun _=>rfl) (fun _=>rfl) sM oR ⟨rfl,by simp⟩ ?_ ?_
 ·intro j _ F1 hF1 hj hP;obtain⟨rfl,hP⟩:=hP;refine zB4 ?_;refine WT.idxL hT hx Z Z Z Z Z Z Z Z Z zo (fun x hxj b1 off ro cs lx hb hp1 hrel=>?_);obtain⟨b2,n2,d2,rfl,hx2⟩:=hrel;refine zB4 ?_;refine WT.callC hg hgb Z Z Z Z Z Z Z (hp x (gM hxj) _ _ _ hx2) (fun v hv=>?_);subst hv;refine zB4 ?_;refine AW.cond Z (fun hc=>?_) (fun hc=>?_)
  ·refine zB4 ?_;refine AW.ret ⟨_,[],⟨_,_,rfl,rfl,rfl⟩,zsb,rfl,?_⟩;rw[idxOf_at hxj hc hP];rfl
  ·refine zB4 ?_;exact⟨(),sM,zow,rfl,take_all hxj hP hc⟩
 ·intro _ F1 hF1 hP;obtain⟨rfl,hP⟩:=hP;rw[List.take_of_length_le zo] at hP;refine zB4 ?_;refine AW.ret ⟨_,[],⟨_,_,rfl,rfl,rfl⟩,zsb,rfl,?_⟩;rw[idxOf_none hP];rfl
theorem ruleAny_spec(F:Frz){a:Option Addr}{m c:Nat}{xs:List Rule}(hx:Arr tRule F a m c xs)(hm:m≤1000000)(p:Rule→Bool){g:Nat}{fn:Func}{first capt:List Value}(hg:CC.func g=some fn)(hgb:fn.body.isSome=true)
  (hp:∀x∈xs,∀b n d,Arr tSym F b n d x.right→Abs.Spec CC g (first++[.agg ⟨[.int .i64 x.left,.slice b n d]⟩]++capt) F [] fun _ v o=>o=[]∧v=.bool (p x)) :
  Abs.Spec CC 26 [.slice a m c,.func (.func g) ⟨first⟩ ⟨capt⟩] F [] fun _ v o=>o=[]∧v=.bool (xs.any p):=by
 refine Abs.Spec.fn (n:=9) Tryd.func26 rfl rfl fun own=>?_;refine zB4 ?_;refine WT.callV Tryd.func53 Z Z Z Z Z Z (ruleIndex_spec _ hx hm p hg hgb hp) (fun v hv=>?_);subst hv;refine zB4 ?_;refine AW.ret ⟨_,[],⟨_,_,rfl,rfl,rfl⟩,zsb,rfl,?_⟩;rw[←idxOf_nonneg];rfl
theorem numIndex_spec(F:Frz){a:Option Addr}{m c:Nat}{xs:List Nat}(hx:Arr tNat F a m c xs)(hm:m≤1000000)(p:Nat→Bool){g:Nat}{fn:Func}{first capt:List Value}(hg:CC.func g=some fn)(hgb:fn.body.isSome=true)
  (hp:∀x∈xs,  Abs.Spec CC g (first++[.int .i64 (x:Nat)]++capt) F [] fun _ v o=>o=[]∧v=.bool (p x)) :
  Abs.Spec CC 69 [.slice a m c,.func (.func g) ⟨first⟩ ⟨capt⟩] F [] fun _ v o=>o=[]∧v=.int .i64 (idxOf p xs):=by
 refine Abs.Spec.fn (n:=19) Tryd.func69 rfl rfl fun own=>?_;exact shE0
theorem numAny_spec(F:Frz){a:Option Addr}{m c:Nat}{xs:List Nat}(hx:Arr tNat F a m c xs)(hm:m≤1000000)(p:Nat→Bool){g:Nat}{fn:Func}{first capt:List Value}(hg:CC.func g=some fn)(hgb:fn.body.isSome=true)
  (hp:∀x∈xs,  Abs.Spec CC g (first++[.int .i64 (x:Nat)]++capt) F [] fun _ v o=>o=[]∧v=.bool (p x)) :
  Abs.Spec CC 54 [.slice a m c,.func (.func g) ⟨first⟩ ⟨capt⟩] F [] fun _ v o=>o=[]∧v=.bool (xs.any p):=by
 refine Abs.Spec.fn (n:=9) Tryd.func54 rfl rfl fun own=>?_;refine zB4 ?_;refine WT.callV Tryd.func69 Z Z Z Z Z Z (numIndex_spec _ hx hm p hg hgb hp) (fun v hv=>?_);subst hv;refine zB4 ?_;refine AW.ret ⟨_,[],⟨_,_,rfl,rfl,rfl⟩,zsb,rfl,?_⟩;rw[←idxOf_nonneg];rfl
def hasSym(g:Gram)(y:Sym):Bool:=if y.term=true then decide (y.n<g.terms) else decide (y.n<g.nons)
theorem has2_spec(F:Frz)(g:Gram){a:Option Addr}{m c:Nat}(y:Sym) :
  Abs.Spec CC 59 [.agg ⟨[.int .i64 g.terms,.int .i64 g.nons,.int .i64 g.start,.slice a m c]⟩,.agg ⟨[.bool y.term,.int .i64 y.n]⟩] F [] fun _ v o=>o=[]∧v=.bool (hasSym g y):=by
 refine Abs.Spec.fn (n:=31) Tryd.func59 rfl rfl fun own=>?_;refine AW.seq (AW.reg ?_);refine WT.boxT Z Z Z Z Z Z (fun i1 hi1=>?_);refine WT.boxT Z Z Z Z Z Z (fun i2 hi2=>?_);refine zB4 ?_;have e1:decide ((y.n:Int)≥0)=true:=by simp
 refine WT.split 8 Z (fun _=>?_) (fun h=>(by rw[e1] at h;cases h));have e2:∀m:Nat,decide ((y.n:Int)<(m:Int))=decide (y.n<m):=fun m=>by rw[decide_eq_decide];omega
 cases ht:y.term with
 | true=>
  refine zB4 ?_;refine WT.split 18 Z (fun h=>?_) (fun h=>?_)
  ·refine zB4 ?_;refine AW.ret ⟨_,[],⟨_,_,rfl,rfl,rfl⟩,zsb,rfl,?_⟩;rw[e2] at h;simp only[hasSym,ht,if_true,h];rfl
  ·refine zB4 ?_;refine AW.ret ⟨_,[],⟨_,_,rfl,rfl,rfl⟩,zsb,rfl,?_⟩;rw[e2] at h;simp only[hasSym,ht,if_true,h];rfl
 | false=>
  refine zB4 ?_;refine AW.ret ⟨_,[],⟨_,_,rfl,rfl,rfl⟩,zsb,rfl,?_⟩;simp only[hasSym,ht,←e2];rfl
def gramCells(g:Gram)(a:Option Addr)(m c:Nat):List Value:=[.int .i64 g.terms,.int .i64 g.nons,.int .i64 g.start,.slice a m c]
theorem check1_spec(F:Frz)(g:Gram){a:Option Addr}{m c:Nat}{i:Nat}{ro:Bool}(hi:F i=some (.cells ro (gramCells g a m c)))(y:Sym) :
  Abs.Spec CC 58 [.agg ⟨[.bool y.term,.int .i64 y.n]⟩,.pointer (some ⟨i,0,none⟩)] F [] fun _ v o=>o=[]∧v=.bool (!hasSym g y):=by
 unfold gramCells at hi;refine Abs.Spec.fn (n:=8) Tryd.func58 rfl rfl fun own=>?_;refine AW.seq (AW.reg ?_);refine WT.boxT Z Z Z Z Z Z (fun i2 hi2=>?_);refine zB4 ?_;refine WT.callV Tryd.func59 Z Z Z Z Z Z (has2_spec _ g y) (fun v hv=>?_);subst hv;refine zB4 ?_;exact AW.ret ⟨_,[],⟨_,_,rfl,rfl,rfl⟩,zsb,rfl,rfl⟩
theorem check2_spec(F:Frz)(r:Rule){a:Option Addr}{m c:Nat}{i:Nat}{ro:Bool}(hi:F i=some (.cells ro [.int .i64 r.left,.slice a m c]))(hr:Arr tSym F a m c r.right)(hm:m≤1000000)(x:Rule)
  {b:Option Addr} {n d:Nat} (hx:Arr tSym F b n d x.right) (hn:n≤1000000) :
  Abs.Spec CC 60 [.agg ⟨[.int .i64 x.left,.slice b n d]⟩,.pointer (some ⟨i,0,none⟩)] F [] fun _ v o=>o=[]∧v=.bool (decide (x=r)):=by
 refine Abs.Spec.fn (n:=8) Tryd.func60 rfl rfl fun own=>?_;refine AW.seq (AW.reg ?_);refine WT.boxT Z Z Z Z Z Z (fun i2 hi2=>?_);refine zB4 ?_;refine WT.callV Tryd.func61 Z Z Z Z Z Z (compareRule_spec _ x r hx hr hn hm) (fun v hv=>?_);subst hv;refine zB4 ?_;refine AW.ret ⟨_,[],⟨_,_,rfl,rfl,rfl⟩,zsb,rfl,?_⟩;have:(cmpRule x r==0)=decide (x=r):=by
  rw[Bool.eq_iff_iff];simp[cmpRule_zero]
 rw[←this];rfl
def ruleErr(g:Gram)(pre:List Rule)(r:Rule):Nat:=
 if g.nons≤r.left then 3 else if 4<r.right.length then 2 else if r.right.any (fun y=>!hasSym g y)=true then 3 else if pre.any (fun x=>decide (x=r))=true then 6 else 0
def rulesErr(g:Gram):List Rule→List Rule→Nat
 | _,[]=>0
 | pre,r::l=>if ruleErr g pre r=0 then rulesErr g (pre++[r]) l else ruleErr g pre r
structure InRange(g:Gram):Prop where
 terms:1≤g.terms∧g.terms≤8
 nons:1≤g.nons∧g.nons≤10
 start:g.start<g.nons
 rules:g.rules.length≤32
 right:∀r∈g.rules,r.right.length≤1000000
theorem rulesErr_split(g:Gram):∀(j:Nat) (pre l:List Rule),j≤l.length→(∀i (h:i<l.length),i<j→ruleErr g (pre++l.take i) l[i]=0)→rulesErr g pre l=rulesErr g (pre++l.take j) (l.drop j)
 | 0,pre,l,_,_=>by simp
 | j+1,pre,[],h,_=>by simp at h
 | j+1,pre,r::l,h,h2=>by
  have h0:=h2 0 (by simp) zo;simp only[List.take_zero,List.append_nil,List.getElem_cons_zero] at h0;simp only[rulesErr,h0,if_true]
  rw[rulesErr_split g j (pre++[r]) l (by simpa using h) (fun i h3 h4=>by
   have:=h2 (i+1) (by simpa using h3) zo;simpa using this)]
  simp
theorem check_spec(F:Frz)(g:Gram)(hg:InRange g){a:Option Addr}{m c:Nat}(hr:Arr tRule F a m c g.rules) :
  Abs.Spec CC 32 [.agg ⟨gramCells g a m c⟩] F [] fun _ v o=>o=[]∧v=.int .i64 (rulesErr g [] g.rules:Nat):=by
 unfold gramCells;have hlen:=hr.len;obtain⟨⟨ht1,ht2⟩,⟨hn1,hn2⟩,hst,hrl,hrr⟩:=hg;refine Abs.Spec.fn (n:=76) Tryd.func32 rfl rfl fun own=>?_;refine AW.seq (AW.reg ?_);refine WT.boxT Z Z Z Z Z Z (fun i1 hi1=>?_);refine WT.freezeAll 0 Z Z (fun F1 hF1 hB1=>?_);have hi1:=hB1 i1 _ me;have hr:=hr.mono hF1;refine zB4 ?_;refine WT.split 8 Z (fun h=>(by simp at h;omega)) (fun _=>?_);refine zB4 ?_;refine WT.split 13 Z (fun h=>(by simp at h;omega)) (fun _=>?_);refine zB4 ?_;refine WT.split 18 Z (fun h=>(by simp at h;omega)) (fun _=>?_);refine zB4 ?_
 refine WT.split 23 Z (fun h=>(by simp at h;omega)) (fun _=>?_);refine zB4 ?_;refine AW.cond Z (fun h=>(by simp at h;omega)) (fun _=>?_);refine zB4 ?_;refine AW.cond Z (fun h=>(by simp at h;omega)) (fun _=>?_);refine zB4 ?_;refine AW.range (S:=Unit) (fun _=>[]) (fun _=>_) (fun j _ _=>rulesErr g [] g.rules=rulesErr g (g.rules.take j) (g.rules.drop j)) m () Z Z Z Z Z Z Z Z Z zo Z Z (fun _=>rfl) (fun _=>rfl) sM oR (by simp) ?_ ?_
 ·intro j _ F2 hF2 hj hP;have hr2:=hr.mono hF2;refine zB4 ?_;refine WT.idxL hT hr2 Z Z Z Z Z Z Z Z Z zo (fun x hxj b1 off ro cs lx hb hp1 hrel=>?_);obtain⟨b2,n2,d2,rfl,hx2⟩:=hrel;have hx2len:=hx2.len;have hxr:=hrr x (gM hxj);have hxj':g.rules.drop j=x::g.rules.drop (j+1):=by
   rw[List.drop_eq_getElem_cons (show j<g.rules.length by omega)];rw[gE zo] at hxj;have:=Option.some.inj hxj;rw[this]
  have next:ruleErr g (g.rules.take j) x=0→rulesErr g [] g.rules=rulesErr g (g.rules.take (j+1)) (g.rules.drop (j+1)):=by
   intro h0;rw[hP,hxj'];simp only[rulesErr,h0,if_true];rw[List.take_add_one,hxj];rfl
  have stop:∀e,e≠0→ruleErr g (g.rules.take j) x=e→rulesErr g [] g.rules=e:=by
   intro e h1 h2;rw[hP,hxj'];simp only[rulesErr,h2,h1,if_false]
  refine zB4 ?_;refine WT.allocT hT Z Z Z Z Z Z (fun i4 hi4=>?_);refine zB4 ?_;refine AW.freezeAll 0 Z Z (fun F3 hF3 hB3=>?_);have hi4:=hB3 i4 _ me;have hi1:=hF3 _ _ (hF2 _ _ hi1);have hr3:=hr2.mono hF3;have hx3:=hx2.mono hF3;refine AW.block ?_;refine zB4 ?_;refine AW.cond Z (fun h=>?_) (fun h=>?_)
  ·have h:g.nons≤x.left:=by simp at h;omega
   refine zB4 ?_;refine AW.ret ⟨_,[],⟨_,_,rfl,rfl,rfl⟩,zsb,rfl,?_⟩;rw[stop 3 (by decide) (by simp[ruleErr,h])];rfl
  ·have h1:¬g.nons≤x.left:=by simp at h;omega
   refine zB4 ?_;refine AW.cond Z (fun h=>?_) (fun h=>?_)
   ·have h2:4<x.right.length:=by simp at h;omega
    refine zB4 ?_;refine AW.ret ⟨_,[],⟨_,_,rfl,rfl,rfl⟩,zsb,rfl,?_⟩;rw[stop 2 (by decide) (by simp[ruleErr,h1,h2])];rfl
   ·have h2:¬4<x.right.length:=by simp at h;omega
    refine zB4 ?_;refine WT.callV Tryd.func24 Z Z Z Z Z Z (symAny_spec _ hx3 zo (fun y=>!hasSym g y) Tryd.func58 Z (fun y _=>check1_spec _ g hi1 y)) (fun v hv=>?_);subst hv;refine zB4 ?_;refine AW.cond Z (fun h=>?_) (fun h3=>?_)
    ·refine zB4 ?_;refine AW.ret ⟨_,[],⟨_,_,rfl,rfl,rfl⟩,zsb,rfl,?_⟩;rw[stop 3 (by decide) (by rw[ruleErr,if_neg h1,if_neg h2,if_pos h])];rfl
    ·have h3':¬(x.right.any fun y=>!hasSym g y)=true:=by rw[h3];decide
     refine zB4 ?_;obtain⟨a',c',hs,ha'⟩:=hr3.slice (C:=CC) (lo:=0) (hi:=j) zo zo hT (t:=23) Z Z Z none (some (.int .i64 (j:Nat))) rfl rfl;refine WT.slice Z Z Z Z Z Z Z Z hs ?_;refine zB4 ?_;refine WT.callV Tryd.func26 Z Z Z Z Z Z (ruleAny_spec _ ha' zo (fun y=>decide (y=x)) Tryd.func60 Z (fun y hy b n d hb=>check2_spec _ x hi4 hx3 zo y hb ?_)) (fun v hv=>?_)
     ·rw[hb.len];exact hrr y (by simpa using List.mem_of_mem_take hy)
     subst hv;refine zB4 ?_;rw[List.drop_zero];refine AW.cond Z (fun h=>?_) (fun h4=>?_)
     ·refine zB4 ?_;refine AW.ret ⟨_,[],⟨_,_,rfl,rfl,rfl⟩,zsb,rfl,?_⟩;rw[stop 6 (by decide) (by rw[ruleErr,if_neg h1,if_neg h2,if_neg h3',if_pos h])];rfl
     ·have h4':¬((g.rules.take j).any fun y=>decide (y=x))=true:=by rw[h4];decide
      refine zB4 ?_;exact⟨(),sM,zow,next (by rw[ruleErr,if_neg h1,if_neg h2,if_neg h3',if_neg h4'])⟩
 ·intro _ F2 hF2 hP;refine zB4 ?_;refine AW.ret ⟨_,[],⟨_,_,rfl,rfl,rfl⟩,zsb,rfl,?_⟩;rw[hP,List.drop_of_length_le zo];rfl
structure Valid(g:Gram):Prop where
 range:InRange g
 right:∀r∈g.rules,r.left<g.nons∧r.right.length≤4∧∀y∈r.right,SymOk g.terms g.nons y
 nodup:g.rules.Nodup
theorem Valid.no_err{g:Gram}(h:Valid g):rulesErr g [] g.rules=0:=by
 rw[rulesErr_split g g.rules.length [] g.rules (Nat.le_refl _) (fun i h1 _=>?_)]
 ·simp[rulesErr]
 ·obtain⟨h2,h3,h4⟩:=h.right g.rules[i] (List.getElem_mem h1);rw[ruleErr,if_neg zo,if_neg zo,if_neg,if_neg]
  ·intro h5;simp only[List.nil_append,List.any_eq_true,decide_eq_true_eq] at h5;obtain⟨x,hx,rfl⟩:=h5;have hn:=h.nodup;rw[←List.take_append_drop i g.rules,List.nodup_append] at hn;refine hn.2.2 _ hx _ ?_ rfl;rw[List.drop_eq_getElem_cons h1];exact List.mem_cons_self ..
  ·intro h5;simp only[List.any_eq_true,Bool.not_eq_true'] at h5;obtain⟨y,hy,hb⟩:=h5;have:=h4 y hy;unfold SymOk at this;unfold hasSym at hb;split at this<;>rename_i ht<;>simp[ht,this] at hb
theorem Small.valid{g:Gram}(h:Small g):Valid g where
 range:=⟨by have:=h.terms;omega,by have:=h.nons;omega,h.start,by have:=h.rules;omega,fun r hr=>by have:=(h.ok r hr).2.1;omega⟩
 right:=fun r hr=>⟨(h.ok r hr).1,by have:=(h.ok r hr).2.1;omega,(h.ok r hr).2.2⟩
 nodup:=h.nodup
theorem word_spec(F:Frz)(terms most:Nat)(ht:0<terms∧terms≤1000)(hmost:most≤1000000){a:Option Addr}{m c:Nat}{l:List Int}(hl:Arr tInt F a m c l)(hm:m≤9223372036854775807) :
  Abs.Spec CC 16 [.int .i64 terms,.int .i64 most,.slice a m c] F [] fun F' v o=>o=[]∧∃a m c w,v=.slice a m c∧Arr tNat F' a m c w∧w.length≤most∧∀t∈w,t<terms:=by
 refine Abs.Spec.fn (n:=28) Tryd.func16 rfl rfl fun own=>?_;have hlen:=hl.len;refine zB4 ?_;refine AW.range (S:=List Nat×Option Addr×Nat×Nat×List (Nat×Blk)) (fun s=>[(7,.slice s.2.1 s.2.2.1 s.2.2.2.1)]) (fun s=>s.2.2.2.2::own) (fun j s G=>Bld tNat G s.2.1 s.2.2.1 s.2.2.2.1 s.2.2.2.2 s.1∧s.1.length≤most∧∀t∈s.1,t<terms) m ⟨[],none,0,0,[]⟩ Z Z Z Z Z Z Z Z Z zo Z Z (fun _=>rfl) (fun _=>rfl) sM (OwnLe.flat (List.Perm.refl _)) ⟨Bld.nil_ _ _,by simp,by simp⟩ ?_ ?_
 ·intro j s F1 hF1 hj hP;obtain⟨hb,hlen2,hlt⟩:=hP;have hblen:=hb.len;have hl1:=hl.mono hF1;refine zB4 ?_;refine WT.idxL hT hl1 Z Z Z Z Z Z Z Z Z zo (fun x hxj b1 off ro cs lx hb1 hp1 hrel=>?_);obtain rfl:lx=_:=hrel;refine zB4 ?_;refine AW.cond Z (fun h=>?_) (fun h=>?_)
  ·refine AW.exit ?_;refine AW.freezeAll 0 Z Z (fun F3 hF3 hB3=>?_);refine zB4 ?_;exact AW.ret ⟨_,[],⟨_,_,rfl,rfl,rfl⟩,zsb,rfl,_,_,_,s.1,rfl,hb.frozen hF3 hB3,hlen2,hlt⟩
  ·have h:s.1.length<most:=by simp at h;omega
   refine zB4 ?_;refine WT.callV Tryd.func43 Z Z Z Z Z Z (below_spec _ x terms zo zo) (fun v hv=>?_);subst hv;refine WT.buildT hT Z Z Z Z Z Z Z Z Z Z Z Z Z Z (fun i9 hi9=>?_);refine WT.appendT (ys:=[below x terms]) hT 1 hb Z (fun _=>rfl) Z Z Z Z Z Z Z Z Z Z Z (fun h0 s0=>news_own hT s0 0 Z Z Z Z) (Cells.single (R:=tNat) (x:=below x terms) rfl) Z (by decide) zom (fun a3 c3 B3 hB3=>?_);refine zB4 ?_;refine⟨⟨s.1++[below x terms],a3,s.2.2.1+1,c3,B3⟩,sM,zow,hB3,by simp;omega,fun t ht2=>?_⟩;rcases List.mem_append.1 ht2 with ht2 | ht2
   ·exact hlt t ht2
   ·obtain rfl:=List.mem_singleton.1 ht2;exact below_lt x ht.1
 ·intro s F1 hF1 hP;obtain⟨hb,hlen2,hlt⟩:=hP;refine AW.freezeAll 0 Z Z (fun F3 hF3 hB3=>?_);refine zB4 ?_;exact AW.ret ⟨_,[],⟨_,_,rfl,rfl,rfl⟩,zsb,rfl,_,_,_,s.1,rfl,hb.frozen hF3 hB3,hlen2,hlt⟩
def wordErr(terms most:Nat)(w:List Nat):Nat:=if most<w.length then 2 else if w.any (fun t=>decide (terms≤t))=true then 1 else 0
theorem word1_spec(F:Frz)(g:Gram){a:Option Addr}{m c:Nat}{i:Nat}{ro:Bool}(hi:F i=some (.cells ro (gramCells g a m c)))(t:Nat) :
  Abs.Spec CC 55 [.int .i64 t,.pointer (some ⟨i,0,none⟩)] F [] fun _ v o=>o=[]∧v=.bool (decide (g.terms≤t)):=by
 unfold gramCells at hi;refine Abs.Spec.fn (n:=12) Tryd.func55 rfl rfl fun own=>?_;refine zB4 ?_;refine AW.ret ⟨_,[],⟨_,_,rfl,rfl,rfl⟩,zsb,rfl,?_⟩;simp[tupleA]
theorem gword_spec(F:Frz)(g:Gram){a:Option Addr}{m c:Nat}(most:Nat)(hmost:most≤1000000){b:Option Addr}{n d:Nat}{w:List Nat}(hw:Arr tNat F b n d w)(hn:n≤1000000) :
  Abs.Spec CC 28 [.agg ⟨gramCells g a m c⟩,.slice b n d,.int .i64 most] F [] fun _ v o=>o=[]∧v=.int .i64 (wordErr g.terms most w:Nat):=by
 unfold gramCells;have hlen:=hw.len;refine Abs.Spec.fn (n:=14) Tryd.func28 rfl rfl fun own=>?_;refine AW.seq (AW.reg ?_);refine WT.boxT Z Z Z Z Z Z (fun i1 hi1=>?_);refine WT.freezeAll 0 Z Z (fun F1 hF1 hB1=>?_);have hi1:=hB1 i1 _ me;refine zB4 ?_;refine AW.cond Z (fun h=>?_) (fun h=>?_)
 ·have h:most<w.length:=by simp at h;omega
  refine zB4 ?_;refine AW.ret ⟨_,[],⟨_,_,rfl,rfl,rfl⟩,zsb,rfl,?_⟩;rw[wordErr,if_pos h];rfl
 ·have h1:¬most<w.length:=by simp at h;omega
  refine zB4 ?_;refine WT.callV Tryd.func54 Z Z Z Z Z Z (numAny_spec _ (hw.mono hF1) zo (fun t=>decide (g.terms≤t)) Tryd.func55 Z (fun t _=>word1_spec _ g hi1 t)) (fun v hv=>?_);subst hv;refine zB4 ?_;refine AW.cond Z (fun h=>?_) (fun h=>?_)
  ·refine zB4 ?_;refine AW.ret ⟨_,[],⟨_,_,rfl,rfl,rfl⟩,zsb,rfl,?_⟩;rw[wordErr,if_neg h1,if_pos h];rfl
  ·refine zB4 ?_;refine AW.ret ⟨_,[],⟨_,_,rfl,rfl,rfl⟩,zsb,rfl,?_⟩;rw[wordErr,if_neg h1,if_neg (by rw[h];decide)];rfl
theorem wordErr_ok{terms most:Nat}{w:List Nat}(h1:w.length≤most)(h2:∀t∈w,t<terms):wordErr terms most w=0:=by
 rw[wordErr,if_neg zo,if_neg];intro h;simp only[List.any_eq_true,decide_eq_true_eq] at h;obtain⟨t,ht,h⟩:=h;have:=h2 t ht;omega
theorem mcheck_spec(F:Frz)(g:Gram)(hg:Valid g){a:Option Addr}{m c:Nat}(hr:Arr tRule F a m c g.rules){b:Option Addr}{n d:Nat}{w:List Nat}(hw:Arr tNat F b n d w)(hw1:w.length≤12)(hw2:∀t∈w,t<g.terms) :
  Abs.Spec CC 37 [.agg ⟨gramCells g a m c⟩,.slice b n d] F [] fun _ v o=>o=[]∧v=.int .i64 0:=by
 unfold gramCells;have hlen:=hw.len;refine Abs.Spec.fn (n:=14) Tryd.func37 rfl rfl fun own=>?_;refine AW.seq (AW.reg ?_);refine WT.boxT Z Z Z Z Z Z (fun i1 hi1=>?_);refine zB4 ?_;refine WT.callV Tryd.func32 Z Z Z Z Z Z (check_spec _ g hg.range hr) (fun v hv=>?_);rw[hg.no_err] at hv;subst hv;refine zB4 ?_;refine AW.cond Z (fun h=>(by cases h)) (fun h=>?_);refine zB4 ?_;refine WT.callV Tryd.func28 Z Z Z Z Z Z (gword_spec _ g 12 (by decide) hw zo) (fun v hv=>?_);rw[wordErr_ok hw1 hw2] at hv;subst hv;refine zB4 ?_;exact AW.ret ⟨_,[],⟨_,_,rfl,rfl,rfl⟩,zsb,rfl,rfl⟩
theorem made_spec(F:Frz){a b:Option Addr}{m n c d:Nat}{l w0:List Int}(hl:Arr tInt F a m c l)(hw:Arr tInt F b n d w0)(hm:n≤9223372036854775807)(most:Nat)(hmost:most≤1000000) :
  Abs.Spec CC 5 [.slice a m c,.slice b n d,.int .i64 most] F [] fun F' v o=>o=[]∧∃g a m c b n d w,v=.tuple ⟨[.agg ⟨gramCells g a m c⟩,.slice b n d]⟩∧Small g∧Arr tRule F' a m c g.rules∧Arr tNat F' b n d w∧w.length≤most∧∀t∈w,t<g.terms:=by
 refine Abs.Spec.fn (n:=17) Tryd.func5 rfl rfl fun own=>?_;refine AW.seq (AW.reg ?_);refine WT.allocT hT Z Z Z Z Z Z (fun i6 hi6=>?_);refine zB4 ?_;refine WT.callF0 Tryd.func15 Z Z Z Z Z Z (grammar_spec _ hl) (fun F1 v hF1 hv=>?_);obtain⟨g,⟨ga,gm,gc,rfl,hgr⟩,hg⟩:=hv;refine WT.allocT hT Z Z Z Z Z Z (fun i8 hi8=>?_);refine zB4 ?_;refine AW.draw (ps:=[(0,5)]) Z Z ?_;refine zB4 ?_;have:=hg.terms;refine WT.callF0 Tryd.func16 Z Z Z Z Z Z (word_spec _ g.terms most zo hmost (hw.mono hF1) hm) (fun F2 v hF2 hv=>?_);obtain⟨wa,wm,wc,w,rfl,hwr,hw1,hw2⟩:=hv;refine zB4 ?_;refine⟨zrC,?_⟩
 refine AW.ret ⟨_,[],⟨_,_,⟨_,rfl,fun G h0 s0=>loadA_cells (s0.has (p:=1) Z me) (readT_ok hT rfl)⟩,⟨_,_,rfl,rfl,rfl⟩,rfl⟩,zsb,rfl,g,ga,gm,gc,wa,wm,wc,w,rfl,hg,hgr.mono hF2,hwr,hw1,hw2⟩
theorem low_form:∀(n x:Nat),0<x→x<2 ^ n→∃p q,x=2 ^ p*(2*q+1)∧p<n
 | 0,x,h,h2=>by simp at h2;omega
 | n+1,x,h,h2=>by
  rcases Nat.mod_two_eq_zero_or_one x with h3 | h3
  ·obtain⟨p,q,h4,h5⟩:=low_form n (x / 2) zo (by rw[Nat.pow_succ] at h2;omega);refine⟨p+1,q,?_,by omega⟩;rw[Nat.pow_succ,Nat.mul_comm (2 ^ p) 2,Nat.mul_assoc,←h4];omega
  ·exact⟨0,x / 2,by omega,by omega⟩
theorem odd_bit(q i:Nat):(2*q+1).testBit i=if i=0 then true else (2*q).testBit i:=by
 cases i with
 | zero=>simp
 | succ i=>
  rw[Nat.testBit_succ,Nat.testBit_succ,if_neg zo];congr 1;omega
theorem low_bit(p q j:Nat):(2 ^ p*(2*q+1)).testBit j=if j<p then false else if j=p then true else (2*q).testBit (j-p):=by
 have:=Nat.testBit_two_pow_mul_add (2*q+1) (b:=0) (i:=p) (Nat.two_pow_pos p) j;rw[Nat.add_zero] at this;rw[this];by_cases h:j<p
 ·simp[h]
 ·rw[if_neg h,if_neg h,odd_bit];by_cases h2:j=p
  ·simp[h2]
  ·rw[if_neg zo,if_neg h2]
theorem low_pred(p q j:Nat):(2 ^ p*(2*q+1)-1).testBit j=if j<p then true else (2*q).testBit (j-p):=by
 have h1:2 ^ p*(2*q+1)-1=2 ^ p*(2*q)+(2 ^ p-1):=by
  have:=Nat.two_pow_pos p;rw[Nat.mul_add];omega
 rw[h1,Nat.testBit_two_pow_mul_add _ (by have:=Nat.two_pow_pos p;omega)];by_cases h:j<p
 ·simp[h]
 ·simp[h]
theorem and_pred(p q j:Nat):(2 ^ p*(2*q+1) &&& (2 ^ p*(2*q+1)-1)).testBit j=((2 ^ p*(2*q+1)).testBit j&&!(j==p)):=by
 rw[Nat.testBit_and,low_bit,low_pred];by_cases h:j<p
 ·simp[h]
 ·by_cases h2:j=p
  ·subst h2;simp
  ·simp[h,h2]
theorem and_neg{n p q:Nat}(h:2 ^ p*(2*q+1)<2 ^ n):2 ^ p*(2*q+1) &&& (2 ^ n-2 ^ p*(2*q+1))=2 ^ p:=by
 apply Nat.eq_of_testBit_eq;intro j;have hpos:0<2 ^ p*(2*q+1):=Nat.mul_pos (Nat.two_pow_pos p) zo;have h1:(2 ^ n-2 ^ p*(2*q+1)).testBit j=(decide (j<n)&&!(2 ^ p*(2*q+1)-1).testBit j):=by
  rw[←Nat.testBit_two_pow_sub_succ zo];congr 1;omega
 have hp:p<n:=by
  rcases Nat.lt_or_ge p n with h2 | h2
  ·exact h2
  ·have h3:=Nat.pow_le_pow_right (show 0<2 by decide) h2;have:2 ^ p*1≤2 ^ p*(2*q+1):=Nat.mul_le_mul_left _ zo;omega
 rw[Nat.testBit_and,h1,low_bit,low_pred,Nat.testBit_two_pow];by_cases h2:j<p
 ·have:¬p=j:=by omega
  simp[h2,this]
 ·by_cases h3:j=p
  ·subst h3;simp[hp]
  ·have:¬p=j:=by omega
   simp[h2,h3,this];exact fun h _=>h
theorem tab32_ok:∀p,p<32→tab32[(2 ^ p*125613361 % 4294967296) / 2 ^ 27]?=some p:=by decide +kernel
def Laid(F:Frz):Prop:=∀p∈tabs,F p.1=some p.2
theorem Laid.mono{F G:Frz}(h:Laid F)(hF:Frz.le F G):Laid G:=fun p hp=>hF _ _ (h p hp)
theorem Laid.tab{F:Frz}(h:Laid F):F 0=some (.cells true (tab32.map fun x:Nat=>Value.int .u8 (x:Int))):=h _ me
theorem tz_spec(F:Frz)(hL:Laid F)(p q:Nat)(hx:2 ^ p*(2*q+1)<4294967296):Abs.Spec CC 81 [.int .u32 ((2 ^ p*(2*q+1):Nat):Int)] F [] fun _ v o=>o=[]∧v=.int .i64 p:=by
 have hL:=hL.tab;have hp:p<32:=by
  rcases Nat.lt_or_ge p 32 with h2 | h2
  ·exact h2
  ·have h3:=Nat.pow_le_pow_right (show 0<2 by decide) h2;have:2 ^ p*1≤2 ^ p*(2*q+1):=Nat.mul_le_mul_left _ zo;omega
 have hneg:=and_neg (n:=32) (p:=p) (q:=q) hx;have hpos:0<2 ^ p*(2*q+1):=Nat.mul_pos (Nat.two_pow_pos p) zo;have htab:=tab32_ok p hp;have hp2:2 ^ p<4294967296:=Nat.pow_lt_pow_right (by decide) hp;generalize 2 ^ p*(2*q+1)=x at hx hneg hpos;refine Abs.Spec.fn (n:=14) Tryd.func81 rfl rfl fun own=>?_;refine zB4 ?_;refine AW.cond Z (fun h=>(by simp at h;omega)) (fun _=>?_);refine zB4 ?_;refine WT.know (v':=.int .u32 ((4294967296-x:Nat):Int)) 7 Z ?_ ?_
 ·have hs:IntKind.u32.signed=false:=rfl;have hbits:IntKind.u32.bits=32:=rfl;have h2:(2:Int) ^ 32=4294967296:=rfl;simp only[IntKind.wrap,hs,hbits,Bool.false_and,h2];congr 1;simp;omega
 refine WT.and32 (x:=x) (y:=4294967296-x) Z Z Z Z Z Z hx zo ?_;rw[show x &&& (4294967296-x)=2 ^ p from hneg];refine WT.mulU32 (x:=2 ^ p) (y:=125613361) Z Z Z Z Z Z ?_;refine WT.shr32 (y:=27) Z Z Z Z Z Z (by decide) ?_;refine WT.idxArr (len:=32) (s:=1) hT Z Z Z Z Z Z Z Z Z (by have:=Nat.mod_lt (2 ^ p*125613361) (show 0<4294967296 by decide);rw[Nat.div_lt_iff_lt_mul (by decide)];omega) ?_;refine WT.loadFAt hT hL (v:=.int .u8 p) Z Z Z Z Z Z Z ?_ ?_
 ·rw[Nat.zero_add,Nat.mul_one,List.getElem?_map,htab];rfl
 refine WT.conv hT (k2:=.i64) Z Z Z Z Z Z Z Z (wrap64 zo) ?_
 refine zB4 ?_;exact AW.ret ⟨_,[],⟨_,_,rfl,rfl,rfl⟩,zsb,rfl,rfl⟩
def Step(w:List Nat)(E:List (List Nat))(s:Sym)(i j:Nat):Prop:=
 if s.term=true then w[i]?=some s.n∧j=i+1 else ∃row x,E[s.n]?=some row∧row[i]?=some x∧x.testBit j=true
def Reads(w:List Nat)(E:List (List Nat)):List Sym→Nat→Nat→Prop
 | [],i,j=>i=j
 | s::l,i,j=>∃m,Step w E s i m∧Reads w E l m j
theorem Reads.snoc{w:List Nat}{E:List (List Nat)}{s:Sym}:∀{l:List Sym} {i j:Nat},Reads w E (l++[s]) i j↔∃m,Reads w E l i m∧Step w E s m j
 | [],i,j=>by simp[Reads]
 | a::l,i,j=>by
  simp only[List.cons_append,Reads,Reads.snoc (l:=l)];constructor
  ·rintro⟨m,h1,m2,h2,h3⟩;exact⟨m2,⟨m,h1,h2⟩,h3⟩
  ·rintro⟨m2,⟨m,h1,h2⟩,h3⟩;exact⟨m,h1,m2,h2,h3⟩
structure EndsOk(n len:Nat)(E:List (List Nat)):Prop where
 size:E.length=n
 row:∀r∈E,r.length=len+1
 bit:∀r∈E,∀x∈r,x<2 ^ (len+1)
theorem inner_step{w:List Nat}{E:List (List Nat)}{y:Sym}{s u2 x p q:Nat}(hs:s.testBit p=true)
  (hu4:∀j,u2.testBit j=true↔∃p',s.testBit p'=true∧(2 ^ p*(2*q+1)).testBit p'=false∧Step w E y p' j) (hst:∀j,x.testBit j=true↔Step w E y p j) :
  ∀j,(u2 ||| x).testBit j=true↔∃p',s.testBit p'=true∧(2 ^ p*(2*q+1) &&& (2 ^ p*(2*q+1)-1)).testBit p'=false∧Step w E y p' j:=by
 intro j;rw[Nat.testBit_or,Bool.or_eq_true,hu4,hst];constructor
 ·rintro(⟨p',h1,h2,h3⟩ | h)
  ·exact⟨p',h1,by rw[and_pred,h2];rfl,h3⟩
  ·exact⟨p,hs,by rw[and_pred];simp,h⟩
 ·rintro⟨p',h1,h2,h3⟩;rw[and_pred] at h2;by_cases hp:p'=p
  ·subst hp;exact .inr h3
  ·refine .inl ⟨p',h1,?_,h3⟩;have:(p'==p)=false:=by simpa using hp
   simpa [this] using h2
theorem reach_spec(F:Frz)(hL:Laid F){n t:Nat}{w:List Nat}{E:List (List Nat)}{l:List Sym}{a1 a2 a3:Option Addr}{m1 m2 m3 c1 c2 c3:Nat}(hw:Arr tNat F a1 m1 c1 w)(hE:Arr (tList tU32) F a2 m2 c2 E)(hl:Arr tSym F a3 m3 c3 l)
  (hE2:EndsOk n w.length E) (hok:∀y∈l,SymOk t n y) (hlen:w.length≤30) (hl2:l.length≤1000) (i0:Nat) (hi0:i0≤w.length) :
  Abs.Spec CC 66 [.slice a1 m1 c1,.slice a2 m2 c2,.slice a3 m3 c3,.int .i64 i0] F [] fun _ v o=>o=[]∧∃r:Nat,v=.int .u32 r∧r<2 ^ (w.length+1)∧∀j,r.testBit j=true↔Reads w E l i0 j:=by
 have hwlen:=hw.len;have hElen:=hE.len;have hllen:=hl.len;have pw:∀p,p≤31→2 ^ p<4294967296:=fun p hp=>Nat.pow_lt_pow_right (n:=32) (by decide) zo;have pwl:2 ^ (w.length+1)≤4294967296:=Nat.pow_le_pow_right (j:=32) (by decide) zo;refine Abs.Spec.fn (n:=68) Tryd.func66 rfl rfl fun own=>?_;refine zB4 ?_;refine WT.shl32 (x:=1) (y:=i0) Z Z Z Z Z Z zo (by have:=pw i0 zo;omega) ?_;refine zB4 ?_
 refine AW.range (S:=Nat) (fun s=>[(9,.int .u32 (s:Nat))]) (fun _=>_) (fun j s G=>s<2 ^ (w.length+1)∧∀q,s.testBit q=true↔Reads w E (l.take j) i0 q) m3 (1*2 ^ i0) Z Z Z Z Z Z Z Z Z zo Z Z (fun _=>rfl) (fun _=>rfl) sM oR ⟨?_,?_⟩ ?_ ?_
 ·rw[Nat.one_mul];exact Nat.pow_lt_pow_right (by decide) zo
 ·intro q;rw[Nat.one_mul,Nat.testBit_two_pow];simp[Reads]
 ·intro j s F1 hF1 hj hP;obtain⟨hs1,hs2⟩:=hP;have hw:=hw.mono hF1;have hE:=hE.mono hF1;have hl:=hl.mono hF1;have hL:=hL.mono hF1;refine zB4 ?_;refine WT.idxL hT hl Z Z Z Z Z Z Z Z Z zo (fun y hyj b1 off ro cs lx hb hp1 hrel=>?_);obtain rfl:lx=_:=hrel;have hyok:=hok y (gM hyj);refine zB4 ?_;refine WT.allocT hT Z Z Z Z Z Z (fun i1 hi1=>?_);refine zB4 ?_;refine AW.block ?_
  refine AW.loopR (S:=Nat×Nat) (fun s=>[(13,.int .u32 s.1),(12,.int .u32 s.2)]) (fun _=>_) (fun u G=>Frz.le F1 G∧u.1<2 ^ (w.length+1)∧u.2<2 ^ (w.length+1)∧(∀q,u.1.testBit q=true→s.testBit q=true)∧∀q,u.2.testBit q=true↔∃p,s.testBit p=true∧u.1.testBit p=false∧Step w E y p q) (fun u=>u.1) (s,0)
   sM oR ⟨Frz.le.refl _,hs1,Nat.two_pow_pos _,fun q h=>h,fun q=>?_⟩ ?_
  ·constructor
   ·intro h;simp at h
   ·rintro⟨p,h1,h2,_⟩;simp only at h2;rw[h1] at h2;cases h2
  ·intro u F2 hF2 hP2;obtain⟨hF12,hu1,hu2,hu3,hu4⟩:=hP2;have hw:=hw.mono hF2;have hE:=hE.mono hF2;have hL:=hL.mono hF2;obtain⟨u1,u2⟩:=u;dsimp only at hu1 hu2 hu3 hu4;refine zB4 ?_;refine AW.cond Z (fun h=>?_) (fun h=>?_)
   ·have hne:u1≠0:=by intro e;subst e;simp at h
    obtain⟨p,q,rfl,hp⟩:=low_form (w.length+1) u1 zo hu1;have hps:s.testBit p=true:=hu3 p (by rw[low_bit];simp);have hle:2 ^ p*(2*q+1) &&& (2 ^ p*(2*q+1)-1)≤2 ^ p*(2*q+1)-1:=Nat.and_le_right;have fin:∀x,x<2 ^ (w.length+1)→(∀j,x.testBit j=true↔Step w E y p j)→(Frz.le F1 F2∧(2 ^ p*(2*q+1) &&& (2 ^ p*(2*q+1)-1))<2 ^ (w.length+1)∧(u2 ||| x)<2 ^ (w.length+1)∧(∀j,(2 ^ p*(2*q+1) &&& (2 ^ p*(2*q+1)-1)).testBit j=true→s.testBit j=true)∧∀j,(u2 ||| x).testBit j=true↔∃p',s.testBit p'=true∧(2 ^ p*(2*q+1) &&& (2 ^ p*(2*q+1)-1)).testBit p'=false∧Step w E y p' j):=by
     intro x hx1 hx2;refine⟨hF12,by omega,Nat.or_lt_two_pow hu2 hx1,fun j hj=>hu3 j ?_,inner_step hps hu4 hx2⟩;rw[Nat.testBit_and] at hj;simp only[Bool.and_eq_true] at hj;exact hj.1
    refine zB4 ?_;refine AW.block ?_;refine zB4 ?_;refine WT.callV Tryd.func81 Z Z Z Z Z Z (tz_spec _ hL p q zo) (fun v hv=>?_);subst hv;refine WT.easy hT Z Z Z Z Z ?_;refine WT.nil ?_;refine AW.block ?_;refine zB4 ?_;refine AW.cond Z (fun h2=>?_) (fun h2=>?_)
    ·have hyt:y.term=false:=by simpa using h2
     rw[SymOk,if_neg (by simp[hyt])] at hyok;have hElen2:=hE2.size;refine zB4 ?_;refine WT.idxL hT hE Z Z Z Z Z Z Z Z Z zo (fun row hrow b2 off2 ro2 cs2 lx2 hb2 hp2 hrel2=>?_);obtain⟨a4,n4,c4,rfl,hrow2⟩:=hrel2;have hrl:=hE2.row row (gM hrow);refine zB4 ?_;refine WT.idxL hT hrow2 Z Z Z Z Z Z Z Z Z zo (fun x hx b3 off3 ro3 cs3 lx3 hb3 hp3 hrel3=>?_);obtain rfl:lx3=_:=hrel3;have hxb:=hE2.bit row (gM hrow) x (gM hx);refine zB4 ?_;refine WT.or32 (x:=u2) (y:=x) Z Z Z Z Z Z zo zo ?_;refine zB4 ?_;refine WT.dec32 (x:=2 ^ p*(2*q+1)) (y:=1) Z Z Z Z Z Z zo zo ?_
     refine WT.and32 (x:=2 ^ p*(2*q+1)) Z Z Z Z Z Z zo zo ?_;refine zB4 ?_;refine⟨(_,u2 ||| x),?_,sM,zow,fin x hxb fun j=>?_⟩
     ·dsimp only;omega
     ·rw[Step,if_neg (by simp[hyt])];constructor
      ·intro hb;exact⟨row,x,hrow,hx,hb⟩
      ·rintro⟨row',x',h3,h4,h5⟩;rw[hrow] at h3;cases h3;rw[hx] at h4;cases h4;exact h5
    ·have hyt:y.term=true:=by simpa using h2
     refine zB4 ?_;refine WT.split 51 Z (fun h3=>?_) (fun h3=>?_)
     ·have h3:p<w.length:=by simp at h3;omega
      refine zB4 ?_;refine WT.idxL hT hw Z Z Z Z Z Z Z Z Z zo (fun x hx b3 off3 ro3 cs3 lx3 hb3 hp3 hrel3=>?_);obtain rfl:lx3=_:=hrel3;refine zB4 ?_;refine AW.cond Z (fun h4=>?_) (fun h4=>?_)
      ·have h4:x=y.n:=by simp at h4;omega
       have e2:1*2 ^ (p+1)<2 ^ (w.length+1):=by rw[Nat.one_mul];exact Nat.pow_lt_pow_right (by decide) zo
       refine zB4 ?_;refine WT.shl32 (x:=1) (y:=p+1) Z Z Z Z Z Z zo zo ?_;refine WT.or32 (x:=u2) (y:=1*2 ^ (p+1)) Z Z Z Z Z Z zo zo ?_;refine zB4 ?_;refine WT.dec32 (x:=2 ^ p*(2*q+1)) (y:=1) Z Z Z Z Z Z zo zo ?_;refine WT.and32 (x:=2 ^ p*(2*q+1)) Z Z Z Z Z Z zo zo ?_;refine zB4 ?_;refine⟨(_,u2 ||| (1*2 ^ (p+1))),?_,sM,zow,fin _ e2 fun j=>?_⟩
       ·dsimp only;omega
       ·rw[Step,if_pos hyt,Nat.one_mul,Nat.testBit_two_pow,hx,h4];simp;omega
      ·have h4:x≠y.n:=by intro e;subst e;simp at h4
       refine zB4 ?_;refine WT.dec32 (x:=2 ^ p*(2*q+1)) (y:=1) Z Z Z Z Z Z zo zo ?_;refine WT.and32 (x:=2 ^ p*(2*q+1)) Z Z Z Z Z Z zo zo ?_;refine zB4 ?_;have:=fin 0 (Nat.two_pow_pos _) (fun j=>by rw[Step,if_pos hyt,hx];simp[h4]);rw[Nat.or_zero] at this;refine⟨(_,u2),?_,sM,zow,this⟩;dsimp only;omega
     ·have h3:w.length≤p:=by simp at h3;omega
      refine zB4 ?_;refine AW.cond Z (fun h4=>(by cases h4)) (fun h4=>?_);refine zB4 ?_;refine WT.dec32 (x:=2 ^ p*(2*q+1)) (y:=1) Z Z Z Z Z Z zo zo ?_;refine WT.and32 (x:=2 ^ p*(2*q+1)) Z Z Z Z Z Z zo zo ?_;refine zB4 ?_;have:=fin 0 (Nat.two_pow_pos _) (fun j=>by rw[Step,if_pos hyt,List.getElem?_eq_none h3];simp);rw[Nat.or_zero] at this;refine⟨(_,u2),?_,sM,zow,this⟩;dsimp only;omega
   ·have h0:u1=0:=by simp at h;omega
    refine AW.exit ?_;refine zB4 ?_;refine⟨u2,sM,zow,hu2,fun q=>?_⟩;rw[hu4,List.take_add_one,hyj];rw[show (some y).toList=[y] from rfl,Reads.snoc,h0];constructor
    ·rintro⟨p,h1,_,h3⟩;exact⟨p,(hs2 p).1 h1,h3⟩
    ·rintro⟨p,h1,h3⟩;exact⟨p,(hs2 p).2 h1,by simp,h3⟩
 ·intro s F1 hF1 hP;obtain⟨hs1,hs2⟩:=hP;rw[List.take_of_length_le zo] at hs2;refine zB4 ?_;exact AW.ret ⟨_,[],⟨_,_,rfl,rfl,rfl⟩,zsb,rfl,s,rfl,hs1,hs2⟩
mutual
inductive Der(g:Gram)(w:List Nat):Sym→Nat→Nat→Prop
 | term {t i:Nat}:w[i]?=some t→Der g w ⟨true,t⟩ i (i+1)
 | non {r:Rule} {i j:Nat}:r∈g.rules→Ders g w r.right i j→Der g w ⟨false,r.left⟩ i j
inductive Ders(g:Gram)(w:List Nat):List Sym→Nat→Nat→Prop
 | nil {i:Nat}:Ders g w [] i i
 | cons {s:Sym} {l:List Sym} {i m j:Nat}:Der g w s i m→Ders g w l m j→Ders g w (s::l) i j
end
theorem der_term{g:Gram}{w:List Nat}{t i j:Nat}:Der g w ⟨true,t⟩ i j↔w[i]?=some t∧j=i+1:=by
 constructor
 ·intro h;cases h with | term h=>exact⟨h,rfl⟩
 ·rintro⟨h,rfl⟩;exact .term h
theorem ders_nil{g:Gram}{w:List Nat}{i j:Nat}:Ders g w [] i j↔i=j:=by
 constructor
 ·intro h;cases h;rfl
 ·rintro rfl;exact .nil
theorem ders_cons{g:Gram}{w:List Nat}{s:Sym}{l:List Sym}{i j:Nat}:Ders g w (s::l) i j↔∃m,Der g w s i m∧Ders g w l m j:=by
 constructor
 ·intro h;cases h with | cons h1 h2=>exact⟨_,h1,h2⟩
 ·rintro⟨m,h1,h2⟩;exact .cons h1 h2
def bit(E:List (List Nat))(n i j:Nat):Prop:=∃row x,E[n]?=some row∧row[i]?=some x∧x.testBit j=true
def Sound(g:Gram)(w:List Nat)(E:List (List Nat)):Prop:=∀n i j,bit E n i j→Der g w ⟨false,n⟩ i j
def ClosedAt(w:List Nat)(E:List (List Nat))(r:Rule)(i:Nat):Prop:=∀j,Reads w E r.right i j→bit E r.left i j
def Closed(g:Gram)(w:List Nat)(E:List (List Nat)):Prop:=∀r∈g.rules,∀i,i≤w.length→ClosedAt w E r i
structure EndsOf(g:Gram)(w:List Nat)(E:List (List Nat)):Prop where
 ok:EndsOk g.nons w.length E
 iff:∀n i j,i≤w.length→(bit E n i j↔Der g w ⟨false,n⟩ i j)
theorem reads_sound{g:Gram}{w:List Nat}{E:List (List Nat)}(h:Sound g w E):∀{l:List Sym} {i j:Nat},Reads w E l i j→Ders g w l i j
 | [],i,j,h1=>by rw[show i=j from h1];exact .nil
 | s::l,i,j,h1=>by
  obtain⟨m,h2,h3⟩:=h1;refine .cons ?_ (reads_sound h h3);obtain⟨b,n⟩:=s;unfold Step at h2;cases b with
  | true=>rw[if_pos rfl] at h2;obtain⟨h4,rfl⟩:=h2;exact .term h4
  | false=>rw[if_neg (by simp)] at h2;exact h n i m h2
theorem closed_complete{g:Gram}{w:List Nat}{E:List (List Nat)}(hE:EndsOk g.nons w.length E)(h:Closed g w E) :
  (∀{s:Sym} {i j:Nat},Der g w s i j→i≤w.length→Step w E s i j∧j≤w.length):=by
 intro s i j h1;refine Der.rec (motive_1:=fun s i j _=>i≤w.length→Step w E s i j∧j≤w.length) (motive_2:=fun l i j _=>i≤w.length→Reads w E l i j∧j≤w.length) ?_ ?_ ?_ ?_ h1
 ·intro t i h2 h3;have:=(gS h2).1;exact⟨by rw[Step,if_pos rfl];exact⟨h2,rfl⟩,by omega⟩
 ·intro r i j hr h2 ih hi;obtain⟨h3,h4⟩:=ih hi;exact⟨by rw[Step,if_neg (by simp)];exact h r hr i hi j h3,h4⟩
 ·intro i hi;exact⟨rfl,hi⟩
 ·intro s l i m j h2 h3 ih1 ih2 hi;obtain⟨h4,h5⟩:=ih1 hi;obtain⟨h6,h7⟩:=ih2 h5;exact⟨⟨m,h4,h6⟩,h7⟩
theorem EndsOf.of{g:Gram}{w:List Nat}{E:List (List Nat)}(hE:EndsOk g.nons w.length E)(h1:Sound g w E)(h2:Closed g w E):EndsOf g w E:=
 ⟨hE,fun n i j hi=>⟨h1 n i j,fun h=>by
  have:=(closed_complete hE h2 h hi).1;rw[Step,if_neg (by simp)] at this;exact this⟩⟩
def total(E:List (List Nat)):Nat:=(E.map List.sum).sum
theorem sum_set:∀{l:List Nat} {i x y:Nat},l[i]?=some x→(l.set i y).sum+x=l.sum+y
 | [],i,x,y,h=>by simp at h
 | a::l,0,x,y,h=>by simp at h;subst h;simp;omega
 | a::l,i+1,x,y,h=>by
  have:=sum_set (l:=l) (i:=i) (x:=x) (y:=y) (by simpa using h);simp only[List.set_cons_succ,List.sum_cons];omega
theorem sum_le{b:Nat}:∀{l:List Nat},(∀x∈l,x≤b)→l.sum≤l.length*b
 | [],_=>by simp
 | a::l,h=>by
  have h1:=h a me;have h2:=sum_le (b:=b) (l:=l) (fun x hx=>h x (List.mem_cons_of_mem _ hx));simp only[List.sum_cons,List.length_cons,Nat.add_mul,Nat.one_mul];omega
theorem total_le{n len:Nat}{E:List (List Nat)}(h:EndsOk n len E):total E≤n*((len+1)*2 ^ (len+1)):=by
 unfold total;rw[←h.size,←List.length_map (f:=List.sum)];refine sum_le fun x hx=>?_;obtain⟨row,hr,rfl⟩:=List.mem_map.1 hx;rw[←h.row row hr];refine sum_le fun x hx=>?_;rw[h.row row hr];exact Nat.le_of_lt (h.bit row hr x hx)
def put(E:List (List Nat))(n i x:Nat):List (List Nat):=match E[n]? with
 | some row=>E.set n (row.set i x)
 | none=>E
theorem put_eq{E:List (List Nat)}{n i x:Nat}{row:List Nat}(h:E[n]?=some row):put E n i x=E.set n (row.set i x):=by unfold put;rw[h]
theorem total_put{E:List (List Nat)}{n i x y:Nat}{row:List Nat}(h:E[n]?=some row)(h2:row[i]?=some x)(h3:x<y):total E<total (put E n i y):=by
 rw[put_eq h];unfold total;rw[List.map_set];have h4:=sum_set (l:=E.map List.sum) (i:=n) (x:=row.sum) (y:=(row.set i y).sum) (by rw[List.getElem?_map,h];rfl);have h5:=sum_set (y:=y) h2;omega
theorem EndsOk.put{n len:Nat}{E:List (List Nat)}(h:EndsOk n len E){k i y:Nat}{row:List Nat}(h1:E[k]?=some row)(hy:y<2 ^ (len+1)):EndsOk n len (put E k i y):=by
 rw[put_eq h1];have hrow:=gM h1;refine⟨by simp[h.size],fun r hr=>?_,fun r hr x hx=>?_⟩
 ·rcases List.mem_or_eq_of_mem_set hr with hr | rfl
  ·exact h.row r hr
  ·simp[h.row row hrow]
 ·rcases List.mem_or_eq_of_mem_set hr with hr | rfl
  ·exact h.bit r hr x hx
  ·rcases List.mem_or_eq_of_mem_set hx with hx | rfl
   ·exact h.bit row hrow x hx
   ·exact hy
theorem bit_put{E:List (List Nat)}{k i y x:Nat}{row:List Nat}(h1:E[k]?=some row)(h2:row[i]?=some x){n' i' j':Nat} :
  bit (put E k i y) n' i' j'↔if n'=k∧i'=i then y.testBit j'=true else bit E n' i' j':=by
 rw[put_eq h1];have hk:k<E.length:=(gS h1).1;have hi:i<row.length:=(gS h2).1;unfold bit;by_cases hn:n'=k
 ·subst hn;simp only[List.getElem?_set_self hk,true_and];by_cases hi':i'=i
  ·subst hi';simp only[if_true];constructor
   ·rintro⟨r,z,h3,h4,h5⟩;cases h3;rw[List.getElem?_set_self hi] at h4;cases h4;exact h5
   ·intro h5;exact⟨_,y,rfl,by rw[List.getElem?_set_self hi],h5⟩
  ·simp only[hi',if_false];constructor
   ·rintro⟨r,z,h3,h4,h5⟩;cases h3;rw[List.getElem?_set_ne zo] at h4;exact⟨row,z,h1,h4,h5⟩
   ·rintro⟨r,z,h3,h4,h5⟩;rw[h1] at h3;cases h3;exact⟨_,z,rfl,by rw[List.getElem?_set_ne zo];exact h4,h5⟩
 ·simp only[hn,false_and,if_false];rw[List.getElem?_set_ne zo]
structure ES where
 E:List (List Nat)
 bs:List (Nat×Blk)
 again:Bool
structure MS where
 k:Nat
 vs:List Value
 bs:List (Nat×Blk)
theorem cap_eq(l:Nat):(bif l==0 then 0 else 1)=if l=0 then 0 else 1:=by cases l<;>rfl
theorem perm_merge{α:Type}(x y:α)(bs rest:List α):(x::((y::bs)++rest)).Perm ((y::(bs++[x]))++rest):=by
 simp only[List.cons_append,List.append_assoc];refine(List.Perm.swap y x _).trans (List.Perm.cons y ?_);have:(x::bs++rest).Perm (bs++x::rest):=List.perm_middle.symm;simpa using this
theorem set_rep{α:Type}(vs:List α)(k:Nat)(z x:α)(hk:0<k):(vs++List.replicate k z).set vs.length x=(vs++[x])++List.replicate (k-1) z:=by
 obtain⟨k,rfl⟩:∃k',k=k'+1:=⟨k-1,by omega⟩;rw[List.set_append_right _ _ (Nat.le_refl _),Nat.sub_self,List.replicate_succ,List.set_cons_zero];simp
theorem ends_spec(F:Frz)(hL:Laid F)(g:Gram)(hg:Valid g){a:Option Addr}{m c:Nat}(hr:Arr tRule F a m c g.rules){b:Option Addr}{n d:Nat}{w:List Nat}(hw:Arr tNat F b n d w)(hw1:w.length≤30) :
  Abs.Spec CC 49 [.agg ⟨gramCells g a m c⟩,.slice b n d] F [] fun F' v o=>o=[]∧∃a c E,v=.slice a g.nons c∧Arr (tList tU32) F' a g.nons c E∧EndsOf g w E:=by
 unfold gramCells;have hrlen:=hr.len;have hwlen:=hw.len;have hgr:=hg.range.rules;have hgn:=hg.range.nons;refine Abs.Spec.fn (n:=73) Tryd.func49 rfl rfl fun own=>?_;refine AW.seq (AW.reg ?_);refine WT.boxT Z Z Z Z Z Z (fun i2 hi2=>?_);refine zB4 ?_;refine WT.makeT (l:=g.nons) hT Z Z Z Z Z Z Z Z Z Z Z Z zom (fun io hio=>?_);rw[cap_eq];refine zB4 ?_;refine AW.range (S:=MS) (fun _=>[]) (fun s=>((io,.cells false (s.vs++List.replicate s.k (.slice none 0 0)))::s.bs)::[(i2,.cells false [.int .i64 g.terms,.int .i64 g.nons,.int .i64 g.start,.slice a m c])]::own)
  (fun j s G=>s.k=g.nons-j∧Abs.Rows cU32 s.vs s.bs (List.replicate j (List.replicate (w.length+1) 0))) g.nons ⟨g.nons,[],[]⟩ Z Z Z Z Z Z Z Z Z zo rfl rfl (fun _=>rfl) (fun _=>rfl) sM (OwnLe.flat (List.Perm.refl _)) ⟨rfl,Abs.Rows.nil⟩ ?_ ?_
 ·intro j s F1 hF1 hj hP;obtain⟨hk,hR⟩:=hP;have hvl:=hR.len.1;rw[List.length_replicate] at hvl;refine zB4 ?_;refine WT.makeT (l:=n+1) hT Z Z Z Z Z Z Z Z Z Z Z Z zom (fun ir hir=>?_);rw[cap_eq];refine WT.idxA (j:=j) (s:=1) hT Z Z Z Z Z Z Z Z Z hj ?_;refine WT.storeAt hT 1 0 Z Z Z Z Z Z Z Z Z Z (by simp;omega) Z Z ?_;refine zB4 ?_;refine⟨⟨g.nons-(j+1),s.vs++[.slice (some ⟨ir,0,none⟩) (n+1) (if n+1=0 then 0 else 1)],s.bs++[(ir,.cells false (List.replicate (n+1) (.int .u32 0)))]⟩,sM,OwnLe.flat ?_,rfl,?_⟩
  ·dsimp only;rw[show 0+j*1=s.vs.length by omega,set_rep _ _ _ _ zo,show s.k-1=g.nons-(j+1) by omega];simp only[List.flatten_cons];exact perm_merge _ _ _ _
  ·rw[show List.replicate (j+1) (List.replicate (w.length+1) 0)=List.replicate j (List.replicate (w.length+1) 0)++[List.replicate (w.length+1) 0] from List.replicate_succ'];have:=hR.snoc (K:=cU32) (id:=ir) (row:=List.replicate (w.length+1) 0) (c:=if n+1=0 then 0 else 1) (by simp);rw[List.length_replicate,List.map_replicate,←hwlen] at this;rw[←hwlen];exact this
 ·intro s F1 hF1 hP;obtain⟨hk,hR0⟩:=hP;have hk0:s.k=0:=by omega
  have hr1:=hr.mono hF1;have hw1':=hw.mono hF1;have hL1:=hL.mono hF1;have hE0:EndsOk g.nons w.length (List.replicate g.nons (List.replicate (w.length+1) 0)):=by
   refine⟨by simp,fun r hr=>?_,fun r hr x hx=>?_⟩
   ·rw[List.eq_of_mem_replicate hr];simp
   ·rw[List.eq_of_mem_replicate hr] at hx;rw[List.eq_of_mem_replicate hx];exact Nat.two_pow_pos _
  have hS0:Sound g w (List.replicate g.nons (List.replicate (w.length+1) 0)):=by
   rintro n i j ⟨row,x,h1,h2,h3⟩;rw[List.eq_of_mem_replicate (gM h1)] at h2;rw[List.eq_of_mem_replicate (gM h2)] at h3;simp at h3
  refine zB4 ?_;refine AW.block ?_;refine AW.loopR (S:=ES) (fun s=>[(7,.bool s.again)]) (fun t=>((io,.cells false (s.vs++List.replicate s.k (.slice none 0 0)))::t.bs)::[(i2,.cells false [.int .i64 g.terms,.int .i64 g.nons,.int .i64 g.start,.slice a m c])]::own)
   (fun t G=>Abs.Rows cU32 s.vs t.bs t.E∧EndsOk g.nons w.length t.E∧Sound g w t.E∧(t.again=false→Closed g w t.E)) (fun t=>if t.again=true then 1+(g.nons*((w.length+1)*2 ^ (w.length+1))-total t.E) else 0) ⟨_,s.bs,true⟩
   sM oR ⟨hR0,hE0,hS0,fun h=>(by cases h)⟩ ?_
  intro t F2 hF2 hP;obtain⟨hR,hE,hS,hC⟩:=hP;have hr2:=hr1.mono hF2;refine zB4 ?_;refine AW.cond Z (fun h=>?_) (fun h=>?_)
  ·refine zB4 ?_;refine AW.block ?_;refine zB4 ?_;refine AW.range (S:=ES) (fun s=>[(7,.bool s.again)]) (fun t=>((io,.cells false (s.vs++List.replicate s.k (.slice none 0 0)))::t.bs)::[(i2,.cells false [.int .i64 g.terms,.int .i64 g.nons,.int .i64 g.start,.slice a m c])]::own)
    (fun k u G=>Abs.Rows cU32 s.vs u.bs u.E∧EndsOk g.nons w.length u.E∧Sound g w u.E∧total t.E≤total u.E∧(u.again=true→total t.E<total u.E)∧(u.again=false→∀r∈g.rules.take k,∀i,i≤w.length→ClosedAt w u.E r i)) m ⟨t.E,t.bs,false⟩
    Z Z Z Z Z Z Z Z Z zo rfl rfl (fun _=>rfl) (fun _=>rfl) sM oR ⟨hR,hE,hS,Nat.le_refl _,fun h=>(by cases h),by simp⟩ ?_ ?_
   ·intro k u F3 hF3 hk hP;obtain⟨hR,hE,hS,hT1,hT2,hC⟩:=hP;have hr3:=hr2.mono hF3;refine zB4 ?_;refine WT.idxL hT hr3 Z Z Z Z Z Z Z Z Z zo (fun r hrk b1 off ro cs lx hb hp1 hrel=>?_);obtain⟨b2,n2,d2,rfl,hr4⟩:=hrel;obtain⟨hrl,hrr,hrs⟩:=hg.right r (gM hrk);refine zB4 ?_;refine WT.allocT hT Z Z Z Z Z Z (fun i9 hi9=>?_);refine zB4 ?_
    refine AW.range (S:=ES) (fun s=>[(7,.bool s.again)]) (fun t=>[(i9,.cells false [.int .i64 r.left,.slice b2 n2 d2])]::((io,.cells false (s.vs++List.replicate s.k (.slice none 0 0)))::t.bs)::[(i2,.cells false [.int .i64 g.terms,.int .i64 g.nons,.int .i64 g.start,.slice a m c])]::own)
     (fun i u G=>Abs.Rows cU32 s.vs u.bs u.E∧EndsOk g.nons w.length u.E∧Sound g w u.E∧total t.E≤total u.E∧(u.again=true→total t.E<total u.E)∧(u.again=false→(∀r∈g.rules.take k,∀i,i≤w.length→ClosedAt w u.E r i)∧∀i',i'<i→ClosedAt w u.E r i')) (n+1) u
     Z Z Z Z Z Z Z Z Z zo rfl rfl (fun _=>rfl) (fun _=>rfl) sM oR ⟨hR,hE,hS,hT1,hT2,fun h=>⟨hC h,by omega⟩⟩ ?_ ?_
    ·intro i u F4 hF4 hi hP;obtain⟨hR,hE,hS,hT1,hT2,hC⟩:=hP;have hw4:=((hw1'.mono hF2).mono hF3).mono hF4;have hL4:=((hL1.mono hF2).mono hF3).mono hF4;have hr5:=hr4.mono hF4;have hElen:=hE.size;have pwl:2 ^ (w.length+1)≤4294967296:=Nat.pow_le_pow_right (j:=32) (by decide) zo;obtain⟨row,hrow⟩:∃row,u.E[r.left]?=some row:=⟨_,gE zo⟩;have hrowlen:=hE.row row (gM hrow);obtain⟨x,hx⟩:∃x,row[i]?=some x:=⟨_,gE zo⟩;have hxb:=hE.bit row (gM hrow) x (gM hx);obtain⟨id,cc,hvs,hbs,hcc⟩:=hR.at r.left row hrow;have hvl:=hR.len.1
     have hcell:(row.map cU32.cell)[0+i*1]?=some (.int .u32 x):=by rw[Nat.zero_add,Nat.mul_one,List.getElem?_map,hx];rfl
     have hout:(s.vs++List.replicate s.k (Value.slice none 0 0))[0+r.left*1]?=some (.slice (some ⟨id,0,none⟩) row.length cc):=by
      rw[Nat.zero_add,Nat.mul_one,List.getElem?_append_left zo];exact hvs
     have harr:∀G,(∀i b,(i,b)∈((io,Blk.cells false (s.vs++List.replicate s.k (Value.slice none 0 0)))::u.bs)→G i=some b)→Arr (tList tU32) G (some ⟨io,0,none⟩) g.nons (if g.nons=0 then 0 else 1) u.E:=by
      intro G hBG;have:=Abs.Rows.arr (K:=cU32) (R:=tU32) rfl (fun _ _=>rfl) (F:=G) (o:=io) (c:=if u.E.length=0 then 0 else 1) (ro:=false) hR (fun i b hm=>hBG i b (List.mem_cons_of_mem _ hm)) rfl (by rw[hBG io _ me,hk0];simp);rw[hElen] at this;exact this
     refine zB4 ?_;refine WT.callLend 1 Tryd.func66 Z Z Z Z Z Z Z (fun G hG hBG=>reach_spec G (hL4.mono hG) (t:=g.terms) (hw4.mono hG) (harr G hBG) (hr5.mono hG) hE hrs hw1 zo i zo) (fun v hv=>?_);obtain⟨y,rfl,hy1,hy2⟩:=hv;have hxy:x ||| y<2 ^ (w.length+1):=Nat.or_lt_two_pow hxb hy1
     refine zB4 ?_;refine WT.idxA (j:=r.left) (s:=1) hT Z Z Z Z Z Z Z Z Z hrl ?_;refine WT.loadAt hT 1 Z Z Z Z Z Z me Z Z hout ?_;refine zB4 ?_;refine WT.idxA (j:=i) (s:=1) hT Z Z Z Z Z Z Z Z Z zo ?_;refine WT.loadAt hT 1 Z Z Z Z Z Z (List.mem_cons_of_mem _ (gM hbs)) Z Z hcell ?_;refine WT.andNot32 (x:=y) (y:=x) Z Z Z Z Z Z zo zo ?_;refine zB4 ?_;refine AW.cond Z (fun h=>?_) (fun h=>?_)
     ·have hne:andNot y x≠0:=by intro e;rw[e] at h;simp at h
      refine zB4 ?_;refine WT.idxA (j:=r.left) (s:=1) hT Z Z Z Z Z Z Z Z Z hrl ?_;refine WT.loadAt hT 1 Z Z Z Z Z Z me Z Z hout ?_;refine zB4 ?_;refine WT.idxA (j:=i) (s:=1) hT Z Z Z Z Z Z Z Z Z zo ?_;refine WT.loadAt hT 1 Z Z Z Z Z Z (List.mem_cons_of_mem _ (gM hbs)) Z Z hcell ?_;refine zB4 ?_;refine WT.or32 (x:=x) (y:=y) Z Z Z Z Z Z zo zo ?_;refine WT.idxA (j:=i) (s:=1) hT Z Z Z Z Z Z Z Z Z zo ?_;refine WT.storeAt hT 1 (r.left+1) Z Z Z Z Z Z hbs Z Z Z (by simp;omega) Z Z ?_;refine zB4 ?_;have hlt:x<x ||| y:=by
       rcases Nat.lt_or_ge x (x ||| y) with h1 | h1
       ·exact h1
       ·exfalso;have h2:x ||| y=x:=Nat.le_antisymm h1 Nat.left_le_or
        refine hne ((andNot_zero zo zo).2 fun j hj=>?_);rw[←h2,Nat.testBit_or,hj];simp
      have hT3:=total_put (y:=x ||| y) hrow hx hlt
      refine⟨⟨put u.E r.left i (x ||| y),u.bs.set r.left (id,.cells false ((row.set i (x ||| y)).map cU32.cell)),true⟩,sM,OwnLe.flat ?_,?_,hE.put hrow hxy,?_,by dsimp only;omega,fun _=>by dsimp only;omega,fun h=>(by cases h)⟩
      ·rw[List.map_set];rw[show 0+i*1=i by omega];exact List.Perm.refl _
      ·rw[put_eq hrow];exact hR.set r.left row (row.set i (x ||| y)) id hrow (by simp) hbs
      ·intro n' i' j' hb';rw[bit_put hrow hx] at hb';split at hb'
       ·rename_i he;obtain⟨rfl,rfl⟩:=he;rw[Nat.testBit_or,Bool.or_eq_true] at hb';rcases hb' with hb' | hb'
        ·exact hS _ _ _ ⟨row,x,hrow,hx,hb'⟩
        ·exact .non (gM hrk) (reads_sound hS ((hy2 j').1 hb'))
       ·exact hS _ _ _ hb'
     ·have he:andNot y x=0:=by simp at h;omega
      have he2:=(andNot_zero zo zo).1 he;refine zB4 ?_;refine⟨u,sM,zow,hR,hE,hS,hT1,hT2,fun h=>⟨(hC h).1,fun i' hi'=>?_⟩⟩;rcases Nat.lt_or_ge i' i with h3 | h3
      ·exact(hC h).2 i' h3
      ·have:i'=i:=by omega
       subst this;intro j hj;exact⟨row,x,hrow,hx,he2 j ((hy2 j).2 hj)⟩
    ·intro u F4 hF4 hP;obtain⟨hR,hE,hS,hT1,hT2,hC⟩:=hP;refine⟨u,sM,zow,hR,hE,hS,hT1,hT2,fun h=>take_all hrk (hC h).1 fun i hi=>(hC h).2 i zo⟩
   ·intro u F3 hF3 hP;obtain⟨hR,hE,hS,hT1,hT2,hC⟩:=hP;rw[List.take_of_length_le zo] at hC;refine⟨u,?_,sM,zow,hR,hE,hS,hC⟩;have:=total_le hE;rw[h,if_pos rfl];split
    ·rename_i h4;have:=hT2 h4;omega
    ·omega
  ·refine AW.exit ?_;refine AW.freezeAll 0 Z Z (fun F3 hF3 hB3=>?_);have harr:Arr (tList tU32) F3 (some ⟨io,0,none⟩) g.nons (if g.nons=0 then 0 else 1) t.E:=by
    have hElen:=hE.size;have:=Abs.Rows.arr (K:=cU32) (R:=tU32) rfl (fun _ _=>rfl) (F:=F3) (o:=io) (c:=if t.E.length=0 then 0 else 1) (ro:=false) hR (fun i b hm=>hB3 i b (List.mem_cons_of_mem _ hm)) rfl (by rw[hB3 io _ me,hk0];simp);rw[hElen] at this;exact this
   refine zB4 ?_;exact AW.ret ⟨_,[],⟨_,_,rfl,rfl,rfl⟩,zsb,rfl,_,_,t.E,rfl,harr,EndsOf.of hE hS (hC h)⟩
theorem equal_spec(F:Frz){a b:Option Addr}{m n c d:Nat}{xs ys:List Nat}(hx:Arr tNat F a m c xs)(hy:Arr tNat F b n d ys)(hm:m≤1000000) :
  Abs.Spec CC 20 [.slice a m c,.slice b n d] F [] fun _ v o=>o=[]∧v=.bool (decide (xs=ys)):=by
 refine Abs.Spec.fn (n:=26) Tryd.func20 rfl rfl fun own=>?_;have hxlen:=hx.len;have hylen:=hy.len;refine zB4 ?_;refine AW.cond Z (fun hc=>?_) (fun hc=>?_)
 ·refine zB4 ?_;refine AW.ret ⟨_,[],⟨_,_,rfl,rfl,rfl⟩,zsb,rfl,?_⟩;have:xs≠ys:=by rintro rfl;simp at hc;omega
  simp[this,tupleA]
 ·have hmn:m=n:=by simp at hc;omega
  refine zB4 ?_;refine AW.range (S:=Unit) (fun _=>[]) (fun _=>_) (fun j _ G=>xs.take j=ys.take j) m () Z Z Z Z Z Z Z Z Z zo Z Z (fun _=>rfl) (fun _=>rfl) sM oR (by simp) ?_ ?_
  ·intro j _ F1 hF1 hj hP;have hx1:=hx.mono hF1;have hy1:=hy.mono hF1;refine zB4 ?_;refine WT.idxL hT hx1 Z Z Z Z Z Z Z Z Z zo (fun x hxj b1 off ro cs lx hb hp1 hrel=>?_);obtain rfl:lx=_:=hrel;refine zB4 ?_;refine WT.idxL hT hy1 Z Z Z Z Z Z Z Z Z zo (fun y hyj b2 off2 ro2 cs2 ly hb2 hp2 hrel2=>?_);obtain rfl:ly=_:=hrel2;refine zB4 ?_;refine AW.cond Z (fun hc=>?_) (fun hc=>?_)
   ·refine zB4 ?_;refine AW.ret ⟨_,[],⟨_,_,rfl,rfl,rfl⟩,zsb,rfl,?_⟩;have:xs≠ys:=by
     rintro rfl;rw[hxj] at hyj;cases hyj;simp at hc
    simp[this,tupleA]
   ·have hc:x=y:=by simp at hc;omega
    refine zB4 ?_;refine⟨(),sM,zow,?_⟩;show xs.take (j+1)=ys.take (j+1);rw[List.take_add_one,List.take_add_one,hP,hxj,hyj,hc]
  ·intro _ F1 hF1 hP;rw[List.take_of_length_le zo,List.take_of_length_le zo] at hP;refine zB4 ?_;refine AW.ret ⟨_,[],⟨_,_,rfl,rfl,rfl⟩,zsb,rfl,?_⟩;simp[hP,tupleA]
theorem shift_bit(x p:Nat):(x / 2 ^ p &&& 1)=if x.testBit p=true then 1 else 0:=by
 rw[Nat.and_one_is_mod,←Nat.shiftRight_eq_div_pow];have:=Nat.testBit_eq_decide_div_mod_eq (x:=x) (i:=p);rw[Nat.shiftRight_eq_div_pow];rw[this];simp only[decide_eq_true_eq];rcases Nat.mod_two_eq_zero_or_one (x / 2 ^ p) with h | h<;>simp[h]
noncomputable def derives(g:Gram)(w:List Nat)(n i j:Nat):Bool:=@decide (Der g w ⟨false,n⟩ i j) (Classical.propDecidable _)
structure NS where
 xs:List Nat
 a:Option Addr
 m:Nat
 c:Nat
 B:List (Nat×Blk)
theorem der_le{g:Gram}{w:List Nat}:∀{s:Sym} {i j:Nat},Der g w s i j→i≤j:=by
 intro s i j h;refine Der.rec (motive_1:=fun s i j _=>i≤j) (motive_2:=fun l i j _=>i≤j) ?_ ?_ ?_ ?_ h
 ·intro t i _;omega
 ·intro r i j _ _ ih;exact ih
 ·intro i;omega
 ·intro s l i m j _ _ ih1 ih2;omega
theorem ders_le{g:Gram}{w:List Nat}:∀{l:List Sym} {i j:Nat},Ders g w l i j→i≤j
 | [],i,j,h=>by rw[ders_nil.1 h];omega
 | s::l,i,j,h=>by
  obtain⟨m,h1,h2⟩:=ders_cons.1 h;have:=der_le h1;have:=ders_le h2;omega
def orRow(xs ys:List Bool):List Bool:=List.zipWith (fun a b=>a||b) xs ys
def orTo(j:Nat)(xs ys:List Bool):List Bool:=orRow (xs.take j) (ys.take j)++xs.drop j
theorem orTo_zero(xs ys:List Bool):orTo 0 xs ys=xs:=by simp[orTo,orRow]
theorem orTo_all{xs ys:List Bool}(h:xs.length=ys.length):orTo xs.length xs ys=orRow xs ys:=by
 unfold orTo;rw[List.take_of_length_le (Nat.le_refl _),List.take_of_length_le zo,List.drop_of_length_le (Nat.le_refl _),List.append_nil]
theorem orTo_len{j:Nat}{xs ys:List Bool}(h:xs.length=ys.length):(orTo j xs ys).length=xs.length:=by
 unfold orTo orRow;simp;omega
theorem orTo_at{j:Nat}{xs ys:List Bool}{x:Bool}(h:xs.length=ys.length)(hx:xs[j]?=some x):(orTo j xs ys)[j]?=some x:=by
 have hj:=(gS hx).1;unfold orTo orRow;rw[List.getElem?_append_right (by simp;omega)];simp;rw[←hx];congr 1;omega
theorem orTo_succ{j:Nat}{xs ys:List Bool}{x y:Bool}(h:xs.length=ys.length)(hx:xs[j]?=some x)(hy:ys[j]?=some y):orTo (j+1) xs ys=(orTo j xs ys).set j (x||y):=by
 have hj:=(gS hx).1;have hl:(orRow (xs.take j) (ys.take j)).length=j:=by unfold orRow;simp;omega
 unfold orTo;rw[List.take_add_one,List.take_add_one,hx,hy];unfold orRow;rw[List.zipWith_append (by simp;omega)];have hd:xs.drop j=x::xs.drop (j+1):=by
  rw[List.drop_eq_getElem_cons hj];rw[gE hj] at hx;rw[Option.some.inj hx]
 rw[hd];unfold orRow at hl;rw[List.set_append_right _ _ zo,hl,Nat.sub_self];simp
structure US where
 cur:List Bool
 ch:Bool
theorem union_spec(F:Frz){it:Nat}{xs ys:List Bool}{b:Option Addr}{m n c d:Nat}(hm:m=xs.length)(hy:Arr tBool F b n d ys)(hlen:xs.length=ys.length)(hn:n≤1000000) :
  Abs.Spec CC 47 [.slice (some ⟨it,0,none⟩) m c,.slice b n d] F [[(it,.cells false (xs.map cBool.cell))]] fun _ v o=>∃B',o=[B']∧B'=[(it,.cells false ((orRow xs ys).map cBool.cell))]∧v=.bool (decide (orRow xs ys≠xs)):=by
 have hylen:=hy.len;refine Abs.Spec.fn (n:=28) Tryd.func47 rfl rfl fun own=>?_;refine zB4 ?_;refine AW.range (S:=US) (fun s=>[(5,.bool s.ch)]) (fun s=>[(it,.cells false (s.cur.map cBool.cell))]::own) (fun j s G=>s.cur=orTo j xs ys∧s.ch=decide (s.cur≠xs)) n ⟨xs,false⟩ Z Z Z Z Z Z Z Z Z zo Z Z (fun _=>rfl) (fun _=>rfl) sM oR ⟨(orTo_zero xs ys).symm,by simp⟩ ?_ ?_
 ·intro j s F1 hF1 hj hP;obtain⟨hcur,hch⟩:=hP;have hy1:=hy.mono hF1;obtain⟨x,hx⟩:∃x,xs[j]?=some x:=⟨_,gE zo⟩;have hcl:s.cur.length=xs.length:=by rw[hcur];exact orTo_len hlen
  have hcx:(s.cur.map cBool.cell)[0+j*1]?=some (.bool x):=by rw[Nat.zero_add,Nat.mul_one,List.getElem?_map,hcur,orTo_at hlen hx];rfl
  refine zB4 ?_;refine WT.idxL hT hy1 Z Z Z Z Z Z Z Z Z zo (fun y hyj b1 off ro cs lx hb hp hrel=>?_);obtain rfl:lx=_:=hrel;have hnext:=orTo_succ hlen hx hyj;rw[←hcur] at hnext;have same:(x||y)=x→s.cur.set j (x||y)=s.cur:=by
   intro e;rw[e];apply List.ext_getElem?;intro i;by_cases hi:i=j
   ·subst hi;rw[List.getElem?_set_self zo,hcur,orTo_at hlen hx]
   ·rw[List.getElem?_set_ne zo]
  refine zB4 ?_;refine WT.split 16 Z (fun h=>?_) (fun h=>?_)
  ·refine zB4 ?_;refine WT.idxA (j:=j) (s:=1) hT Z Z Z Z Z Z Z Z Z zo ?_;refine WT.loadAt hT 0 Z Z Z Z Z Z me Z Z hcx ?_;refine zB4 ?_;refine AW.cond Z (fun h2=>?_) (fun h2=>?_)
   ·have h2:x=false:=by simpa using h2
    refine zB4 ?_;refine WT.idxA (j:=j) (s:=1) hT Z Z Z Z Z Z Z Z Z zo ?_;refine WT.storeAt hT 0 0 Z Z Z Z Z Z Z Z Z Z (by simp;omega) Z Z ?_;refine zB4 ?_;refine⟨⟨s.cur.set j true,true⟩,sM,OwnLe.flat ?_,?_,?_⟩
    ·dsimp only;rw[List.map_set,Nat.zero_add,Nat.mul_one];exact List.Perm.refl _
    ·rw[hnext,h,h2];rfl
    ·have:s.cur.set j true≠xs:=by
      intro e;have this:(s.cur.set j true)[j]?=xs[j]?:=by rw[e]
      rw[List.getElem?_set_self zo,hx,h2] at this;cases this
     simp[this]
   ·have h2:x=true:=by simpa using h2
    refine zB4 ?_;refine⟨s,sM,zow,?_,hch⟩;rw[hnext,same (by rw[h2];rfl)]
  ·refine zB4 ?_;refine AW.cond Z (fun h2=>(by cases h2)) (fun h2=>?_);refine zB4 ?_;refine⟨s,sM,zow,?_,hch⟩;rw[hnext,same (by rw[h];simp)]
 ·intro s F1 hF1 hP;obtain⟨hcur,hch⟩:=hP;rw[show n=xs.length by omega,orTo_all hlen] at hcur;refine zB4 ?_;refine AW.ret ⟨_,[_],⟨_,_,rfl,rfl,rfl⟩,List.Sublist.refl _,_,rfl,by rw[←hcur],?_⟩;rw[←hcur,←hch];rfl
def ofRow(E:List Bool)(Fi:List (List Bool)):List Bool→List Sym→List Bool×Bool
 | out,[]=>(out,true)
 | out,s::l=>if s.term=true then (out.set s.n true,false) else
  if E.getD s.n false=true then ofRow E Fi (orRow out (Fi.getD s.n [])) l else (orRow out (Fi.getD s.n []),false)
theorem sof_spec(F:Frz){is ie io:Nat}{ro:Bool}{terms nons start rm rc ce co:Nat}{ra:Option Addr}{E:List Bool}{Fi:List (List Bool)}
  (hS:F is=some (.cells ro [.int .i64 terms,.int .i64 nons,.int .i64 start,.slice ra rm rc,.slice (some ⟨ie,0,none⟩) nons ce,.slice (some ⟨io,0,none⟩) nons co]))
  (hE:Arr tBool F (some ⟨ie,0,none⟩) nons ce E) (hFi:Arr (tList tBool) F (some ⟨io,0,none⟩) nons co Fi) (hFl:∀r∈Fi,r.length=terms) (ht:terms≤1000000)
  {a:Option Addr} {m c:Nat} {l:List Sym} (hl:Arr tSym F a m c l) (hm:m≤1000000) (hok:∀y∈l,SymOk terms nons y) :
  Abs.Spec CC 46 [.pointer (some ⟨is,0,none⟩),.slice a m c] F [] fun _ v o=>∃B',o=[B']∧∃ir,B'=[(ir,.cells false ((ofRow E Fi (List.replicate terms false) l).1.map cBool.cell))]∧
   (ofRow E Fi (List.replicate terms false) l).1.length=terms∧v=.tuple ⟨[.slice (some ⟨ir,0,none⟩) terms (if terms=0 then 0 else 1),.bool (ofRow E Fi (List.replicate terms false) l).2]⟩:=by
 have hllen:=hl.len;have hElen:=hE.len;have hFlen:=hFi.len;refine Abs.Spec.fn (n:=50) Tryd.func46 rfl rfl fun own=>?_;refine zB4 ?_;refine WT.makeT (l:=terms) hT Z Z Z Z Z Z Z Z Z Z Z Z zom (fun ir hir=>?_);rw[cap_eq];refine zB4 ?_;refine AW.range (S:=List Bool) (fun _=>[]) (fun s=>[(ir,.cells false (s.map cBool.cell))]::own) (fun j s G=>s.length=terms∧ofRow E Fi (List.replicate terms false) l=ofRow E Fi s (l.drop j)) m (List.replicate terms false) Z Z Z Z Z Z Z Z Z zo Z Z (fun _=>rfl) (fun _=>rfl) sM (OwnLe.flat (by simp[cBool])) ⟨by simp,by simp⟩ ?_ ?_
 ·intro j s F1 hF1 hj hP;obtain⟨hsl,hrun⟩:=hP;have hl1:=hl.mono hF1;have hS1:=hF1 _ _ hS;have hE1:=hE.mono hF1;have hFi1:=hFi.mono hF1;refine zB4 ?_;refine WT.idxL hT hl1 Z Z Z Z Z Z Z Z Z zo (fun y hyj b1 off ro1 cs lx hb hp hrel=>?_);obtain rfl:lx=_:=hrel;have hyok:=hok y (gM hyj);have hdrop:l.drop j=y::l.drop (j+1):=by
   rw[List.drop_eq_getElem_cons (show j<l.length by omega)];rw[gE zo] at hyj;rw[Option.some.inj hyj]
  rw[hdrop] at hrun;refine zB4 ?_;refine WT.allocT hT Z Z Z Z Z Z (fun i8 hi8=>?_);refine zB4 ?_;refine AW.cond Z (fun h=>?_) (fun h=>?_)
  ·have h:y.term=true:=h;rw[SymOk,if_pos h] at hyok;rw[ofRow,if_pos h] at hrun;refine zB4 ?_;refine WT.idxA (j:=y.n) (s:=1) hT Z Z Z Z Z Z Z Z Z hyok ?_;refine WT.storeAt hT 1 0 Z Z Z Z Z Z Z Z Z Z (by simp;omega) Z Z ?_;refine zB4 ?_;refine AW.ret ⟨_,[[(ir,.cells false ((s.set y.n true).map cBool.cell))]],⟨_,_,rfl,⟨_,_,rfl,rfl,rfl⟩,rfl⟩,?_,_,rfl,ir,?_,?_,?_⟩
   ·rw[List.map_set,show 0+y.n*1=y.n by omega];exact List.sublist_cons_self ..
   ·rw[hrun]
   ·rw[hrun];simp[hsl]
   ·rw[hrun];rfl
  ·have h:¬y.term=true:=by rw[show y.term=false from h];decide
   rw[SymOk,if_neg h] at hyok;rw[ofRow,if_neg h] at hrun;refine zB4 ?_;refine WT.idxL hT hFi1 Z Z Z Z Z Z Z Z Z zo (fun row hrow b2 off2 ro2 cs2 lx2 hb2 hp2 hrel2=>?_);obtain⟨a4,n4,c4,rfl,hrow2⟩:=hrel2;have hrl:=hFl row (gM hrow);have hrl2:=hrow2.len;have hgetD:Fi.getD y.n []=row:=by rw[List.getD_eq_getElem?_getD,hrow];rfl
   rw[hgetD] at hrun;have hnl:(orRow s row).length=terms:=by unfold orRow;simp;omega
   refine zB4 ?_;refine WT.call1 1 Tryd.func47 Z Z Z Z Z Z Z (fun _=>rfl) (union_spec F1 (it:=ir) (xs:=s) (m:=terms) zo hrow2 zo zo) (fun v B hv=>?_);obtain⟨rfl,rfl⟩:=hv;refine zB4 ?_;refine WT.idxL hT hE1 Z Z Z Z Z Z Z Z Z zo (fun e he b3 off3 ro3 cs3 lx3 hb3 hp3 hrel3=>?_);obtain rfl:lx3=_:=hrel3;have hgE:E.getD y.n false=e:=by rw[List.getD_eq_getElem?_getD,he];rfl
   rw[hgE] at hrun;refine zB4 ?_;refine AW.cond Z (fun h2=>?_) (fun h2=>?_)
   ·have h2:e=false:=by simpa using h2
    rw[if_neg (by rw[h2];decide)] at hrun;refine zB4 ?_;refine AW.ret ⟨_,[[(ir,.cells false ((orRow s row).map cBool.cell))]],⟨_,_,rfl,⟨_,_,rfl,rfl,rfl⟩,rfl⟩,List.sublist_cons_self ..,_,rfl,ir,?_,?_,?_⟩
    ·rw[hrun]
    ·rw[hrun];exact hnl
    ·rw[hrun];rfl
   ·have h2:e=true:=by simpa using h2
    rw[if_pos h2] at hrun;refine zB4 ?_;exact⟨orRow s row,sM,zow,hnl,hrun⟩
 ·intro s F1 hF1 hP;obtain⟨hsl,hrun⟩:=hP;rw[List.drop_of_length_le zo,ofRow] at hrun;refine zB4 ?_;refine AW.ret ⟨_,[_],⟨_,_,rfl,⟨_,_,rfl,rfl,rfl⟩,rfl⟩,List.Sublist.refl _,_,rfl,ir,?_,?_,?_⟩
  ·rw[hrun]
  ·rw[hrun];exact hsl
  ·rw[hrun];rfl
def FirstClosed(g:Gram)(E:List Bool)(Fi:List (List Bool)):Prop:=∀r∈g.rules,orRow (Fi.getD r.left []) (ofRow E Fi (List.replicate g.terms false) r.right).1=Fi.getD r.left []∧
 ((ofRow E Fi (List.replicate g.terms false) r.right).2=true→E.getD r.left false=true)
structure SetsF(F:Frz)(is:Nat)(g:Gram)(ra:Option Addr)(rm rc:Nat)(E:List Bool)(Fi:List (List Bool)):Prop where
 blk:∃ie io ce co ro,F is=some (.cells ro [.int .i64 g.terms,.int .i64 g.nons,.int .i64 g.start,.slice ra rm rc,.slice (some ⟨ie,0,none⟩) g.nons ce,.slice (some ⟨io,0,none⟩) g.nons co])∧
  Arr tBool F (some ⟨ie,0,none⟩) g.nons ce E∧Arr (tList tBool) F (some ⟨io,0,none⟩) g.nons co Fi
 row:∀r∈Fi,r.length=g.terms
 rules:Arr tRule F ra rm rc g.rules
 closed:FirstClosed g E Fi
structure FS where
 a:Option Addr
 m:Nat
 c:Nat
 B:List (Nat×Blk)
 vs:List Value
 bs:List (Nat×Blk)
structure FM where
 E:List Bool
 Fi:List (List Bool)
 bs:List (Nat×Blk)
 again:Bool
def ones:List Bool→Nat
 | []=>0
 | b::l=>(if b=true then 1 else 0)+ones l
def onesT(M:List (List Bool)):Nat:=(M.map ones).sum
theorem ones_le:∀l:List Bool,ones l≤l.length
 | []=>Nat.le_refl _
 | b::l=>by have:=ones_le l;simp only[ones,List.length_cons];split<;>omega
theorem ones_or:∀{xs ys:List Bool},xs.length=ys.length→ones xs≤ones (orRow xs ys)∧(orRow xs ys≠xs→ones xs<ones (orRow xs ys))
 | [],[],_=>by simp[orRow]
 | [],_::_,h=>by simp at h
 | _::_,[],h=>by simp at h
 | x::xs,y::ys,h=>by
  obtain⟨h1,h2⟩:=@ones_or xs ys (by simpa using h);unfold orRow at h1 h2;simp only[orRow,List.zipWith_cons_cons,ones];cases x with
  | true=>
   refine⟨by simp;omega,fun hne=>?_⟩;have:List.zipWith (fun a b=>a||b) xs ys≠xs:=by intro e;apply hne;simp[e]
   have:=h2 this;simp;omega
  | false=>
   cases y with
   | true=>exact⟨by simp;omega,fun _=>by simp;omega⟩
   | false=>
    refine⟨by simp;omega,fun hne=>?_⟩;have:List.zipWith (fun a b=>a||b) xs ys≠xs:=by intro e;apply hne;simp[e]
    have:=h2 this;simp;omega
theorem ones_set:∀{l:List Bool} {j:Nat},l[j]?=some false→ones (l.set j true)=ones l+1
 | [],j,h=>by simp at h
 | b::l,0,h=>by simp at h;subst h;simp[ones];omega
 | b::l,j+1,h=>by
  have:=@ones_set l j (by simpa using h);simp only[List.set_cons_succ,ones];omega
theorem onesT_le{n m:Nat}{M:List (List Bool)}(h:TabOk n m M):onesT M≤n*m:=by
 unfold onesT;rw[←h.size,←List.length_map (f:=ones)];refine sum_le fun x hx=>?_;obtain⟨row,hr,rfl⟩:=List.mem_map.1 hx;have:=ones_le row;rw[h.row row hr] at this;exact this
theorem onesT_set{M:List (List Bool)}{i:Nat}{row row':List Bool}(h:M[i]?=some row):onesT (M.set i row')+ones row=onesT M+ones row':=by
 unfold onesT;rw[List.map_set];exact sum_set (by rw[List.getElem?_map,h];rfl)
theorem orRow_len{xs ys:List Bool}(h:xs.length=ys.length):(orRow xs ys).length=xs.length:=by unfold orRow;simp;omega
def RuleClosed(terms:Nat)(E:List Bool)(Fi:List (List Bool))(r:Rule):Prop:=orRow (Fi.getD r.left []) (ofRow E Fi (List.replicate terms false) r.right).1=Fi.getD r.left []∧
 ((ofRow E Fi (List.replicate terms false) r.right).2=true→E.getD r.left false=true)
def DirectIn(E:List Bool)(M:List (List Bool))(r:Rule):Prop:=∀pre n post,r.right=pre++⟨false,n⟩::post→(∀y∈pre,y.term=false∧E.getD y.n false=true)→tget M r.left n=some true
structure TM where
 M:List (List Bool)
 bs:List (Nat×Blk)
structure LfS where
 ys:List (List Nat)
 a:Option Addr
 m:Nat
 c:Nat
 B:List (Nat×Blk)
inductive Tree where
 | mk (rule:Int) (term:Nat) (kids:List Tree)
theorem Arr.imp{α:Type}{R S:Ty α}(hs:R.size=S.size){F:Frz}{a:Option Addr}{n c:Nat}{xs:List α}(h:Arr R F a n c xs)(hi:∀l x,x∈xs→R.rel F l x→S.rel F l x):Arr S F a n c xs:=
 ⟨h.len,by rw[←hs];exact h.cap,h.zero,h.nil,h.spot,fun j x hj=>
  let ⟨b,off,ro,cs,l,h1,h2,h3,h4⟩:=h.el j x hj
  ⟨b,off,ro,cs,l,h1,h2,by rw[←hs];exact h3,hi _ _ (gM hj) h4⟩⟩
def tTreeN:Nat→Ty Tree
 | 0=>⟨3,fun _ _ _=>False,fun _ _ _ h=>h.elim,fun _ _ _ h=>h.elim,fun _ _ _ _ _ h=>h⟩
 | d+1=>
  {size:=3
   rel:=fun F l x=>∃r t ks a n c,x=.mk r t ks∧l=[.int .i64 r,.int .i64 (t:Nat),.slice a n c]∧Arr (tTreeN d) F a n c ks∧ks.length≤1000000
   len:=fun _ _ _ h=>by obtain⟨r,t,ks,a,n,c,_,rfl,_⟩:=h;rfl
   one:=fun _ _ _ h=>by obtain⟨r,t,ks,a,n,c,_,rfl,_⟩:=h;rfl
   mono:=fun _ _ _ _ hF h=>by obtain⟨r,t,ks,a,n,c,e,e2,h,hb⟩:=h;exact⟨r,t,ks,a,n,c,e,e2,h.mono hF,hb⟩ }
theorem tTreeN_size:∀d,(tTreeN d).size=3
 | 0=>rfl
 | _+1=>rfl
theorem tTreeN_succ:∀(d:Nat) (F:Frz) (l:List Value) (x:Tree),(tTreeN d).rel F l x→(tTreeN (d+1)).rel F l x
 | 0,_,_,_,h=>h.elim
 | d+1,F,l,x,h=>by
  obtain⟨r,t,ks,a,n,c,e,e2,h,hb⟩:=h;exact⟨r,t,ks,a,n,c,e,e2,Arr.imp (by rw[tTreeN_size,tTreeN_size]) h fun l x _=>tTreeN_succ d F l x,hb⟩
theorem tTreeN_le{d e:Nat}(h:d≤e){F:Frz}{l:List Value}{x:Tree}(hr:(tTreeN d).rel F l x):(tTreeN e).rel F l x:=by
 induction h with
 | refl=>exact hr
 | step _ ih=>exact tTreeN_succ _ _ _ _ ih
def tTree:Ty Tree where
 size:=3
 rel:=fun F l x=>∃d,(tTreeN d).rel F l x
 len:=fun _ _ _ h=>by obtain⟨d,h⟩:=h;rw[(tTreeN d).len _ _ _ h,tTreeN_size]
 one:=fun _ _ _ h=>by obtain⟨d,h⟩:=h;exact(tTreeN d).one _ _ _ h
 mono:=fun _ _ _ _ hF h=>by obtain⟨d,h⟩:=h;exact⟨d,(tTreeN d).mono _ _ _ _ hF h⟩
theorem max_of{α:Type}{P:Nat→α→Nat→Prop}(hm:∀j x d e,d≤e→P j x d→P j x e):∀(xs:List α) (i:Nat),(∀j x,xs[j]?=some x→∃d,P (i+j) x d)→∃D,∀j x,xs[j]?=some x→P (i+j) x D
 | [],_,_=>⟨0,fun _ _ h=>by simp at h⟩
 | x::xs,i,h=>by
  obtain⟨d,hd⟩:=h 0 x rfl
  obtain⟨D,hD⟩:=max_of hm xs (i+1) (fun j y hj=>by
   have:=h (j+1) y hj;rw[show i+(j+1)=i+1+j by omega] at this;exact this)
  refine⟨max d D,fun j y hj=>?_⟩;cases j with
  | zero=>
   obtain rfl:x=y:=by simpa using hj
   exact hm _ _ _ _ (Nat.le_max_left _ _) hd
  | succ j=>
   have:=hm _ _ _ _ (Nat.le_max_right d D) (hD j y hj);rw[show i+(j+1)=i+1+j by omega];exact this
theorem arr_tree{F:Frz}{a:Option Addr}{n c:Nat}{xs:List Tree}(h:Arr tTree F a n c xs):∃d,Arr (tTreeN d) F a n c xs:=by
 obtain⟨D,hD⟩:=max_of (P:=fun j x d=>∃b off ro cs l,a=some ⟨b,off,none⟩∧F b=some (.cells ro cs)∧partL cs (off+j*3) 3=some l∧(tTreeN d).rel F l x)
  (fun j x d e hde ⟨b,off,ro,cs,l,h1,h2,h3,h4⟩=>⟨b,off,ro,cs,l,h1,h2,h3,tTreeN_le hde h4⟩) xs 0 (fun j x hj=>by
   obtain⟨b,off,ro,cs,l,h1,h2,h3,d,h4⟩:=h.el j x hj;exact⟨d,b,off,ro,cs,l,h1,h2,by rw[Nat.zero_add];exact h3,h4⟩)
 refine⟨D,h.len,by rw[tTreeN_size];exact h.cap,h.zero,h.nil,h.spot,fun j x hj=>?_⟩;obtain⟨b,off,ro,cs,l,h1,h2,h3,h4⟩:=hD j x hj;rw[Nat.zero_add] at h3;exact⟨b,off,ro,cs,l,h1,h2,by rw[tTreeN_size];exact h3,h4⟩
theorem tTree_mk{F:Frz}{r:Int}{t:Nat}{ks:List Tree}{a:Option Addr}{n c:Nat}(h:Arr tTree F a n c ks)(hb:ks.length≤1000000):tTree.rel F [.int .i64 r,.int .i64 t,.slice a n c] (.mk r t ks):=by
 obtain⟨d,hd⟩:=arr_tree h;exact⟨d+1,r,t,ks,a,n,c,rfl,rfl,hd,hb⟩
theorem tTree_cases{F:Frz}{l:List Value}{r:Int}{t:Nat}{ks:List Tree}(h:tTree.rel F l (.mk r t ks)):∃a n c,l=[.int .i64 r,.int .i64 t,.slice a n c]∧Arr tTree F a n c ks∧ks.length≤1000000:=by
 obtain⟨d,h⟩:=h;cases d with
 | zero=>exact h.elim
 | succ d=>
  obtain⟨r',t',ks',a,n,c,e,rfl,h,hb⟩:=h;cases e;exact⟨a,n,c,rfl,Arr.imp (tTreeN_size d) h (fun l x _ hx=>⟨d,hx⟩),hb⟩
theorem leaf_spec(F:Frz)(t:Nat):Abs.Spec CC 57 [.int .i64 t] F [] fun F' v o=>o=[]∧∃cs,v=.agg ⟨cs⟩∧tTree.rel F' cs (.mk (-1) t []):=by
 refine Abs.Spec.fn (n:=5) Tryd.func57 rfl rfl fun own=>?_;refine AW.seq (AW.reg ?_);refine WT.allocT hT Z Z Z Z Z Z (fun i2 hi2=>?_);refine zB4 ?_;refine AW.ret ⟨_,[],⟨_,_,⟨_,rfl,fun G h0 s0=>loadA_cells (s0.has (p:=0) Z me) (readT_ok hT rfl)⟩,rfl,rfl⟩,zsb,rfl,_,rfl,tTree_mk (Arr.nil_ _ _) (by simp)⟩
structure TkS where
 j:Nat
 a:Option Addr
 c:Nat
 B:List (Nat×Blk)
structure NoLoop(g:Gram)(M:List (List Bool))(E:List Bool)(Fi:List (List Bool)):Prop where
 tab:TabOk g.nons g.nons M
 first:FirstClosed g E Fi
 direct:∀r∈g.rules,DirectIn E M r
 trans:∀x y z,y<g.nons→tget M x y=some true→tget M y z=some true→tget M x z=some true
 irr:∀i,i<g.nons→tget M i i≠some true
mutual
inductive TreeOf(g:Gram)(w:List Nat):Sym→Tree→Nat→Nat→Prop
 | leaf {t i:Nat} (h:w[i]?=some t):TreeOf g w ⟨true,t⟩ (.mk (-1) t []) i (i+1)
 | node {k:Nat} {r:Rule} {kids:List Tree} {i j:Nat} (h:g.rules[k]?=some r) (h2:TreesOf g w r.right kids i j):TreeOf g w ⟨false,r.left⟩ (.mk k 0 kids) i j
inductive TreesOf(g:Gram)(w:List Nat):List Sym→List Tree→Nat→Nat→Prop
 | nil {i:Nat}:TreesOf g w [] [] i i
 | cons {s:Sym} {l:List Sym} {t:Tree} {ts:List Tree} {i m j:Nat} (h:TreeOf g w s t i m) (h2:TreesOf g w l ts m j):TreesOf g w (s::l) (t::ts) i j
end
mutual
theorem TreeOf.le{g:Gram}{w:List Nat}:∀{t:Tree} {s:Sym} {i j:Nat},TreeOf g w s t i j→i≤j∧(i≤w.length→j≤w.length)
 | .mk _ _ _,_,_,_,.leaf h=>⟨by omega,fun _=>by have:=(gS h).1;omega⟩
 | .mk _ _ ks,_,_,_,.node h h2=>TreesOf.le h2
theorem TreesOf.le{g:Gram}{w:List Nat}:∀{ts:List Tree} {l:List Sym} {i j:Nat},TreesOf g w l ts i j→i≤j∧(i≤w.length→j≤w.length)
 | [],_,_,_,.nil=>⟨Nat.le_refl _,id⟩
 | t::ts,_,_,_,.cons h h2=>by
  have h3:=TreeOf.le h;have h4:=TreesOf.le h2;exact⟨by omega,fun h5=>h4.2 (h3.2 h5)⟩
end
theorem TreesOf.len{g:Gram}{w:List Nat}:∀{ts:List Tree} {l:List Sym} {i j:Nat},TreesOf g w l ts i j→ts.length=l.length
 | [],_,_,_,.nil=>rfl
 | t::ts,_,_,_,.cons h h2=>by simp[TreesOf.len h2]
theorem ofRow_all{E:List Bool}{Fi:List (List Bool)}:∀(l:List Sym) (out:List Bool),(∀y∈l,y.term=false∧E.getD y.n false=true)→(ofRow E Fi out l).2=true
 | [],_,_=>rfl
 | s::l,out,h=>by
  have h1:=h s me;unfold ofRow;rw[if_neg (by simp[h1.1]),if_pos h1.2];exact ofRow_all l _ fun y hy=>h y (List.mem_cons_of_mem _ hy)
mutual
theorem TreeOf.empty{g:Gram}{w:List Nat}{E:List Bool}{Fi:List (List Bool)}(hc:FirstClosed g E Fi):∀{t:Tree} {s:Sym} {i j:Nat},TreeOf g w s t i j→i=j→s.term=false∧E.getD s.n false=true
 | .mk _ _ _,_,_,_,.leaf h,e=>by omega
 | .mk _ _ ks,_,_,_,.node h h2,e=>⟨rfl,(hc _ (gM h)).2 (ofRow_all _ _ (TreesOf.empty hc h2 e))⟩
theorem TreesOf.empty{g:Gram}{w:List Nat}{E:List Bool}{Fi:List (List Bool)}(hc:FirstClosed g E Fi):∀{ts:List Tree} {l:List Sym} {i j:Nat},TreesOf g w l ts i j→i=j→∀y∈l,y.term=false∧E.getD y.n false=true
 | [],_,_,_,.nil,_=>fun y hy=>by simp at hy
 | t::ts,_,_,_,.cons h h2,e=>fun y hy=>by
  have h3:=h.le.1;have h4:=h2.le.1;rcases List.mem_cons.1 hy with rfl | hy
  ·exact TreeOf.empty hc h zo
  ·exact TreesOf.empty hc h2 zo y hy
end
theorem key_eq(a b c d:Nat):((((a:Int)==(c:Int))&&(((b:Int)==(d:Int))&&true))=decide ((a,b)=(c,d))):=by
 rw[Bool.eq_iff_iff];simp only[Bool.and_eq_true,beq_iff_eq,decide_eq_true_eq,Prod.mk.injEq,and_true];omega
def keyP:KeyTy CC 89 (Nat×Nat) where
 key:=fun p=>.agg ⟨[.int .i64 p.1,.int .i64 p.2]⟩
 ok:=fun p=>keyT_ok hT 8 _ _ rfl
 eq:=fun p q=>by
  have h:eqA CC 8 89 (.agg ⟨[.int .i64 p.1,.int .i64 p.2]⟩) (.agg ⟨[.int .i64 q.1,.int .i64 q.2]⟩)=some (decide (p=q)):=by
   rw[←key_eq];exact eqT_ok hT 8 _ _ _ _ rfl
  by_cases e:p=q
  ·exact .inl ⟨e,by rw[h];simp[e]⟩
  ·exact .inr ⟨e,by rw[h];simp[e]⟩
structure Item where
 rule:Nat
 dot:Nat
 frm:Nat
deriving DecidableEq
def nextOf(rs:List Rule)(x:Item):Option Sym:=(rs[x.rule]?).bind fun r=>r.right[x.dot]?
def ItemOk(rs:List Rule)(k:Nat)(x:Item):Prop:=∃r,rs[x.rule]?=some r∧x.dot≤r.right.length∧x.frm≤k
def stepItem(x:Item):Item:=⟨x.rule,x.dot+1,x.frm⟩
def ItemClosed(rs:List Rule)(L:Nat→List Item)(k:Nat)(x:Item):Prop:=
 (∀n i r,nextOf rs x=some ⟨false,n⟩→rs[i]?=some r→r.left=n→(⟨i,0,k⟩:Item)∈L k)∧
 (∀r,rs[x.rule]?=some r→x.dot=r.right.length→∀y∈L x.frm,nextOf rs y=some ⟨false,r.left⟩→stepItem y∈L k)
structure Sets(g:Gram)(v:List Nat)(L:Nat→List Item):Prop where
 ok:∀k,k≤v.length→∀x∈L k,ItemOk g.rules k x
 start:∀i r,g.rules[i]?=some r→r.left=g.start→(⟨i,0,0⟩:Item)∈L 0
 closed:∀k,k≤v.length→∀x∈L k,ItemClosed g.rules L k x
 scan:∀k t,v[k]?=some t→∀x∈L k,nextOf g.rules x=some ⟨true,t⟩→stepItem x∈L (k+1)
def EndsClosed(g:Gram)(E:List Bool):Prop:=∀r∈g.rules,(∀y∈r.right,y.term=true∨E[y.n]?=some true)→E[r.left]?=some true
def knownN(O:List Int):Nat:=O.countP fun x=>decide (0≤x)
structure LenOk(nons:Nat)(O:List Int):Prop where
 len:O.length=nons
 ge:∀x∈O,-1≤x
 le:∀x∈O,x≤((4 ^ knownN O:Nat):Int)
def HasWord(g:Gram)(n:Nat):Prop:=∃w,Der g w ⟨false,n⟩ 0 w.length
structure EndsIn(g:Gram)(E:List Bool):Prop where
 len:E.length=g.nons
 closed:EndsClosed g E
 sound:∀n,E[n]?=some true→HasWord g n
theorem gN_spec(F:Frz)(n:Int):Abs.Spec CC 31 [.int .i64 n] F [] fun _ v o=>o=[]∧v=.agg ⟨[.bool false,.int .i64 n]⟩:=by
 refine Abs.Spec.fn (n:=5) Tryd.func31 rfl rfl fun own=>?_;refine AW.seq (AW.reg ?_);refine WT.allocT hT Z Z Z Z Z Z (fun i2 hi2=>?_);refine zB4 ?_;exact AW.ret ⟨_,[],⟨_,_,⟨_,rfl,fun G h0 s0=>loadA_cells (s0.has (p:=0) rfl me) (readT_ok hT rfl)⟩,rfl,rfl⟩,zsb,rfl,rfl⟩
structure CS where
 j:Nat
 a:Option Addr
 c:Nat
 B:List (Nat×Blk)
structure Key where
 sym:Sym
 frm:Nat
 to:Nat
deriving DecidableEq
structure KPack where
 rule:Nat
 kids:List Key
deriving DecidableEq
def tKey:Ty Key where
 size:=4
 rel:=fun _ l x=>l=[.bool x.sym.term,.int .i64 x.sym.n,.int .i64 x.frm,.int .i64 x.to]
 len:=fun _ _ _ h=>by rw[h];rfl
 one:=fun _ _ _ h=>by rw[h];rfl
 mono:=fun _ _ _ _ _ h=>h
def tKPack:Ty KPack where
 size:=2
 rel:=fun F l x=>∃a n c,l=[.int .i64 x.rule,.slice a n c]∧Arr tKey F a n c x.kids
 len:=fun _ _ _ h=>by obtain⟨a,n,c,rfl,_⟩:=h;rfl
 one:=fun _ _ _ h=>by obtain⟨a,n,c,rfl,_⟩:=h;rfl
 mono:=fun _ _ _ _ hF h=>by obtain⟨a,n,c,e,h⟩:=h;exact⟨a,n,c,e,h.mono hF⟩
def stepB(w:List Nat)(E:List (List Nat))(s:Sym)(i j:Nat):Bool:=
 if s.term=true then decide (w[i]?=some s.n∧j=i+1)
 else match E[s.n]? with
  | some row=>match row[i]? with
   | some x=>x.testBit j
   | none=>false
  | none=>false
theorem stepB_iff{w:List Nat}{E:List (List Nat)}{s:Sym}{i j:Nat}:stepB w E s i j=true↔Step w E s i j:=by
 unfold stepB Step;split
 ·simp
 ·split
  ·rename_i row h1;split
   ·rename_i x h2;refine⟨fun h=>⟨row,x,h1,h2,h⟩,?_⟩;rintro⟨row',x',h3,h4,h5⟩;rw[h1] at h3;cases h3;rw[h2] at h4;cases h4;exact h5
   ·rename_i h2;refine⟨fun h=>(by cases h),?_⟩;rintro⟨row',x',h3,h4,h5⟩;rw[h1] at h3;cases h3;rw[h2] at h4;cases h4
  ·rename_i h1;refine⟨fun h=>(by cases h),?_⟩;rintro⟨row',x',h3,h4,h5⟩;rw[h1] at h3;cases h3
def splits(w:List Nat)(E:List (List Nat))(to:Nat):List Sym→Nat→List (List Key)
 | [],i=>if i=to then [[]] else []
 | s::l,i=>(List.range (to+1)).flatMap fun m=>if stepB w E s i m=true then (splits w E to l m).map (⟨s,i,m⟩::·) else []
theorem splits_reads{w:List Nat}{E:List (List Nat)}{to:Nat}:∀{l:List Sym} {i:Nat},splits w E to l i≠[]→Reads w E l i to
 | [],i,h=>by
  unfold splits at h;split at h
  ·assumption
  ·exact absurd rfl h
 | s::l,i,h=>by
  unfold splits at h;obtain⟨x,hx⟩:=List.exists_mem_of_ne_nil _ h;obtain⟨m,_,hm⟩:=List.mem_flatMap.1 hx;split at hm
  ·rename_i hs;refine⟨m,stepB_iff.1 hs,splits_reads fun e=>?_⟩;rw[e] at hm;cases hm
  ·cases hm
theorem flat_len{α β:Type}(f:α→List β)(b:Nat):∀(l:List α),(∀x∈l,(f x).length≤b)→(l.flatMap f).length≤l.length*b
 | [],_=>by simp
 | a::l,h=>by
  have:=flat_len f b l fun x hx=>h x (List.mem_cons_of_mem _ hx);have h2:=h a me;rw[List.flatMap_cons,List.length_append,List.length_cons,Nat.add_mul,Nat.one_mul];omega
theorem splits_len{w:List Nat}{E:List (List Nat)}{to:Nat}:∀{l:List Sym} {i:Nat},(splits w E to l i).length≤(to+1) ^ l.length
 | [],i=>by unfold splits;split<;>simp
 | s::l,i=>by
  unfold splits;have h:=flat_len (fun m=>if stepB w E s i m=true then (splits w E to l m).map (⟨s,i,m⟩::·) else []) ((to+1) ^ l.length) (List.range (to+1)) fun m _=>by
   split
   ·rw[List.length_map];exact splits_len
   ·exact Nat.zero_le _
  rw[List.length_range] at h;rw[List.length_cons,Nat.pow_succ,Nat.mul_comm];exact h
theorem splits_kids{w:List Nat}{E:List (List Nat)}{to:Nat}:∀{l:List Sym} {i:Nat} {ks:List Key},ks∈splits w E to l i→ks.length=l.length
 | [],i,ks,h=>by
  unfold splits at h;split at h
  ·rw[List.mem_singleton.1 h];rfl
  ·cases h
 | s::l,i,ks,h=>by
  unfold splits at h;obtain⟨m,_,hm⟩:=List.mem_flatMap.1 h;split at hm
  ·obtain⟨ks',h2,rfl⟩:=List.mem_map.1 hm;simp[splits_kids h2]
  ·cases hm
def packsAt(g:Gram)(w:List Nat)(E:List (List Nat))(k:Key)(i:Nat):List KPack:=match g.rules[i]? with
 | some r=>if r.left=k.sym.n∧k.sym.term=false then (splits w E k.to r.right k.frm).map (KPack.mk i) else []
 | none=>[]
def packsOf(g:Gram)(w:List Nat)(E:List (List Nat))(k:Key):List KPack:=(List.range g.rules.length).flatMap (packsAt g w E k)
theorem keyClone_spec(F:Frz){a:Option Addr}{m c:Nat}{xs:List Key}(hx:Arr tKey F a m c xs)(hm:m≤1000000) :
  Abs.Spec CC 83 [.slice a m c] F [] fun F' v o=>∃B',o=[B']∧∃a' c',v=.slice a' m c'∧Vec tKey F' a' m c' B' xs∧(xs=[]→c'=0):=by
 refine Abs.Spec.fn (n:=8) Tryd.func83 rfl rfl fun own=>?_;refine zB4 ?_;refine WT.sliceNil hT Z Z Z Z Z Z Z Z ?_;refine zB4 ?_;refine AW.cond Z (fun h=>?_) (fun h=>?_)
 ·obtain rfl:a=none:=by simpa using h
  obtain⟨rfl,rfl⟩:=hx.nil rfl;obtain rfl:xs=[]:=List.eq_nil_of_length_eq_zero hx.len.symm;refine zB4 ?_;refine AW.le (own2:=[]::own) (OwnLe.flat (List.Perm.refl _)) ?_;exact AW.ret ⟨_,[[]],⟨_,_,rfl,rfl,rfl⟩,zsb,_,rfl,_,_,rfl,(Bld.nil_ _ _).vec,fun _=>rfl⟩
 ·refine zB4 ?_;refine WT.buildT hT Z Z Z Z Z Z Z Z Z Z Z Z Z Z (fun i5 hi5=>?_);refine zB4 ?_;obtain⟨ds,hds,hcs⟩:=news_arr hT hx (t:=150) rfl rfl 122;refine WT.appendE0 hT Z Z Z Z Z Z Z Z Z Z Z Z (fun h0 s0=>hds _ h0 s0) hcs hx.len (by decide) zom (fun a' c' B' hB' hc'=>?_);refine zB4 ?_;refine AW.le (OwnLe.cons _ (OwnLe.skip _ oR)) ?_;exact AW.ret ⟨_,[_],⟨_,_,rfl,rfl,rfl⟩,zsb,_,rfl,_,_,rfl,hB',hc'⟩
structure WalkC(F:Frz)(i3 i4 i5 i6 i7 i8:Nat)(k:Key)(rule:Nat)(b:Option Addr)(n d:Nat)(a:Option Addr)(m c:Nat):Prop where
 hk:F i3=some (.cells false [.bool k.sym.term,.int .i64 k.sym.n,.int .i64 k.frm,.int .i64 k.to])
 hi:F i5=some (.cells false [.int .i64 rule])
 hw:F i6=some (.cells false [.slice b n d])
 he:F i7=some (.cells false [.slice a m c])
 self:F i8=some (.cells false [.func (.func 82) ⟨[]⟩ ⟨[.pointer (some ⟨i3,0,none⟩),.pointer (some ⟨i4,0,none⟩),.pointer (some ⟨i5,0,none⟩),.pointer (some ⟨i6,0,none⟩),.pointer (some ⟨i7,0,none⟩),.pointer (some ⟨i8,0,none⟩)]⟩])
theorem WalkC.mono{F G:Frz}{i3 i4 i5 i6 i7 i8:Nat}{k:Key}{rule:Nat}{b:Option Addr}{n d:Nat}{a:Option Addr}{m c:Nat}(h:WalkC F i3 i4 i5 i6 i7 i8 k rule b n d a m c)(hF:Frz.le F G):WalkC G i3 i4 i5 i6 i7 i8 k rule b n d a m c:=
 ⟨hF _ _ h.hk,hF _ _ h.hi,hF _ _ h.hw,hF _ _ h.he,hF _ _ h.self⟩
def OutB(F:Frz)(i4:Nat)(B:List (Nat×Blk))(outs:List KPack):Prop:=∃a n c OB,B=(i4,.cells false [.slice a n c])::OB∧Bld tKPack F a n c OB outs
theorem OutB.mono{F G:Frz}{i4:Nat}{B:List (Nat×Blk)}{outs:List KPack}(h:OutB F i4 B outs)(hF:Frz.le F G):OutB G i4 B outs:=by
 obtain⟨a,n,c,OB,h1,h2⟩:=h;exact⟨a,n,c,OB,h1,h2.mono hF⟩
theorem range_skip{α:Type}(f:Nat→List α){p q:Nat}(hpq:p≤q)(h:∀m,p≤m→m<q→f m=[]):(List.range q).flatMap f=(List.range p).flatMap f:=by
 induction q with
 | zero => obtain rfl : p = 0 := by omega
           rfl
 | succ q ih=>
  rcases Nat.lt_or_ge q p with h2 | h2
  ·obtain rfl:p=q+1:=by omega
   rfl
  ·rw[List.range_succ,List.flatMap_append,ih h2 fun m h3 h4=>h m h3 zo];simp[h q h2 zo]
theorem range_next{α:Type}(f:Nat→List α){p q:Nat}(hpq:p≤q)(h:∀m,p≤m→m<q→f m=[]):(List.range (q+1)).flatMap f=(List.range p).flatMap f++f q:=by
 rw[List.range_succ,List.flatMap_append,range_skip f hpq h];simp
structure WS where
 u:Nat
 B:List (Nat×Blk)
def walkF(w:List Nat)(E:List (List Nat))(k:Key)(rule:Nat)(kids:List Key)(s:Sym)(i:Nat)(l:List Sym)(m:Nat):List KPack:=
 if stepB w E s i m=true then (splits w E k.to l m).map (fun ks=>⟨rule,(kids++[⟨s,i,m⟩])++ks⟩) else []
theorem walkF_all(w:List Nat)(E:List (List Nat))(k:Key)(rule:Nat)(kids:List Key)(s:Sym)(i:Nat)(l:List Sym) :
  (splits w E k.to (s::l) i).map (fun ks=>(⟨rule,kids++ks⟩:KPack))=(List.range (k.to+1)).flatMap (walkF w E k rule kids s i l):=by
 unfold splits;rw[List.map_flatMap];congr 1;funext m;unfold walkF;split
 ·rw[List.map_map];apply List.map_congr_left;intro ks _;simp
 ·rfl
theorem range_len{α:Type}(f:Nat→List α){p q:Nat}(h:p≤q):((List.range p).flatMap f).length≤((List.range q).flatMap f).length:=by
 induction q with
 | zero => obtain rfl : p = 0 := by omega
           exact Nat.le_refl _
 | succ q ih=>
  rcases Nat.lt_or_ge q p with h2 | h2
  ·obtain rfl:p=q+1:=by omega
   exact Nat.le_refl _
  ·rw[List.range_succ,List.flatMap_append,List.length_append];have:=ih h2;omega
theorem walk_spec{i3 i4 i5 i6 i7 i8:Nat}{k:Key}{rule:Nat}{b:Option Addr}{n d:Nat}{a:Option Addr}{m c:Nat}{w:List Nat}{E:List (List Nat)}{t nons:Nat}(hE2:EndsOk nons w.length E)(hwl:w.length≤30)(hkt:k.to≤30) :
  ∀(l:List Sym) (F:Frz) (hL:Laid F) (hC:WalkC F i3 i4 i5 i6 i7 i8 k rule b n d a m c) (hw:Arr tNat F b n d w) (hE:Arr (tList tU32) F a m c E)
   {la:Option Addr} {ln lc:Nat} (hl:Arr tSym F la ln lc l) (hok:∀y∈l,SymOk t nons y) (from_:Nat) (hfrom:from_≤w.length) {ka:Option Addr} {kn kc:Nat} {kids:List Key} (hkids:Arr tKey F ka kn kc kids) (hlen:kids.length+l.length≤4)
   {B:List (Nat×Blk)} {outs:List KPack} (hB:OutB F i4 B outs) (hlim:outs.length+(splits w E k.to l from_).length≤1000000000),
  Abs.Spec CC 82 [.slice la ln lc,.int .i64 from_,.slice ka kn kc,.pointer (some ⟨i3,0,none⟩),.pointer (some ⟨i4,0,none⟩),.pointer (some ⟨i5,0,none⟩),.pointer (some ⟨i6,0,none⟩),.pointer (some ⟨i7,0,none⟩),.pointer (some ⟨i8,0,none⟩)] F [B]
   fun F' v o=>∃B',o=[B']∧OutB F' i4 B' (outs++(splits w E k.to l from_).map fun ks=>⟨rule,kids++ks⟩):=by
 intro l
 induction l with
 | nil=>
  intro F hL hC hw hE la ln lc hl hok from_ hfrom ka kn kc kids hkids hlen B outs hB hlim;obtain⟨oa,on,oc,OB,rfl,hO⟩:=hB;obtain⟨h3,h5,h6,h7,h8⟩:=hC;have hll:=hl.len;have hln:ln=0:=by simpa using hll
  subst hln;have hkl:=hkids.len;refine Abs.Spec.fn (n:=71) Tryd.func82 rfl rfl fun own=>?_;refine AW.le (own2:=[(i4,.cells false [.slice oa on oc])]::OB::own) (OwnLe.flat (List.Perm.refl _)) ?_;refine zB4 ?_;refine AW.cond Z (fun _=>?_) (fun h=>(by cases h));refine zB4 ?_;have hsp:splits w E k.to [] from_=if from_=k.to then [[]] else []:=rfl;refine AW.cond Z (fun h=>?_) (fun h=>?_)
  ·have h:from_=k.to:=by simp at h;omega
   rw[hsp,if_pos h] at hlim ⊢;have hOl:=hO.len;refine AW.draw (ps:=[(0,3),(0,5),(1,3)]) Z Z ?_;refine zB4 ?_;refine WT.callN Tryd.func83 Z Z Z Z Z Z (keyClone_spec _ hkids zo) (fun F2 v B2 hF2 hv=>?_);obtain⟨ca,cc,rfl,hcv,_⟩:=hv;refine WT.freezeAll 0 Z Z (fun F3 hF3 hB3=>?_);have hca:=hcv.arr hF3 hB3;have hO3:=(hO.mono hF2).mono hF3;refine zB4 ?_;refine WT.buildT hT Z Z Z Z Z Z Z Z Z Z Z Z Z Z (fun i9 hi9=>?_)
   refine WT.appendT (ys:=[(⟨rule,kids⟩:KPack)]) hT 3 hO3 Z (fun _=>rfl) Z Z Z Z Z Z Z Z Z Z Z (fun h0 s0=>news_own hT s0 0 Z Z Z Z) (Cells.single (R:=tKPack) (x:=⟨rule,kids⟩) ⟨_,_,_,rfl,hca⟩) Z (by decide) zom (fun a3 c3 B3 hB3=>?_);refine zB4 ?_;refine⟨zrC,?_⟩;refine AW.le (own2:=((i4,.cells false [.slice a3 (on+1) c3])::B3)::own) (OwnLe.skip _ (OwnLe.skip _ (OwnLe.flat (List.Perm.refl _)))) ?_;refine AW.ret ⟨_,[_],rfl,zsb,_,rfl,_,_,_,B3,rfl,?_⟩;simpa using hB3
  ·have h:from_≠k.to:=by intro e;simp at h;omega
   rw[hsp,if_neg h];refine zB4 ?_;refine AW.le (own2:=((i4,.cells false [.slice oa on oc])::OB)::own) (OwnLe.flat (List.Perm.refl _)) ?_;refine AW.ret ⟨_,[_],rfl,zsb,_,rfl,oa,on,oc,OB,rfl,?_⟩;simpa using hO
 | cons s l ih=>
  intro F hL hC hw hE la ln lc hl hok from_ hfrom ka kn kc kids hkids hlen B outs hB hlim;obtain⟨oa,on,oc,OB,rfl,hO⟩:=hB;obtain⟨h3,h5,h6,h7,h8⟩:=id hC;have hll:=hl.len;have hln:ln=l.length+1:=by simpa using hll
  subst hln;have hkl:=hkids.len;have pwl:2 ^ (w.length+1)≤4294967296:=Nat.pow_le_pow_right (j:=32) (by decide) zo;have hlc:(s::l).length=l.length+1:=rfl;refine Abs.Spec.fn (n:=71) Tryd.func82 rfl rfl fun own=>?_;refine AW.le (own2:=[(i4,.cells false [.slice oa on oc])]::OB::own) (OwnLe.flat (List.Perm.refl _)) ?_;refine zB4 ?_;refine AW.cond Z (fun h=>(by simp at h;omega)) (fun _=>?_);refine zB4 ?_;refine AW.draw (ps:=[(6,4)]) Z Z ?_;refine zB4 ?_;refine WT.callV Tryd.func66 Z Z Z Z Z Z (reach_spec _ hL hw hE hl hE2 hok hwl zo from_ hfrom) (fun v hv=>?_);obtain⟨r,rfl,hr1,hr2⟩:=hv;refine zB4 ?_
  refine WT.shr32 (x:=r) (y:=k.to) Z Z Z Z Z Z zo ?_;refine WT.and32 (x:=r / 2 ^ k.to) (y:=1) Z Z Z Z Z Z (Nat.lt_of_le_of_lt (Nat.div_le_self _ _) zo) (by decide) ?_;rw[shift_bit];refine zB4 ?_;refine⟨zrC,?_⟩;refine AW.cond Z (fun h=>?_) (fun h=>?_)
  ·have hnr:¬Reads w E (s::l) from_ k.to:=by
    intro hR;rw[←hr2] at hR;rw[hR] at h;simp at h
   have hsp:splits w E k.to (s::l) from_=[]:=Classical.byContradiction fun hne=>hnr (splits_reads hne);rw[hsp];refine AW.le (own2:=((i4,.cells false [.slice oa on oc])::OB)::own) (OwnLe.flat (List.Perm.refl _)) ?_;refine AW.ret ⟨_,[_],rfl,zsb,_,rfl,oa,on,oc,OB,rfl,?_⟩;simpa using hO
  ·obtain⟨sa,sc,hs1,hsl⟩:=hl.slice (C:=CC) (lo:=0) (hi:=1) (Nat.zero_le _) zo hT (t:=52) Z Z Z none (some (.int .i64 1)) rfl rfl;refine zB4 ?_;refine WT.slice Z Z Z Z Z Z Z Z hs1 ?_;refine zB4 ?_;have hsl:Arr tSym F sa 1 sc [s]:=hsl;refine WT.callV Tryd.func66 Z Z Z Z Z Z (reach_spec _ hL hw hE hsl hE2 (fun y hy=>hok y (by rw[List.mem_singleton.1 hy];exact List.mem_cons_self ..)) hwl (by simp) from_ hfrom) (fun v hv=>?_);obtain⟨x,rfl,hx1,hx2⟩:=hv;have hx3:∀j,x.testBit j=stepB w E s from_ j:=fun j=>by
    rw[Bool.eq_iff_iff,hx2,stepB_iff];simp[Reads]
   have hmap:(splits w E k.to (s::l) from_).map (fun ks=>(⟨rule,kids++ks⟩:KPack))=(List.range (k.to+1)).flatMap (walkF w E k rule kids s from_ l):=walkF_all ..;have hlen2:(splits w E k.to (s::l) from_).length=((List.range (k.to+1)).flatMap (walkF w E k rule kids s from_ l)).length:=by rw[←hmap,List.length_map]
   rw[hmap];rw[hlen2] at hlim;refine zB4 ?_;refine AW.block ?_;refine AW.loopR (S:=WS) (fun s=>[(12,.int .u32 (s.u:Nat))]) (fun s=>s.B::own) (fun u G=>u.u<2 ^ (w.length+1)∧∃p,(∀j,u.u.testBit j=(decide (p≤j)&&x.testBit j))∧OutB G i4 u.B (outs++(List.range (min p (k.to+1))).flatMap (walkF w E k rule kids s from_ l))) (fun s=>s.u) ⟨x,(i4,.cells false [.slice oa on oc])::OB⟩
    sM (OwnLe.flat (List.Perm.refl _)) ⟨hx1,0,fun j=>by simp,?_⟩ ?_
   ·rw[Nat.zero_min];simp only[List.range_zero,List.flatMap_nil,List.append_nil];exact⟨oa,on,oc,OB,rfl,hO⟩
   ·intro u F2 hF2 hP;obtain⟨u,UB⟩:=u;obtain⟨hu1,p,hu2,hU⟩:=hP;dsimp only at hu1 hu2 hU;have hL2:=hL.mono hF2;have hC2:=hC.mono hF2;have hw2:=hw.mono hF2;have hE3:=hE.mono hF2;have hl2:=hl.mono hF2;have hkids2:=hkids.mono hF2;obtain⟨g3,g5,g6,g7,g8⟩:=id hC2;refine zB4 ?_;refine AW.cond Z (fun h=>?_) (fun h=>?_)
    ·have hne:u≠0:=by intro e;subst e;simp at h
     obtain⟨p2,q,rfl,hp2⟩:=low_form (w.length+1) u zo hu1;have hple:p≤p2:=by
      have:=hu2 p2;rw[low_bit] at this;simp at this;exact this.1
     have hxp:x.testBit p2=true:=by
      have:=hu2 p2;rw[low_bit] at this;simp at this;exact this.2
     have hgap:∀m,p≤m→m<p2→walkF w E k rule kids s from_ l m=[]:=by
      intro m h1 h2;have:=hu2 m;rw[low_bit,if_pos h2] at this;simp[h1] at this;unfold walkF;rw[←hx3,this];simp
     have hle:2 ^ p2*(2*q+1) &&& (2 ^ p2*(2*q+1)-1)≤2 ^ p2*(2*q+1)-1:=Nat.and_le_right;have hnext:∀j,(2 ^ p2*(2*q+1) &&& (2 ^ p2*(2*q+1)-1)).testBit j=(decide (p2+1≤j)&&x.testBit j):=by
      intro j;rw[and_pred,hu2];by_cases h1:j=p2
      ·have h3:¬j+1≤j:=by omega
       subst h1;simp[h3]
      ·by_cases h2:p≤j
       ·by_cases h3:p2+1≤j
        ·simp[h1,h2,h3]
        ·have:=hu2 j;rw[low_bit,if_pos zo] at this;simp[h2] at this;simp[this]
       ·have h3:¬p2+1≤j:=by omega
        simp[h2,h3]
     refine zB4 ?_;refine AW.block ?_;refine zB4 ?_;refine WT.callV Tryd.func81 Z Z Z Z Z Z (tz_spec _ hL2 p2 q zo) (fun v hv=>?_);subst hv;refine zB4 ?_;refine AW.cond Z (fun h2=>?_) (fun h2=>?_)
     ·have h2:p2≤k.to:=by simp at h2;omega
      obtain⟨lb,lo,lro,lcs,ll,rfl,hlb,hlp,hlr⟩:=hl2.el 0 s rfl;obtain rfl:ll=_:=hlr;have hlk:=hl2.slice (C:=CC) (lo:=1) (hi:=l.length+1) zo (Nat.le_refl _) hT (t:=52) Z Z Z (some (.int .i64 1)) none rfl rfl;obtain⟨ta,tc,hs2,htl⟩:=hlk;have htl2:Arr tSym F2 ta (l.length+1-1) tc l:=by
       have e:((s::l).take (l.length+1)).drop 1=l:=by simp
       rw[e] at htl;exact htl
      have hp2w:p2≤w.length:=by omega
      have hfp:walkF w E k rule kids s from_ l p2=(splits w E k.to l p2).map (fun ks=>⟨rule,(kids++[⟨s,from_,p2⟩])++ks⟩):=by
       unfold walkF;rw[if_pos (by rw[←hx3];exact hxp)]
      have hadd:(List.range (p2+1)).flatMap (walkF w E k rule kids s from_ l)=(List.range p).flatMap (walkF w E k rule kids s from_ l)++walkF w E k rule kids s from_ l p2:=range_next _ hple hgap;have hlim2:=range_len (walkF w E k rule kids s from_ l) (show p2+1≤k.to+1 by omega);rw[hadd,List.length_append,hfp,List.length_map] at hlim2;refine AW.draw (ps:=[(0,5),(0,12),(0,13),(2,5),(2,12),(2,13),(8,5)]) Z Z ?_;refine zB4 ?_;refine WT.slice Z Z Z Z Z Z Z Z hs2 ?_;refine zB4 ?_;refine WT.callN Tryd.func83 Z Z Z Z Z Z (keyClone_spec _ hkids2 zo) (fun F3 v B3 hF3 hv=>?_)
      obtain⟨ca,cc,rfl,hcv,hc0⟩:=hv;have g83:=hF3 _ _ g8;have hlb3:=hF3 _ _ hlb;refine zB4 ?_;refine WT.idxA (j:=0) (s:=2) hT Z Z Z Z Z Z Z Z Z zo ?_;refine WT.loadS hT hlb3 hlp Z Z Z Z Z Z Z Z ?_;refine zB4 ?_;refine WT.buildT hT Z Z Z Z Z Z Z Z Z Z Z Z Z Z (fun i9 hi9=>?_);refine WT.appendV (ys:=[(⟨s,from_,p2⟩:Key)]) hT 1 hcv hc0 Z (fun _=>rfl) Z Z Z Z Z Z Z Z Z Z Z (fun h0 s0=>news_own hT s0 0 Z Z Z Z) (Cells.single (R:=tKey) (x:=⟨s,from_,p2⟩) rfl) Z (by decide) zom (fun a4 c4 B4 hB4=>?_);refine WT.freezeAll 1 Z Z (fun F4 hF4 hBf4=>?_);have hk4:=hB4.frozen hF4 hBf4;have hF34:=hF3.trans hF4
      refine WT.callC1F 2 Tryd.func82 Z Z Z Z Z Z Z Z Z (fun _=>rfl) (ih F4 (hL2.mono hF34) (hC2.mono hF34) (hw2.mono hF34) (hE3.mono hF34) (htl2.mono hF34) (fun y hy=>hok y (List.mem_cons_of_mem _ hy)) p2 hp2w hk4 (by simp;omega) (hU.mono hF34) ?_) (fun F5 v B5 hF5 hv=>?_)
      ·rw[Nat.min_eq_left zo,List.length_append];omega
      refine zB4 ?_;refine⟨zrC,?_⟩;refine zB4 ?_;refine WT.dec32 (x:=2 ^ p2*(2*q+1)) (y:=1) Z Z Z Z Z Z zo zo ?_;refine WT.and32 (x:=2 ^ p2*(2*q+1)) Z Z Z Z Z Z zo zo ?_;refine zB4 ?_;refine⟨⟨_,B5⟩,?_,sM,OwnLe.skip _ (OwnLe.skip _ oR),?_,p2+1,hnext,?_⟩
      ·dsimp only;omega
      ·dsimp only;omega
      ·dsimp only;rw[Nat.min_eq_left zo,hadd,hfp];rw[Nat.min_eq_left zo,List.append_assoc] at hv;exact hv
     ·have h2:k.to<p2:=by simp at h2;omega
      refine zB4 ?_;refine WT.dec32 (x:=2 ^ p2*(2*q+1)) (y:=1) Z Z Z Z Z Z zo zo ?_;refine WT.and32 (x:=2 ^ p2*(2*q+1)) Z Z Z Z Z Z zo zo ?_;refine zB4 ?_;refine⟨⟨_,UB⟩,?_,sM,zow,?_,p2+1,hnext,?_⟩
      ·dsimp only;omega
      ·dsimp only;omega
      ·dsimp only;rw[Nat.min_eq_right zo];have:(List.range (k.to+1)).flatMap (walkF w E k rule kids s from_ l)=(List.range (min p (k.to+1))).flatMap (walkF w E k rule kids s from_ l):=range_skip _ zo fun m h3 h4=>hgap m zo zo;rw[this];exact hU
    ·have h0:u=0:=by simp at h;omega
     subst h0;refine AW.exit ?_;refine⟨_,[_],rfl,zsb,_,rfl,?_⟩;have:(List.range (k.to+1)).flatMap (walkF w E k rule kids s from_ l)=(List.range (min p (k.to+1))).flatMap (walkF w E k rule kids s from_ l):=range_skip _ zo fun m h3 h4=>by
      have:=hu2 m;simp at this;unfold walkF;rw[←hx3,this zo];simp
     rw[this];exact hU
theorem packsAt_len{g:Gram}{w:List Nat}{E:List (List Nat)}{k:Key}(hg:∀r∈g.rules,r.right.length≤4)(hk:k.to≤30)(i:Nat):(packsAt g w E k i).length≤923521:=by
 unfold packsAt;split
 ·rename_i r hr;split
  ·rw[List.length_map];have h1:=splits_len (w:=w) (E:=E) (to:=k.to) (l:=r.right) (i:=k.frm);have h2:(k.to+1) ^ r.right.length≤31 ^ 4:=Nat.le_trans (Nat.pow_le_pow_left zo _) (Nat.pow_le_pow_right (by decide) (hg r (gM hr)));have h3:31 ^ 4=923521:=by decide
   omega
  ·simp
 ·simp
structure PkS where
 j:Nat
 a:Option Addr
 n:Nat
 c:Nat
 B:List (Nat×Blk)
theorem packs_spec(F:Frz)(hL:Laid F)(g:Gram)(hg:Valid g){ga:Option Addr}{gm gc:Nat}(hr:Arr tRule F ga gm gc g.rules){b:Option Addr}{n d:Nat}{w:List Nat}(hw:Arr tNat F b n d w)(hw1:w.length≤30)
  {a:Option Addr} {m c:Nat} {E:List (List Nat)} (hE:Arr (tList tU32) F a m c E) (hE2:EndsOk g.nons w.length E) (k:Key) (hkf:k.frm≤w.length) (hkt:k.to≤30) :
  Abs.Spec CC 67 [.agg ⟨gramCells g ga gm gc⟩,.slice b n d,.slice a m c,.agg ⟨[.bool k.sym.term,.int .i64 k.sym.n,.int .i64 k.frm,.int .i64 k.to]⟩] F [] fun F' v o=>o=[]∧∃a n c,v=.slice a n c∧Arr tKPack F' a n c (packsOf g w E k):=by
 unfold gramCells;have hrl:=hr.len;have hgr:=hg.range.rules;refine Abs.Spec.fn (n:=41) Tryd.func67 rfl rfl fun own=>?_;refine AW.seq (AW.reg ?_);refine WT.boxT Z Z Z Z Z Z (fun i4 hi4=>?_);refine WT.boxT Z Z Z Z Z Z (fun i5 hi5=>?_);refine WT.boxT Z Z Z Z Z Z (fun i6 hi6=>?_);refine WT.boxT Z Z Z Z Z Z (fun i7 hi7=>?_);refine WT.freezeAll 0 Z Z (fun G1 hG1 hB1=>?_);refine WT.freezeAll 1 Z Z (fun G2 hG2 hB2=>?_);refine WT.freezeAll 2 Z Z (fun G3 hG3 hB3=>?_);have hG13:=hG1.trans (hG2.trans hG3);have f7:=hG3 _ _ (hG2 _ _ (hB1 i7 _ me));have f6:=hG3 _ _ (hB2 i6 _ me);have f5:=hB3 i5 _ me
 refine WT.le (own2:=[(i4,.cells false [.int .i64 g.terms,.int .i64 g.nons,.int .i64 g.start,.slice ga gm gc])]::own) (OwnLe.skip _ (OwnLe.skip _ (OwnLe.skip _ oR))) ?_;refine zB4 ?_;refine WT.allocT hT Z Z Z Z Z Z (fun i9 hi9=>?_);refine zB4 ?_;refine AW.range (S:=PkS) (fun _=>[]) (fun s=>((i9,.cells false [.slice s.a s.n s.c])::s.B)::[(i4,.cells false [.int .i64 g.terms,.int .i64 g.nons,.int .i64 g.start,.slice ga gm gc])]::own)
  (fun j s G=>Bld tKPack G s.a s.n s.c s.B ((List.range j).flatMap (packsAt g w E k))) gm ⟨0,none,0,0,[]⟩
  Z Z Z Z Z Z Z Z Z zo rfl rfl (fun _=>rfl) (fun _=>rfl) sM (OwnLe.flat (List.Perm.refl _)) (Bld.nil_ _ _) ?_ ?_
 ·intro j s F1 hF1 hj hb;have hr1:=(hr.mono hG13).mono hF1;have e5:=hF1 _ _ f5;have e6:=hF1 _ _ f6;have e7:=hF1 _ _ f7;refine zB6 ?_;refine WT.idxL hT hr1 Z Z Z Z Z Z Z Z Z zo (fun r hrj b1 off ro cs lx hb1 hp1 hrel=>?_);obtain⟨ra,rn,rc,rfl,hra⟩:=hrel;obtain⟨hrr1,hrr,hrs⟩:=hg.right r (gM hrj);refine zB6 ?_;refine WT.allocT hT Z Z Z Z Z Z (fun i10 hi10=>?_);refine WT.allocT hT Z Z Z Z Z Z (fun i11 hi11=>?_);have hsucc:(List.range (j+1)).flatMap (packsAt g w E k)=(List.range j).flatMap (packsAt g w E k)++packsAt g w E k j:=by
   rw[List.range_succ,List.flatMap_append];simp
  have hlim:((List.range j).flatMap (packsAt g w E k)).length≤32*923521:=by
   have:=flat_len (packsAt g w E k) 923521 (List.range j) fun i _=>packsAt_len (fun r hr=>(hg.right r hr).2.1) hkt i;rw[List.length_range] at this;exact Nat.le_trans this (Nat.mul_le_mul_right _ zo)
  refine zB6 ?_;refine WT.split 27 Z (fun h3=>?_) (fun h3=>?_)
  ·have hno:packsAt g w E k j=[]:=by
    unfold packsAt;rw[hrj];simp only;rw[if_neg];rintro⟨e,_⟩;simp[e] at h3
   refine zB6 ?_;refine AW.cond Z (fun _=>?_) (fun h=>(by cases h));refine AW.exit ?_;refine⟨s,sM,OwnLe.skip _ (OwnLe.skip _ oR),?_⟩;dsimp only;rw[hsucc,hno,List.append_nil];exact hb
  ·have hleft:r.left=k.sym.n:=by simp at h3;omega
   refine zB6 ?_;refine AW.cond Z (fun h4=>?_) (fun h4=>?_)
   ·have hno:packsAt g w E k j=[]:=by
     unfold packsAt;rw[hrj];simp only;rw[if_neg];rintro⟨_,e⟩;simp[e] at h4
    refine AW.exit ?_;refine⟨s,sM,OwnLe.skip _ (OwnLe.skip _ oR),?_⟩;dsimp only;rw[hsucc,hno,List.append_nil];exact hb
   ·have hterm:k.sym.term=false:=by simpa using h4
    have hyes:packsAt g w E k j=(splits w E k.to r.right k.frm).map (KPack.mk j):=by
     unfold packsAt;rw[hrj];simp only;rw[if_pos ⟨hleft,hterm⟩]
    have hlim2:=packsAt_len (w:=w) (E:=E) (k:=k) (fun r hr=>(hg.right r hr).2.1) hkt j;rw[hyes,List.length_map] at hlim2;refine zB6 ?_;refine WT.allocT hT Z Z Z Z Z Z (fun i12 hi12=>?_);refine zB6 ?_;refine WT.freezeAll 0 Z Z (fun G4 hG4 hB4=>?_);refine WT.freezeAll 2 Z Z (fun G5 hG5 hB5=>?_);have hG45:=hG4.trans hG5;have e12:=hG5 _ _ (hB4 i12 _ me);have e10:=hB5 i10 _ me;have e5:=hG45 _ _ e5;have e6:=hG45 _ _ e6;have e7:=hG45 _ _ e7;have hF15:=hG13.trans (hF1.trans hG45)
    refine WT.callC1F 3 Tryd.func82 Z Z Z Z Z Z Z Z Z (fun _=>rfl) (walk_spec (rule:=j) hE2 hw1 hkt r.right G5 (hL.mono hF15) ⟨e7,e10,e5,e6,e12⟩ (hw.mono hF15) (hE.mono hF15) ((hra.mono hG4).mono hG5) hrs k.frm hkf (Arr.nil_ _ _) (by simp;omega) ⟨_,_,_,_,rfl,hb.mono hG45⟩ zo) (fun F5 v B5 hF5 hv=>?_);refine zB6 ?_;obtain⟨na,nn,nc,nB,rfl,hnb⟩:=hv;refine⟨⟨0,na,nn,nc,nB⟩,sM,OwnLe.skip _ (OwnLe.skip _ (OwnLe.skip _ oR)),?_⟩;dsimp only;rw[hsucc,hyes];simpa using hnb
 ·intro s F1 hF1 hb;refine AW.le (own2:=[(i9,.cells false [.slice s.a s.n s.c])]::s.B::[(i4,.cells false [.int .i64 g.terms,.int .i64 g.nons,.int .i64 g.start,.slice ga gm gc])]::own) (OwnLe.flat (List.Perm.refl _)) ?_;refine AW.freezeAll 1 Z Z (fun F3 hF3 hB3=>?_);refine zB6 ?_;refine AW.ret ⟨_,[],⟨_,_,rfl,rfl,rfl⟩,zsb,rfl,s.a,s.n,s.c,rfl,?_⟩;unfold packsOf;rw[←hrl];exact hb.frozen hF3 hB3
theorem arr_at{α:Type}[Inhabited α]{d:Array α}{i:Nat}(h:i<d.size):d.toList[i]?=some d[i]!:=by
 rw[getElem!_pos d i h,Array.getElem?_toList,Array.getElem?_eq_getElem h]
theorem swp_list{α:Type}[Inhabited α](d:Array α)(i j:Nat):(Go.Sort.swp d i j).toList=(d.toList.set i d[j]!).set j d[i]!:=by
 unfold Go.Sort.swp;simp
def CmpOk{α:Type}(R:Ty α)(lt:α→α→Bool)(F:Frz)(g:Nat)(first capt:List Value):Prop:=
 (∃fn,CC.func g=some fn∧fn.body.isSome=true)∧∀G,Frz.le F G→∀lx ly x y,R.rel G lx x→R.rel G ly y→Abs.Spec CC g (first++[.agg ⟨lx⟩,.agg ⟨ly⟩]++capt) G [] fun _ v o=>o=[]∧∃z:Int,v=.int .i64 z∧(z<0↔lt x y=true)
theorem CmpOk.mono{α:Type}{R:Ty α}{lt:α→α→Bool}{F G:Frz}{g:Nat}{first capt:List Value}(h:CmpOk R lt F g first capt)(hF:Frz.le F G):CmpOk R lt G g first capt:=
 ⟨h.1,fun H hH=>h.2 H (hF.trans hH)⟩
structure VS(α:Type) where
 i:Nat
 d:Array α
 B:List (Nat×Blk)
instance:Inhabited Item:=⟨⟨0,0,0⟩⟩
theorem bitsLen_shift(x k:Nat)(h:2 ^ k≤x):Go.Sort.bitsLen x=k+Go.Sort.bitsLen (x / 2 ^ k):=by
 apply Nat.le_antisymm
 ·rw[Go.Sort.bitsLen_le_iff];have h1:=Go.Sort.lt_two_pow_bitsLen (x / 2 ^ k);rw[Nat.div_lt_iff_lt_mul (Nat.two_pow_pos k)] at h1;rw[Nat.pow_add,Nat.mul_comm];exact h1
 ·have h1:=Go.Sort.lt_two_pow_bitsLen x;have hk:k≤Go.Sort.bitsLen x:=by
   rcases Nat.lt_or_ge (Go.Sort.bitsLen x) k with h2 | h2
   ·have:=Nat.pow_le_pow_right (show 0<2 by decide) (Nat.le_of_lt h2);omega
   ·exact h2
  have:Go.Sort.bitsLen (x / 2 ^ k)≤Go.Sort.bitsLen x-k:=by
   rw[Go.Sort.bitsLen_le_iff,Nat.div_lt_iff_lt_mul (Nat.two_pow_pos k),←Nat.pow_add,Nat.sub_add_cancel hk];exact h1
  omega
theorem len64_spec(F:Frz)(x:Nat)(hx:x<4294967296):Abs.Spec CC 97 [.int .u64 x] F [] fun _ v o=>o=[]∧v=.int .i64 (Go.Sort.bitsLen x:Nat):=by
 have fin:∀(y n:Nat),y<256→n≤64→n+Go.Sort.bitsLen y=Go.Sort.bitsLen x→True:=fun _ _ _ _ _=>trivial;refine Abs.Spec.fn (n:=25) Tryd.func97 rfl rfl fun own=>?_;refine zC4 ?_;refine AW.cond Z (fun h=>(by simp at h;omega)) (fun _=>?_);refine AW.skip ?_;refine AW.jn (S:=Nat×Nat) (fun s=>[(0,.int .u64 (s.1:Nat)),(2,.int .i64 (s.2:Nat))]) (fun _=>own) (fun s _=>s.1<65536∧s.2≤16∧s.2+Go.Sort.bitsLen s.1=Go.Sort.bitsLen x) ?_ (fun s F1 hF1 hP=>?_)
 ·refine zC4 ?_;refine AW.cond Z (fun h=>?_) (fun h=>?_)
  ·have h:65536≤x:=by simp at h;omega
   refine zC4 ?_;refine WT.shV Z Z Z Z Z Z (by decide) (shr64 (y:=16) (by decide)) ?_;refine zC4 ?_;refine⟨(x / 2 ^ 16,16),sM,OwnLe.refl _,?_,Nat.le_refl _,(bitsLen_shift x 16 h).symm⟩;show x / 65536<65536;omega
  ·have h:x<65536:=by simp at h;omega
   refine AW.skip ?_;exact⟨(x,0),sM,OwnLe.refl _,h,Nat.zero_le _,by simp⟩
 ·obtain⟨h1,h2,h3⟩:=hP;refine AW.jn (S:=Nat×Nat) (fun s=>[(0,.int .u64 (s.1:Nat)),(2,.int .i64 (s.2:Nat))]) (fun _=>own) (fun s _=>s.1<256∧s.2≤24∧s.2+Go.Sort.bitsLen s.1=Go.Sort.bitsLen x) ?_ (fun u F2 hF2 hP=>?_)
  ·refine zC4 ?_;refine AW.cond Z (fun h=>?_) (fun h=>?_)
   ·have h:256≤s.1:=by simp at h;omega
    refine zC4 ?_;refine WT.shV Z Z Z Z Z Z (by decide) (shr64 (y:=8) (by decide)) ?_;refine zC4 ?_;refine⟨(s.1 / 2 ^ 8,s.2+8),sM,OwnLe.refl _,?_,by dsimp only;omega,?_⟩
    ·show s.1 / 256<256;omega
    ·have:=bitsLen_shift s.1 8 h;dsimp only;omega
   ·have h:s.1<256:=by simp at h;omega
    refine AW.skip ?_;exact⟨s,sM,OwnLe.refl _,h,by omega,h3⟩
  ·obtain⟨g1,g2,g3⟩:=hP;refine zC4 ?_;refine WT.conv hT (k2:=.u8) Z Z Z Z Z Z Z Z (wrapU8 zo) ?_
   have hb:Go.Sort.bitsLen u.1≤8:=(Go.Sort.bitsLen_le_iff _ _).2 g1;refine WT.indexStr (m:=256) (f:=Go.Sort.bitsLen) hT Z Z Z Z Z Z Z Z g1 (by decide +kernel) ?_;refine WT.conv hT (k2:=.i64) Z Z Z Z Z Z Z Z (wrap64 zo) ?_
   refine zC4 ?_;refine AW.ret ⟨_,[],⟨_,_,rfl,rfl,rfl⟩,zsb,rfl,?_⟩;rw[g3];rfl
theorem blen_spec(F:Frz)(x:Nat)(hx:x<4294967296):Abs.Spec CC 86 [.int .u64 x] F [] fun _ v o=>o=[]∧v=.int .i64 (Go.Sort.bitsLen x:Nat):=by
 refine Abs.Spec.fn (n:=8) Tryd.func86 rfl rfl fun own=>?_;refine zC4 ?_;refine AW.cond Z (fun h=>(by cases h)) (fun _=>?_);refine zC4 ?_;refine WT.callV Tryd.func97 Z Z Z Z Z Z (len64_spec _ x hx) (fun v hv=>?_);subst hv;refine zC4 ?_;exact AW.ret ⟨_,[],⟨_,_,rfl,rfl,rfl⟩,zsb,rfl,rfl⟩
theorem npow_spec(F:Frz)(x:Nat)(hx:x≤1000000):Abs.Spec CC 101 [.int .i64 x] F [] fun _ v o=>o=[]∧v=.int .u64 ((2 ^ Go.Sort.bitsLen x:Nat):Int):=by
 have hb : Go.Sort.bitsLen x ≤ 20 := (Go.Sort.bitsLen_le_iff _ _).2 (by have : 2 ^ 20 = 1048576 := rfl
                                                                        omega)
 have hp:2 ^ Go.Sort.bitsLen x≤2 ^ 20:=Nat.pow_le_pow_right (by decide) hb;have h20:2 ^ 20=1048576:=rfl;refine Abs.Spec.fn (n:=7) Tryd.func101 rfl rfl fun own=>?_;refine zC4 ?_;refine WT.conv hT (k2:=.u64) Z Z Z Z Z Z Z Z (wrapU64 zo) ?_
 refine WT.callV Tryd.func86 Z Z Z Z Z Z (blen_spec _ x zo) (fun v hv=>?_);subst hv;have e:=shl64 (x:=1) (y:=Go.Sort.bitsLen x) zo;rw[Nat.one_mul,Nat.mod_eq_of_lt zo] at e;refine WT.shV Z Z Z Z Z Z (by decide) e ?_;refine zC4 ?_;exact AW.ret ⟨_,[],⟨_,_,rfl,rfl,rfl⟩,zsb,rfl,rfl⟩
theorem xorn_spec(F:Frz)(ip r:Nat)(hr:r<18446744073709551616):Abs.Spec CC 102 [.pointer (some ⟨ip,0,none⟩)] F [[(ip,.cells false [.int .u64 r])]] fun F' v o=>∃B',o=[B']∧v=.int .u64 (Go.Sort.xorNextN r:Nat)∧B'=[(ip,.cells false [.int .u64 (Go.Sort.xorNextN r:Nat)])]:=by
 obtain⟨a,ha⟩:∃a,r ^^^ (r*8192 % 18446744073709551616)=a:=⟨_,rfl⟩;obtain⟨b,hb⟩:∃b,a ^^^ (a / 128)=b:=⟨_,rfl⟩;obtain⟨c,hc⟩:∃c,b ^^^ (b*131072 % 18446744073709551616)=c:=⟨_,rfl⟩;have p:(18446744073709551616:Nat)=2 ^ 64:=by decide
 have ha2:a<18446744073709551616:=by rw[←ha,p];exact Nat.xor_lt_two_pow zo zo
 have hb2:b<18446744073709551616:=by rw[←hb,p];exact Nat.xor_lt_two_pow zo zo
 have hx:Go.Sort.xorNextN r=c:=by simp only[Go.Sort.xorNextN,ha,hb,hc]
 rw[hx];refine Abs.Spec.fn (n:=33) Tryd.func102 rfl rfl fun own=>?_;refine zC4 ?_;refine WT.shV Z Z Z Z Z Z (by decide) (shl64 (y:=13) (by decide)) ?_;refine WT.binV Z Z Z Z Z Z (by decide) (xor64 hr (Nat.mod_lt _ (by decide))) ?_;rw[show r ^^^ (r*2 ^ 13 % 18446744073709551616)=a from ha];refine zC4 ?_;refine WT.shV Z Z Z Z Z Z (by decide) (shr64 (y:=7) (by decide)) ?_;refine WT.binV Z Z Z Z Z Z (by decide) (xor64 ha2 (Nat.lt_of_le_of_lt (Nat.div_le_self _ _) ha2)) ?_;rw[show a ^^^ (a / 2 ^ 7)=b from hb];refine zC4 ?_;refine WT.shV Z Z Z Z Z Z (by decide) (shl64 (y:=17) (by decide)) ?_
 refine WT.binV Z Z Z Z Z Z (by decide) (xor64 hb2 (Nat.mod_lt _ (by decide))) ?_;rw[show b ^^^ (b*2 ^ 17 % 18446744073709551616)=c from hc];refine zC4 ?_;exact AW.ret ⟨_,[_],⟨_,_,rfl,rfl,rfl⟩,zsb,_,rfl,rfl,rfl⟩
def bsN{α:Type}[Inhabited α](a l md i0:Nat)(st:UInt64×Array α):Nat→UInt64×Array α
 | 0=>st
 | n+1=>Go.Sort.breakStep a l md (bsN a l md i0 st n) (i0+n)
structure PS(α:Type) where
 a:Nat
 b:Nat
 lim:Nat
 wb:Bool
 wp:Bool
 d:Array α
 B:List (Nat×Blk)
theorem partEq_range{α:Type}[Inhabited α](lt:α→α→Bool)(d:Array α){a b p:Nat}(h1:a≤p)(h2:p<b)(hb:b≤d.size):a<(Go.Sort.partitionEqual lt d a b p).1∧(Go.Sort.partitionEqual lt d a b p).1≤b:=by
 have:=Go.Sort.partEqLoop_spec lt a b _ (a+1) (b-1) (Go.Sort.swp d a p) (Nat.le_refl _) zo zo zo (by rw[Go.Sort.size_swp];exact hb) (fun t h1 h2=>by omega) (fun t h1 h2=>by omega);exact⟨this.1,this.2.1⟩
theorem part_range{α:Type}[Inhabited α](lt:α→α→Bool)(d:Array α){a b p:Nat}(h1:a≤p)(h2:p<b)(hb:b≤d.size):a≤(Go.Sort.partition lt d a b p).1∧(Go.Sort.partition lt d a b p).1<b:=by
 have:=Go.Sort.partLoop_spec lt a b _ (a+1) (b-1) (Go.Sort.swp d a p) (Nat.le_refl _) zo zo zo (by rw[Go.Sort.size_swp];exact hb) (fun t h1 h2=>by omega) (fun t h1 h2=>by omega);rw[Go.Sort.partition_fst];exact⟨this.1,this.2.1⟩
theorem sort_facts{α:Type}[Inhabited α]{lt:α→α→Bool}(h:Go.Sort.SWO lt)(xs:List α):(Go.Sort.sort lt xs.toArray).toList.Perm xs∧(Go.Sort.sort lt xs.toArray).toList.Pairwise (fun x y=>lt y x=false):=by
 obtain⟨⟨h1,_,h2⟩,h3⟩:=Go.Sort.sort_sorts lt h xs.toArray;have hsz:(Go.Sort.sort lt xs.toArray).size=xs.length:=by rw[h1];simp
 refine⟨?_,?_⟩
 ·have e1:((Go.Sort.sort lt xs.toArray).extract 0 xs.toArray.size).toList=(Go.Sort.sort lt xs.toArray).toList:=by
   rw[show xs.toArray.size=(Go.Sort.sort lt xs.toArray).size by rw[h1],Array.extract_size]
  have e2:(xs.toArray.extract 0 xs.toArray.size).toList=xs:=by rw[Array.extract_size]
  rw[e1,e2] at h2;exact h2
 ·rw[List.pairwise_iff_getElem];intro i j hi hj hij;have hi':i<(Go.Sort.sort lt xs.toArray).size:=by simpa using hi
  have hj':j<(Go.Sort.sort lt xs.toArray).size:=by simpa using hj
  have:=h3 i j (Nat.zero_le _) hij (by rw[←h1];exact hj');rw[getElem!_pos _ i hi',getElem!_pos _ j hj'] at this;simpa using this
end Go.Proofs.D