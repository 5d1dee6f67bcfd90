/-
  Walks: what functions of the program do, over the abstract machine.
-/
import Derived.Test.YtmbdmfjijofmmaaGreatDoorCtx
import Derived.Sort.AssemblyPlain
import Derived.Sort.LotD5
set_option linter.unusedVariables false
set_option maxRecDepth 20000
set_option maxHeartbeats 0
open Go Go.Abs Go.Proofs Go.Proofs.D
namespace Go.Proofs.D
theorem tmod_below(x m:Int)(hm:0<m):x % m=if x.tmod m<0 then x.tmod m+m else x.tmod m:=by
 rcases Int.le_total 0 x with h | h
 ·rw[Int.tmod_eq_emod_of_nonneg h,if_neg];have:=Int.emod_nonneg x (show m≠0 by omega);omega
 ·have h1:=Int.tmod_add_mul_tdiv x m;have h2:x.tmod m≤0:=by have:=Int.tmod_nonneg m (show 0≤-x by omega);rw[Int.neg_tmod] at this;omega
  have h3:-m<x.tmod m:=by have:=Int.lt_tmod_of_pos x hm;omega
  split
  ·rename_i h4;have:x=(x.tmod m+m)+m*(x.tdiv m-1):=by rw[Int.mul_sub];omega
   rw[show x % m=((x.tmod m+m)+m*(x.tdiv m-1)) % m by rw[←this],Int.add_mul_emod_self_left];exact Int.emod_eq_of_lt zo zo
  ·have h5:x.tmod m=0:=by omega
   rw[h5];exact Int.emod_eq_zero_of_dvd (Int.dvd_of_tmod_eq_zero h5)
def below(x:Int)(m:Nat):Nat:=(x % (m:Int)).toNat
theorem below_lt(x:Int){m:Nat}(h:0<m):below x m<m:=by
 unfold below;have h1:=Int.emod_nonneg x (show (m:Int)≠0 by omega);have h2:=Int.emod_lt_of_pos x (show 0<(m:Int) by omega);omega
theorem below_spec(F:Frz)(x:Int)(m:Nat)(hm:0<m)(hm2:m≤9223372036854775807):Abs.Spec CC 37 [.int .i64 x,.int .i64 m] F [] fun _ v o=>o=[]∧v=.int .i64 (below x m:Nat):=by
 have e1:=tmod_below x m zo;have e2:-(m:Int)<x.tmod m:=Int.lt_tmod_of_pos x zo;have e3:(below x m:Int)=x % (m:Int):=by
  unfold below;exact Int.toNat_of_nonneg (Int.emod_nonneg x (show (m:Int)≠0 by omega))
 refine Abs.Spec.fn (n:=14) Tryz.func37 rfl rfl fun own=>?_;refine zB4 ?_;refine WT.remT Z Z Z Z Z Z zo ?_;refine zB4 ?_;refine AW.cond Z (fun hc=>?_) (fun hc=>?_)
 ·have hc:=of_decide_eq_true hc;refine zB4 ?_;refine AW.ret ⟨_,[],⟨_,_,rfl,rfl,rfl⟩,List.Sublist.refl _,rfl,?_⟩;show Value.int .i64 _=_;rw[e3,e1,if_pos hc]
 ·have hc:=of_decide_eq_false hc;refine zB4 ?_;refine AW.ret ⟨_,[],⟨_,_,rfl,rfl,rfl⟩,List.Sublist.refl _,rfl,?_⟩;show Value.int .i64 _=_;rw[e3,e1,if_neg hc]
def StreamB(F:Frz)(i:Nat)(B:List (Nat×Blk))(l:List Int):Prop:=∃a n c,B=[(i,.cells false [.slice a n c])]∧Arr tInt F a n c l
theorem StreamB.mono{F G:Frz}{i:Nat}{B:List (Nat×Blk)}{l:List Int}(h:StreamB F i B l)(hF:Frz.le F G):StreamB G i B l:=by
 obtain⟨a,n,c,e,h⟩:=h;exact⟨a,n,c,e,h.mono hF⟩
theorem next_spec(F:Frz)(i:Nat){B:List (Nat×Blk)}{l:List Int}(hl:StreamB F i B l)(m:Nat)(hm:0<m)(hm2:m≤9223372036854775807) :
  Abs.Spec CC 43 [.pointer (some ⟨i,0,none⟩),.int .i64 m] F [B] fun _ v o=>∃B',o=[B']∧∃r l',v=.int .i64 (r:Nat)∧r<m∧StreamB F i B' l':=by
 obtain⟨a,len,c,rfl,hl⟩:=hl;refine Abs.Spec.fn (n:=29) Tryz.func43 rfl rfl fun own=>?_;have hlen:=hl.len;refine zB4 ?_;refine AW.cond Z (fun hc=>?_) (fun hc=>?_)
 ·have h0:len=0:=by simpa using hc
  refine zB4 ?_;exact AW.ret ⟨_,[_],⟨_,_,rfl,rfl,rfl⟩,List.Sublist.refl _,_,rfl,0,l,rfl,hm,a,len,c,rfl,hl⟩
 ·have h0:len≠0:=by simpa using hc
  have hlt:0<l.length:=by omega
  refine zB4 ?_;refine WT.idxL (j:=0) hT hl Z Z Z Z Z Z Z Z Z hlt (fun x hx b off ro cs lx hb hp hrel=>?_);obtain rfl:lx=[.int .i64 x]:=hrel;refine zB4 ?_;obtain⟨a',c',hs,ha'⟩:=hl.slice (C:=CC) (lo:=1) (hi:=len) zo (Nat.le_refl _) hT (t:=22) Z Z Z (some (.int .i64 1)) none rfl rfl;refine WT.slice Z Z Z Z Z Z Z Z hs ?_;refine zB4 ?_;refine WT.callV Tryz.func37 Z Z Z Z Z Z (below_spec _ x m hm hm2) (fun v hv=>?_);subst hv;refine zB4 ?_;exact AW.ret ⟨_,[_],⟨_,_,rfl,rfl,rfl⟩,List.Sublist.refl _,_,rfl,below x m,_,rfl,below_lt x hm,a',len-1,c',rfl,ha'⟩
theorem take_all{α:Type}{p:α→Prop}{l:List α}{j:Nat}{x:α}(hx:l[j]?=some x)(h:∀y∈l.take j,p y)(h1:p x):∀y∈l.take (j+1),p y:=by
 intro y hy;rw[List.take_add_one,hx] at hy;simp at hy;rcases hy with hy | rfl
 ·exact h y hy
 ·exact h1
theorem has_spec(F:Frz){a:Option Addr}{m c:Nat}{rs:List Rule}(h:Arr tRule F a m c rs)(hm:m≤1000000){left:Nat}{b:Option Addr}{n d:Nat}{right:List Sym}(hr:Arr tSym F b n d right)(hn:n≤1000000) :
  Abs.Spec CC 44 [.slice a m c,.agg ⟨[.int .i64 left,.slice b n d]⟩] F [] fun F' v o=>o=[]∧v=.bool (decide (⟨left,right⟩∈rs)):=by
 refine Abs.Spec.fn (n:=52) Tryz.func44 rfl rfl fun own=>?_;have hlen:=h.len;have hrlen:=hr.len;refine AW.seq (AW.reg ?_);refine WT.boxT Z Z Z Z Z Z (fun i0 hi0=>?_);refine zB4 ?_;refine AW.range (S:=Unit) (fun _=>[]) (fun _=>_) (fun j _ _=>∀x∈rs.take j,x≠⟨left,right⟩) m () Z Z Z Z Z Z Z Z Z zo Z Z (fun _=>rfl) (fun _=>rfl) sM oR (by simp) ?_ ?_
 ·intro j _ F' hF hj hP;have h:=h.mono hF;have hr:=hr.mono hF;refine zB4 ?_;refine WT.idxL hT h Z Z Z Z Z Z Z Z Z zo (fun x hx b1 off ro cs lx hb hp hrel=>?_);obtain⟨b2,n2,d2,rfl,hx2⟩:=hrel;have hx2len:=hx2.len;refine zB4 ?_;refine WT.allocT hT Z Z Z Z Z Z (fun i1 hi1=>?_);refine zB4 ?_;have fin:x≠⟨left,right⟩→∀y∈rs.take (j+1),y≠⟨left,right⟩:=take_all hx hP;refine WT.split 20 Z (fun hne=>?_) (fun hne=>?_)
  ·refine zB4 ?_;refine AW.cond Z (fun _=>?_) (fun hc=>(by cases hc));refine AW.exit ⟨(),sM,zow,fin ?_⟩;intro e;subst e;simp at hne
  ·refine zB4 ?_;refine AW.cond Z (fun hc=>?_) (fun hc=>?_)
   ·refine AW.exit ⟨(),sM,zow,fin ?_⟩;simp at hc;intro e;rw[e] at hx2len;simp at hx2len;omega
   ·have hc:n2=n:=by simp at hc;omega
    have hne:x.left=left:=by simp at hne;omega
    refine zB4 ?_;refine AW.range (S:=Bool) (fun s=>[(7,.bool s)]) (fun _=>_) (fun j s _=>s=decide (x.right.take j=right.take j)) n2 true Z Z Z Z Z Z Z Z Z zo Z Z (fun _=>rfl) (fun _=>rfl) sM oR (by simp) ?_ ?_
    ·intro q s F'' hF2 hq hP2;have hx2:=hx2.mono hF2;have hr:=hr.mono hF2;have hlt1:q<x.right.length:=by omega
     have hlt2:q<right.length:=by omega
     have tk:(x.right.take (q+1)=right.take (q+1))↔(x.right.take q=right.take q∧x.right[q]=right[q]):=by
      rw[List.take_add_one,List.take_add_one,gE hlt1,gE hlt2];constructor
      ·intro he;have:=List.append_inj' he rfl;simpa using this
      ·rintro⟨e1,e2⟩;rw[e1,e2]
     refine zB4 ?_;refine WT.split 36 Z (fun hs=>?_) (fun hs=>?_)
     ·refine zB4 ?_;refine WT.idxL hT hx2 Z Z Z Z Z Z Z Z Z hlt1 (fun y hy b3 off3 ro3 cs3 l3 hb3 hp3 hrel3=>?_);obtain rfl:=hrel3;refine zB4 ?_;refine WT.idxL hT hr Z Z Z Z Z Z Z Z Z hlt2 (fun z hz b4 off4 ro4 cs4 l4 hb4 hp4 hrel4=>?_);obtain rfl:=hrel4;refine zB4 ?_;refine⟨_,sM,zow,?_⟩;rw[gE hlt1] at hy;rw[gE hlt2] at hz;cases hy;cases hz;rw[hs] at hP2;have:=sym_eq x.right[q] right[q];refine this.trans ?_;have h1:=of_decide_eq_true hP2.symm;simp[tk,h1]
     ·refine zB4 ?_;refine⟨_,sM,zow,?_⟩;rw[hs] at hP2;have h1:=of_decide_eq_false hP2.symm;simp[tk,h1]
    ·intro s F'' hF2 hs;rw[List.take_of_length_le zo,List.take_of_length_le zo] at hs;refine zB4 ?_;refine AW.cond Z (fun hc=>?_) (fun hc=>?_)
     ·refine zB4 ?_;refine AW.ret ⟨_,[],⟨_,_,rfl,rfl,rfl⟩,(List.sublist_cons_self ..).trans (List.sublist_cons_self ..),rfl,?_⟩;rw[hc] at hs;have e:=of_decide_eq_true hs.symm;have:(⟨left,right⟩:Rule)∈rs:=by
       have:x=⟨left,right⟩:=by cases x;simp at hne e;simp[hne,e]
       rw[←this];exact gM hx
      simp[this,tupleA]
     ·refine zB4 ?_;refine⟨(),sM,zow,fin ?_⟩;rintro rfl;rw[hc] at hs;simp at hs
 ·intro _ F' hF hP;refine zB4 ?_;refine AW.ret ⟨_,[],⟨_,_,rfl,rfl,rfl⟩,List.sublist_cons_self ..,rfl,?_⟩;rw[List.take_of_length_le zo] at hP;have:(⟨left,right⟩:Rule)∉rs:=fun hm=>hP _ hm rfl;simp[this,tupleA]
def SymOk(t n:Nat)(y:Sym):Prop:=if y.term=true then y.n<t else y.n<n
def RuleOk(t n:Nat)(r:Rule):Prop:=r.left<n∧r.right.length≤3∧∀y∈r.right,SymOk t n y
structure Small(g:Gram):Prop where
 terms:1≤g.terms∧g.terms≤3
 nons:1≤g.nons∧g.nons≤4
 start:g.start<g.nons
 rules:1≤g.rules.length∧g.rules.length≤8
 nodup:g.rules.Nodup
 ok:∀r∈g.rules,RuleOk g.terms g.nons r
structure GS where
 xs:List Rule
 a:Option Addr
 m:Nat
 c:Nat
 B:List (Nat×Blk)
 Bs:List (Nat×Blk)
structure GI where
 ys:List Sym
 a:Option Addr
 m:Nat
 c:Nat
 B:List (Nat×Blk)
 Bs:List (Nat×Blk)
theorem grammar_spec(F:Frz){a:Option Addr}{n c:Nat}{l:List Int}(hl:Arr tInt F a n c l) :
  Abs.Spec CC 8 [.slice a n c] F [] fun F' v o=>o=[]∧∃g,GramV F' v g∧Small g:=by
 refine Abs.Spec.fn (n:=72) Tryz.func8 rfl rfl fun own=>?_;refine AW.seq (AW.reg ?_);refine WT.allocT hT Z Z Z Z Z Z (fun i2 hi2=>?_);refine zB4 ?_;refine WT.boxT Z Z Z Z Z Z (fun i8 hi8=>?_);refine zB4 ?_;refine WT.call1 (B:=[(i8,.cells false [.slice a n c])]) 0 Tryz.func43 Z Z Z Z Z Z Z (fun _=>rfl) (next_spec F i8 ⟨a,n,c,rfl,hl⟩ 3 (by decide) (by decide)) (fun v B1 hv=>?_);obtain⟨r1,l1,rfl,hr1,hs1⟩:=hv;refine zB4 ?_;refine WT.call1 0 Tryz.func43 Z Z Z Z Z Z Z (fun _=>rfl) (next_spec F i8 hs1 4 (by decide) (by decide)) (fun v B2 hv=>?_);obtain⟨r2,l2,rfl,hr2,hs2⟩:=hv;refine zB4 ?_
 refine WT.allocT hT Z Z Z Z Z Z (fun i4 hi4=>?_);refine zB4 ?_;refine WT.call1 1 Tryz.func43 Z Z Z Z Z Z Z (fun _=>rfl) (next_spec F i8 hs2 (1+r2) zo zo) (fun v B3 hv=>?_);obtain⟨r3,l3,rfl,hr3,hs3⟩:=hv;refine zB4 ?_;refine WT.call1 1 Tryz.func43 Z Z Z Z Z Z Z (fun _=>rfl) (next_spec F i8 hs3 8 (by decide) (by decide)) (fun v B4 hv=>?_);obtain⟨r4,l4,rfl,hr4,hs4⟩:=hv;refine zB4 ?_
 refine AW.range (S:=GS) (fun _=>[]) (fun s=>[(i4,.cells false [.int .i64 (1+r1:Nat),.int .i64 (1+r2:Nat),.int .i64 r3,.slice s.a s.m s.c])]::s.B::s.Bs::[(i2,.cells false [.int .i64 0,.int .i64 0,.int .i64 0,.slice none 0 0])]::own)
  (fun j s G=>Bld tRule G s.a s.m s.c s.B s.xs∧(∃l,StreamB G i8 s.Bs l)∧(∀r∈s.xs,RuleOk (1+r1) (1+r2) r)∧s.xs.Nodup∧s.xs.length≤j∧(0<j→1≤s.xs.length)) (1+r4) ⟨[],none,0,0,[],B4⟩
  Z Z Z Z Z Z Z Z Z zo rfl rfl (fun _=>rfl) (fun _=>rfl) sM (OwnLe.flat (List.Perm.refl _)) ⟨Bld.nil_ _ _,⟨_,hs4⟩,by simp,by simp,by simp,by simp⟩ ?_ ?_
 ·intro j s F1 hF1 hj hP;obtain⟨hb,⟨ls,hst⟩,hok,hnd,hlen,hpos⟩:=hP;have hm1:=hb.len;refine zB4 ?_;refine WT.call1 2 Tryz.func43 Z Z Z Z Z Z Z (fun _=>rfl) (next_spec F1 i8 hst (1+r2) zo zo) (fun v B5 hv=>?_);obtain⟨r5,l5,rfl,hr5,hs5⟩:=hv;refine zB4 ?_;refine WT.allocT hT Z Z Z Z Z Z (fun i5 hi5=>?_);refine zB4 ?_;refine WT.call1 3 Tryz.func43 Z Z Z Z Z Z Z (fun _=>rfl) (next_spec F1 i8 hs5 4 (by decide) (by decide)) (fun v B6 hv=>?_);obtain⟨r6,l6,rfl,hr6,hs6⟩:=hv;refine zB4 ?_
  refine AW.range (S:=GI) (fun _=>[]) (fun s2=>[(i5,.cells false [.int .i64 r5,.slice s2.a s2.m s2.c])]::s2.B::[(i4,.cells false [.int .i64 (1+r1:Nat),.int .i64 (1+r2:Nat),.int .i64 r3,.slice s.a s.m s.c])]::s.B::s2.Bs::[(i2,.cells false [.int .i64 0,.int .i64 0,.int .i64 0,.slice none 0 0])]::own)
   (fun j s G=>Bld tSym G s.a s.m s.c s.B s.ys∧(∃l,StreamB G i8 s.Bs l)∧(∀y∈s.ys,SymOk (1+r1) (1+r2) y)∧s.ys.length=j) r6 ⟨[],none,0,0,[],B6⟩
   Z Z Z Z Z Z Z Z Z zo rfl rfl (fun _=>rfl) (fun _=>rfl) sM (OwnLe.flat (List.Perm.refl _)) ⟨Bld.nil_ _ _,⟨_,hs6⟩,by simp,by simp⟩ ?_ ?_
  ·intro q s2 F2 hF2 hq hP2;obtain⟨hb2,⟨ls2,hst2⟩,hok2,hlen2⟩:=hP2;have hm2:=hb2.len;refine zB4 ?_;refine WT.call1 4 Tryz.func43 Z Z Z Z Z Z Z (fun _=>rfl) (next_spec F2 i8 hst2 2 (by decide) (by decide)) (fun v B7 hv=>?_);obtain⟨r7,l7,rfl,hr7,hs7⟩:=hv;refine zB4 ?_;refine AW.cond Z (fun hc=>?_) (fun hc=>?_)
   ·refine AW.draw (ps:=[(1,5),(1,7)]) Z Z ?_;refine zB4 ?_;refine WT.call1 4 Tryz.func43 Z Z Z Z Z Z Z (fun _=>rfl) (next_spec F2 i8 hs7 (1+r1) zo zo) (fun v B8 hv=>?_);obtain⟨r8,l8,rfl,hr8,hs8⟩:=hv;refine zB4 ?_;refine WT.buildT hT Z Z Z Z Z Z Z Z Z Z Z Z Z Z (fun i9 hi9=>?_);refine WT.appendT (ys:=[⟨true,r8⟩]) hT 2 hb2 Z (fun _=>rfl) Z Z Z Z Z Z Z Z Z Z Z (fun h0 s0=>news_own hT s0 0 Z Z Z Z) (Cells.single (x:=(⟨true,r8⟩:Sym)) rfl) Z (by decide) zom (fun a3 c3 B3 hB3=>?_);refine zB4 ?_;refine⟨zrC,?_⟩;refine⟨⟨s2.ys++[⟨true,r8⟩],a3,s2.m+1,c3,B3,B8⟩,sM,zow,hB3,⟨_,hs8⟩,?_,by simp[hlen2]⟩
    intro y hy;rcases List.mem_append.1 hy with hy | hy
    ·exact hok2 y hy
    ·obtain rfl:=List.mem_singleton.1 hy;exact hr8
   ·refine AW.draw (ps:=[(1,5),(1,7)]) Z Z ?_;refine zB4 ?_;refine WT.call1 4 Tryz.func43 Z Z Z Z Z Z Z (fun _=>rfl) (next_spec F2 i8 hs7 (1+r2) zo zo) (fun v B8 hv=>?_);obtain⟨r8,l8,rfl,hr8,hs8⟩:=hv;refine zB4 ?_;refine WT.buildT hT Z Z Z Z Z Z Z Z Z Z Z Z Z Z (fun i9 hi9=>?_);refine WT.appendT (ys:=[⟨false,r8⟩]) hT 2 hb2 Z (fun _=>rfl) Z Z Z Z Z Z Z Z Z Z Z (fun h0 s0=>news_own hT s0 0 Z Z Z Z) (Cells.single (x:=(⟨false,r8⟩:Sym)) rfl) Z (by decide) zom (fun a3 c3 B3 hB3=>?_);refine zB4 ?_;refine⟨zrC,?_⟩;refine⟨⟨s2.ys++[⟨false,r8⟩],a3,s2.m+1,c3,B3,B8⟩,sM,zow,hB3,⟨_,hs8⟩,?_,by simp[hlen2]⟩
    intro y hy;rcases List.mem_append.1 hy with hy | hy
    ·exact hok2 y hy
    ·obtain rfl:=List.mem_singleton.1 hy;exact hr8
  ·intro s2 F2 hF2 hP2;obtain⟨hb2,⟨ls2,hst2⟩,hok2,hlen2⟩:=hP2;have hm2:=hb2.len;refine AW.freezeAll 1 Z Z (fun F3 hF3 hB3=>?_);have hy:=hb2.frozen hF3 hB3;have hb:=(hb.mono hF2).mono hF3;have hst2:=hst2.mono hF3;refine zB4 ?_;refine WT.callLend 3 Tryz.func44 Z Z Z Z Z Z Z (fun G hG hBG=>has_spec G (left:=r5) (hb.frozen hG hBG) zom (hy.mono hG) zom) (fun v hv=>?_);subst hv;refine zB4 ?_;refine AW.cond Z (fun hc=>?_) (fun hc=>?_)
   ·refine zB4 ?_;refine WT.buildT hT Z Z Z Z Z Z Z Z Z Z Z Z Z Z (fun i9 hi9=>?_);refine WT.appendT (ys:=[⟨r5,s2.ys⟩]) hT 4 hb Z (fun _=>rfl) Z Z Z Z Z Z Z Z Z Z Z (fun h0 s0=>news_own hT s0 0 Z Z Z Z) (Cells.single (R:=tRule) (x:=(⟨r5,s2.ys⟩:Rule)) ⟨_,_,_,rfl,hy⟩) Z (by decide) zom (fun a3 c3 B3 hB3=>?_);refine zB5 ?_;refine⟨⟨s.xs++[⟨r5,s2.ys⟩],a3,s.m+1,c3,B3,s2.Bs⟩,sM,zow,hB3,⟨_,hst2⟩,?_,?_,?_,?_⟩
    ·intro r hr;rcases List.mem_append.1 hr with hr | hr
     ·exact hok r hr
     ·obtain rfl:=List.mem_singleton.1 hr;exact⟨by simp;omega,by simp;omega,hok2⟩
    ·rw[List.nodup_append];refine⟨hnd,by simp,fun x hx y hy=>?_⟩;obtain rfl:=List.mem_singleton.1 hy;rintro rfl;simp[hx] at hc
    ·simp;omega
    ·simp
   ·refine zB4 ?_;have hin:(⟨r5,s2.ys⟩:Rule)∈s.xs:=by simpa using hc
    refine⟨{ s with Bs:=s2.Bs },sM,zow,hb,⟨_,hst2⟩,hok,hnd,by dsimp only;omega,fun _=>List.length_pos_of_mem hin⟩
 ·intro s F1 hF1 hP;obtain⟨hb,⟨ls,hst⟩,hok,hnd,hlen,hpos⟩:=hP;refine AW.freezeAll 1 Z Z (fun F3 hF3 hB3=>?_);have hx:=hb.frozen hF3 hB3;refine zB4 ?_;have hx3:=hb.len;refine AW.ret ⟨_,[],⟨_,_,⟨_,rfl,fun G h0 s0=>loadA_cells (s0.has (p:=3) Z me) (readT_ok hT rfl)⟩,rfl,rfl⟩,zsb,rfl,⟨1+r1,1+r2,r3,s.xs⟩,⟨_,_,_,rfl,hx⟩,?_⟩;exact⟨by dsimp only;omega,by dsimp only;omega,hr3,by dsimp only;omega,hnd,hok⟩
theorem isNaN_spec(F:Frz)(x:Int):Abs.Spec CC 175 [.int .i64 x] F [] fun _ v o=>o=[]∧v=.bool false:=by
 refine Abs.Spec.fn (n:=6) Tryz.func175 rfl rfl fun own=>?_;refine zB4 ?_;exact AW.ret ⟨_,[],⟨_,_,rfl,rfl,rfl⟩,List.Sublist.refl _,rfl,by simp[tupleA]⟩
def cmpInt(x y:Int):Int:=if x<y then -1 else if x > y then 1 else 0
theorem compare_spec(F:Frz)(x y:Int):Abs.Spec CC 124 [.int .i64 x,.int .i64 y] F [] fun _ v o=>o=[]∧v=.int .i64 (cmpInt x y):=by
 refine Abs.Spec.fn (n:=20) Tryz.func124 rfl rfl fun own=>?_;refine zB4 ?_;refine WT.callV Tryz.func175 Z Z Z Z Z Z (isNaN_spec _ x) (fun v hv=>?_);subst hv;refine zB4 ?_;refine WT.callV Tryz.func175 Z Z Z Z Z Z (isNaN_spec _ y) (fun v hv=>?_);subst hv;refine zB4 ?_;refine AW.cond Z (fun hc=>(by cases hc)) (fun _=>?_);refine zB4 ?_;refine AW.cond Z (fun hc=>(by cases hc)) (fun _=>?_);refine zB4 ?_;refine AW.cond Z (fun hc=>?_) (fun hc=>?_)
 ·refine zB4 ?_;exact AW.ret ⟨_,[],⟨_,_,rfl,rfl,rfl⟩,List.Sublist.refl _,rfl,by simp at hc;simp[tupleA,cmpInt,hc]⟩
 ·refine zB4 ?_;refine AW.cond Z (fun hc2=>?_) (fun hc2=>?_)
  ·refine zB4 ?_;exact AW.ret ⟨_,[],⟨_,_,rfl,rfl,rfl⟩,List.Sublist.refl _,rfl,by simp at hc hc2;simp[tupleA,cmpInt];omega⟩
  ·refine zB4 ?_;exact AW.ret ⟨_,[],⟨_,_,rfl,rfl,rfl⟩,List.Sublist.refl _,rfl,by simp at hc hc2;simp[tupleA,cmpInt];omega⟩
def orInt:List Int→Int
 | []=>0
 | x::l=>if x=0 then orInt l else x
theorem orInt_take{l:List Int}{j:Nat}(h:∀y∈l.take j,y=0):orInt l=orInt (l.drop j):=by
 induction j generalizing l with
 | zero=>simp
 | succ j ih=>
  cases l with
  | nil=>simp
  | cons x l=>
   have hx:x=0:=h x (by simp);simp only[orInt,hx,if_true,List.drop_succ_cons];exact ih (fun y hy=>h y (by simp[hy]))
theorem or_spec(F:Frz){a:Option Addr}{m c:Nat}{l:List Int}(hl:Arr tInt F a m c l)(hm:m≤1000000):Abs.Spec CC 123 [.slice a m c] F [] fun _ v o=>o=[]∧v=.int .i64 (orInt l):=by
 refine Abs.Spec.fn (n:=18) Tryz.func123 rfl rfl fun own=>?_;have hlen:=hl.len;refine zB4 ?_;refine AW.range (S:=Unit) (fun _=>[]) (fun _=>_) (fun j _ _=>∀y∈l.take j,y=0) m () Z Z Z Z Z Z Z Z Z zo Z Z (fun _=>rfl) (fun _=>rfl) sM oR (by simp) ?_ ?_
 ·intro j _ F1 hF1 hj hP;have hl1:=hl.mono hF1;refine zB4 ?_;refine WT.idxL hT hl1 Z Z Z Z Z Z Z Z Z zo (fun x hx b1 off ro cs lx hb hp hrel=>?_);obtain rfl:lx=_:=hrel;refine zB4 ?_;refine AW.cond Z (fun hc=>?_) (fun hc=>?_)
  ·refine zB4 ?_;refine AW.ret ⟨_,[],⟨_,_,rfl,rfl,rfl⟩,List.Sublist.refl _,rfl,?_⟩;have hc:x≠0:=by simpa using hc
   rw[orInt_take hP,List.drop_eq_getElem_cons (show j<l.length by omega)];have:l[j]=x:=by rw[gE zo] at hx;simpa using hx
   simp[orInt,this,hc,tupleA]
  ·refine zB4 ?_;have hc:x=0:=by simpa using hc
   exact⟨(),sM,zow,take_all hx hP hc⟩
 ·intro _ F1 hF1 hP;refine zB4 ?_;refine AW.ret ⟨_,[],⟨_,_,rfl,rfl,rfl⟩,List.Sublist.refl _,rfl,?_⟩;rw[orInt_take hP,List.drop_of_length_le zo];rfl
def cmpSym(a b:Sym):Int:=if a.term=b.term then cmpInt a.n b.n else if a.term=true then -1 else 1
theorem order_spec(F:Frz)(a b:Sym):Abs.Spec CC 184 [.agg ⟨[.bool a.term,.int .i64 a.n]⟩,.agg ⟨[.bool b.term,.int .i64 b.n]⟩] F [] fun _ v o=>o=[]∧v=.int .i64 (cmpSym a b):=by
 refine Abs.Spec.fn (n:=17) Tryz.func184 rfl rfl fun own=>?_;refine AW.seq (AW.reg ?_);refine WT.boxT Z Z Z Z Z Z (fun i1 hi1=>?_);refine WT.boxT Z Z Z Z Z Z (fun i2 hi2=>?_);refine zB4 ?_;refine AW.cond Z (fun hc=>?_) (fun hc=>?_)
 ·have hc:a.term≠b.term:=by simpa using hc
  refine zB4 ?_;refine AW.cond Z (fun hc2=>?_) (fun hc2=>?_)
  ·refine zB4 ?_;refine AW.ret ⟨_,[],⟨_,_,rfl,rfl,rfl⟩,zsb,rfl,?_⟩;rw[cmpSym,if_neg hc,if_pos hc2];rfl
  ·refine zB4 ?_;refine AW.ret ⟨_,[],⟨_,_,rfl,rfl,rfl⟩,zsb,rfl,?_⟩;rw[cmpSym,if_neg hc,if_neg (by simp[hc2])];rfl
 ·have hc:a.term=b.term:=by simpa using hc
  refine zB4 ?_;refine WT.callV Tryz.func124 Z Z Z Z Z Z (compare_spec _ _ _) (fun v hv=>?_);subst hv;refine zB4 ?_;refine AW.ret ⟨_,[],⟨_,_,rfl,rfl,rfl⟩,zsb,rfl,?_⟩;simp[cmpSym,hc,tupleA]
def cmpSyms:List Sym→List Sym→Int
 | [],[]=>0
 | [],_::_=>-1
 | _::_,[]=>1
 | a::l,b::m=>if cmpSym a b=0 then cmpSyms l m else cmpSym a b
theorem cmpSyms_take:∀(j:Nat) (l m:List Sym),j≤l.length→j≤m.length→(∀i (h1:i<l.length) (h2:i<m.length),i<j→cmpSym l[i] m[i]=0)→cmpSyms l m=cmpSyms (l.drop j) (m.drop j)
 | 0,l,m,_,_,_=>by simp
 | j+1,[],m,h,_,_=>by simp at h
 | j+1,_::_,[],_,h,_=>by simp at h
 | j+1,a::l,b::m,h1,h2,h=>by
  have h0:=h 0 (by simp) (by simp) zo;simp only[List.getElem_cons_zero] at h0;simp only[cmpSyms,h0,if_true,List.drop_succ_cons];exact cmpSyms_take j l m (by simpa using h1) (by simpa using h2) (fun i h3 h4 h5=>h (i+1) (by simpa using h3) (by simpa using h4) zo)
theorem compareFunc_spec(F:Frz){a b:Option Addr}{m n c d:Nat}{xs ys:List Sym}(hx:Arr tSym F a m c xs)(hy:Arr tSym F b n d ys)(hm:m≤1000000)(hn:n≤1000000) :
  Abs.Spec CC 183 [.slice a m c,.slice b n d,.func (.func 184) ⟨[]⟩ ⟨[]⟩] F [] fun _ v o=>o=[]∧v=.int .i64 (cmpSyms xs ys):=by
 refine Abs.Spec.fn (n:=39) Tryz.func183 rfl rfl fun own=>?_;have hxlen:=hx.len;have hylen:=hy.len;refine zB4 ?_;refine AW.range (S:=Unit) (fun _=>[]) (fun _=>_) (fun j _ _=>j≤n∧∀i (h1:i<xs.length) (h2:i<ys.length),i<j→cmpSym xs[i] ys[i]=0) m () Z Z Z Z Z Z Z Z Z zo Z Z (fun _=>rfl) (fun _=>rfl) sM oR ⟨by omega,by omega⟩ ?_ ?_
 ·intro j _ F1 hF1 hj hP;obtain⟨hjn,hP⟩:=hP;have hx1:=hx.mono hF1;have hy1:=hy.mono hF1;refine zB4 ?_;refine WT.idxL hT hx1 Z Z Z Z Z Z Z Z Z zo (fun x hxj b1 off ro cs lx hb hp hrel=>?_);obtain rfl:lx=_:=hrel;refine zB4 ?_;refine WT.allocT hT Z Z Z Z Z Z (fun i1 hi1=>?_);refine zB4 ?_;refine AW.cond Z (fun hc=>?_) (fun hc=>?_)
  ·have hc:n≤j:=by simp at hc;omega
   refine zB4 ?_;refine AW.ret ⟨_,[],⟨_,_,rfl,rfl,rfl⟩,zsb,rfl,?_⟩;rw[cmpSyms_take j xs ys zo zo hP,List.drop_of_length_le (show ys.length≤j by omega),List.drop_eq_getElem_cons (show j<xs.length by omega)];rfl
  ·have hc:j<n:=by simp at hc;omega
   refine zB4 ?_;refine WT.idxL hT hy1 Z Z Z Z Z Z Z Z Z zo (fun y hyj b2 off2 ro2 cs2 ly hb2 hp2 hrel2=>?_);obtain rfl:ly=_:=hrel2;refine zB4 ?_;refine WT.allocT hT Z Z Z Z Z Z (fun i2 hi2=>?_);refine zB4 ?_;refine WT.callC Tryz.func184 Z Z Z Z Z Z Z Z (order_spec _ x y) (fun v hv=>?_);subst hv;have ex:xs[j]'zo=x:=by rw[gE zo] at hxj;simpa using hxj
   have ey:ys[j]'zo=y:=by rw[gE zo] at hyj;simpa using hyj
   refine zB4 ?_;refine AW.cond Z (fun hc2=>?_) (fun hc2=>?_)
   ·have hc2:cmpSym x y≠0:=by simpa using hc2
    refine zB4 ?_;refine AW.ret ⟨_,[],⟨_,_,rfl,rfl,rfl⟩,zsb,rfl,?_⟩;rw[cmpSyms_take j xs ys zo zo hP,List.drop_eq_getElem_cons (show j<xs.length by omega),List.drop_eq_getElem_cons (show j<ys.length by omega)];simp[cmpSyms,ex,ey,hc2,tupleA]
   ·have hc2:cmpSym x y=0:=by simpa using hc2
    refine zB4 ?_;refine⟨(),sM,zow,by omega,fun i h1 h2 h3=>?_⟩;rcases Nat.lt_or_ge i j with h4 | h4
    ·exact hP i h1 h2 h4
    ·have:i=j:=by omega
     subst this;rw[ex,ey];exact hc2
 ·intro _ F1 hF1 hP;obtain⟨hjn,hP⟩:=hP;refine zB4 ?_;have e:=cmpSyms_take m xs ys zo zo hP;rw[List.drop_of_length_le (show xs.length≤m by omega)] at e;refine AW.cond Z (fun hc=>?_) (fun hc=>?_)
  ·have hc:m<n:=by simp at hc;omega
   refine zB4 ?_;refine AW.ret ⟨_,[],⟨_,_,rfl,rfl,rfl⟩,zsb,rfl,?_⟩;rw[e,List.drop_eq_getElem_cons (show m<ys.length by omega)];rfl
  ·have hc:m=n:=by simp at hc;omega
   refine zB4 ?_;refine AW.ret ⟨_,[],⟨_,_,rfl,rfl,rfl⟩,zsb,rfl,?_⟩;rw[e,List.drop_of_length_le (show ys.length≤m by omega)];rfl
def cmpRule(a b:Rule):Int:=orInt [cmpInt a.left b.left,cmpSyms a.right b.right]
theorem cmpInt_zero{x y:Int}:cmpInt x y=0↔x=y:=by unfold cmpInt;split<;>(try split)<;>omega
theorem cmpSym_zero{a b:Sym}:cmpSym a b=0↔a=b:=by
 obtain⟨s,n⟩:=a;obtain⟨t,m⟩:=b;unfold cmpSym;simp only[Sym.mk.injEq];by_cases h:s=t
 ·simp[h,cmpInt_zero];omega
 ·simp only[h,if_false,false_and,iff_false];split<;>decide
theorem cmpSyms_zero:∀(l m:List Sym),cmpSyms l m=0↔l=m
 | [],[]=>by simp[cmpSyms]
 | [],_::_=>by simp[cmpSyms]
 | _::_,[]=>by simp[cmpSyms]
 | a::l,b::m=>by
  simp only[cmpSyms,List.cons.injEq];by_cases h:cmpSym a b=0
  ·simp only[h,if_true,cmpSyms_zero l m];simp[cmpSym_zero.1 h]
  ·rw[if_neg h];constructor
   ·intro h2;exact absurd h2 h
   ·rintro⟨h2,_⟩;exact absurd (cmpSym_zero.2 h2) h
theorem cmpRule_zero{a b:Rule}:cmpRule a b=0↔a=b:=by
 obtain⟨x,l⟩:=a;obtain⟨y,m⟩:=b;simp only[cmpRule,orInt,Rule.mk.injEq];by_cases h:cmpInt x y=0
 ·simp only[h,if_true];have h3:=cmpInt_zero.1 h;have:x=y:=by omega
  simp only[this,true_and];have h2:=cmpSyms_zero l m;split
  ·rename_i h4;simp[h2.1 h4]
  ·rename_i h4;constructor
   ·intro h5;exact absurd h5 h4
   ·intro h5;exact absurd (h2.2 h5) h4
 ·rw[if_neg h];constructor
  ·intro h2;exact absurd h2 h
  ·rintro⟨h2,_⟩;exact absurd (cmpInt_zero.2 (by rw[h2])) h
theorem compareRule_spec(F:Frz)(x y:Rule){a b:Option Addr}{m n c d:Nat}(hx:Arr tSym F a m c x.right)(hy:Arr tSym F b n d y.right)(hm:m≤1000000)(hn:n≤1000000) :
  Abs.Spec CC 140 [.agg ⟨[.int .i64 x.left,.slice a m c]⟩,.agg ⟨[.int .i64 y.left,.slice b n d]⟩] F [] fun _ v o=>o=[]∧v=.int .i64 (cmpRule x y):=by
 refine Abs.Spec.fn (n:=17) Tryz.func140 rfl rfl fun own=>?_;refine AW.seq (AW.reg ?_);refine WT.boxT Z Z Z Z Z Z (fun i1 hi1=>?_);refine WT.boxT Z Z Z Z Z Z (fun i2 hi2=>?_);refine zB4 ?_;refine AW.draw (ps:=[(6,4),(8,4)]) Z Z ?_;refine zB4 ?_;refine WT.callV Tryz.func124 Z Z Z Z Z Z (compare_spec _ _ _) (fun v hv=>?_);subst hv;refine zB4 ?_;refine WT.callV Tryz.func183 Z Z Z Z Z Z (compareFunc_spec _ hx hy hm hn) (fun v hv=>?_);subst hv;refine WT.buildT hT Z Z Z Z Z Z Z Z Z Z Z Z Z Z (fun i9 hi9=>?_)
 refine WT.callLend 0 Tryz.func123 Z Z Z Z Z Z Z (fun G hG hBG=>or_spec G (l:=[cmpInt x.left y.left,cmpSyms x.right y.right]) (Bld.frozen (F:=F) (B:=[(i9,.cells false [.int .i64 (cmpInt x.left y.left),.int .i64 (cmpSyms x.right y.right)])]) ⟨rfl,.inr ⟨i9,_,rfl,rfl,rfl,Cells.cons (l:=[_]) Z (Cells.single (x:=cmpSyms x.right y.right) rfl),by decide⟩⟩ hG hBG) (by decide)) (fun v hv=>?_);subst hv;refine zB4 ?_;refine⟨zrC,?_⟩;exact AW.ret ⟨_,[],⟨_,_,rfl,rfl,rfl⟩,zsb,rfl,rfl⟩
def idxOf{α:Type}(p:α→Bool):List α→Int
 | []=>-1
 | x::l=>if p x=true then 0 else if idxOf p l=-1 then -1 else idxOf p l+1
theorem idxOf_ge{α:Type}(p:α→Bool):∀l:List α,-1≤idxOf p l
 | []=>by simp[idxOf]
 | x::l=>by have:=idxOf_ge p l;simp only[idxOf];split<;>(try split)<;>omega
theorem idxOf_take{α:Type}{p:α→Bool}:∀{l:List α} {j:Nat},j≤l.length→(∀y∈l.take j,p y=false)→idxOf p l=if idxOf p (l.drop j)=-1 then -1 else idxOf p (l.drop j)+j
 | l,0,_,_=>by simp
 | [],j+1,h,_=>by simp at h
 | x::l,j+1,h,h2=>by
  have hx:p x=false:=h2 x (by simp);have ih:=@idxOf_take α p l j (by simpa using h) (fun y hy=>h2 y (by simp[hy]));have:=idxOf_ge p (l.drop j);simp only[idxOf,hx,List.drop_succ_cons];rw[ih];by_cases h3:idxOf p (l.drop j)=-1
  ·simp[h3]
  ·simp only[h3,if_false];rw[if_neg (by simp),if_neg zo];omega
theorem idxOf_nonneg'{α:Type}{p:α→Bool}:∀{l:List α},0≤idxOf p l↔l.any p=true
 | []=>by simp[idxOf]
 | x::l=>by
  have ih:=@idxOf_nonneg' α p l;have:=idxOf_ge p l;simp only[idxOf,List.any_cons,Bool.or_eq_true,←ih];by_cases hx:p x=true
  ·simp[hx]
  ·rw[if_neg hx];constructor
   ·intro h;right;split at h<;>omega
   ·intro h;rcases h with h | h
    ·exact absurd h hx
    ·rw[if_neg zo];omega
theorem idxOf_nonneg{α:Type}{p:α→Bool}{l:List α}:decide (idxOf p l≥0)=l.any p:=by
 rw[Bool.eq_iff_iff,decide_eq_true_eq];exact idxOf_nonneg'
theorem idxOf_at{α:Type}{p:α→Bool}{l:List α}{j:Nat}{x:α}(hx:l[j]?=some x)(hp:p x=true)(h:∀y∈l.take j,p y=false):idxOf p l=j:=by
 have hj:j<l.length:=(gS hx).1;rw[idxOf_take zo h,List.drop_eq_getElem_cons hj];have:l[j]=x:=by rw[gE hj] at hx;simpa using hx
 simp[idxOf,this,hp]
theorem idxOf_none{α:Type}{p:α→Bool}{l:List α}(h:∀y∈l,p y=false):idxOf p l=-1:=by
 rw[idxOf_take (j:=l.length) (Nat.le_refl _) (by simpa using h)];simp[idxOf]
theorem symIndex_spec(F:Frz){a:Option Addr}{m c:Nat}{xs:List Sym}(hx:Arr tSym F a m c xs)(hm:m≤1000000)(p:Sym→Bool){g:Nat}{fn:Func}{first capt:List Value}(hg:CC.func g=some fn)(hgb:fn.body.isSome=true)
  (hp:∀x∈xs,  Abs.Spec CC g (first++[.agg ⟨[.bool x.term,.int .i64 x.n]⟩]++capt) F [] fun _ v o=>o=[]∧v=.bool (p x)) :
  Abs.Spec CC 109 [.slice a m c,.func (.func g) ⟨first⟩ ⟨capt⟩] F [] fun _ v o=>o=[]∧v=.int .i64 (idxOf p xs):=by
 refine Abs.Spec.fn (n:=19) Tryz.func109 rfl rfl fun own=>?_;have hxlen:=hx.len;refine zB4 ?_;refine AW.range (S:=Unit) (fun _=>[]) (fun _=>_) (fun j _ G=>G=F∧∀y∈xs.take j,p y=false) m () Z Z Z Z Z Z Z Z Z zo Z Z (fun _=>rfl) (fun _=>rfl) sM oR ⟨rfl,by simp⟩ ?_ ?_
 ·intro j _ F1 hF1 hj hP;obtain⟨rfl,hP⟩:=hP;refine zB4 ?_;refine WT.idxL hT hx Z Z Z Z Z Z Z Z Z zo (fun x hxj b1 off ro cs lx hb hp1 hrel=>?_);obtain rfl:lx=_:=hrel;refine zB4 ?_;refine WT.callC hg hgb Z Z Z Z Z Z Z (hp x (gM hxj) ) (fun v hv=>?_);subst hv;refine zB4 ?_;refine AW.cond Z (fun hc=>?_) (fun hc=>?_)
  ·refine zB4 ?_;refine AW.ret ⟨_,[],⟨_,_,rfl,rfl,rfl⟩,zsb,rfl,?_⟩;rw[idxOf_at hxj hc hP];rfl
  ·refine zB4 ?_;exact⟨(),sM,zow,rfl,take_all hxj hP hc⟩
 ·intro _ F1 hF1 hP;obtain⟨rfl,hP⟩:=hP;rw[List.take_of_length_le zo] at hP;refine zB4 ?_;refine AW.ret ⟨_,[],⟨_,_,rfl,rfl,rfl⟩,zsb,rfl,?_⟩;rw[idxOf_none hP];rfl
theorem symAny_spec(F:Frz){a:Option Addr}{m c:Nat}{xs:List Sym}(hx:Arr tSym F a m c xs)(hm:m≤1000000)(p:Sym→Bool){g:Nat}{fn:Func}{first capt:List Value}(hg:CC.func g=some fn)(hgb:fn.body.isSome=true)
  (hp:∀x∈xs,  Abs.Spec CC g (first++[.agg ⟨[.bool x.term,.int .i64 x.n]⟩]++capt) F [] fun _ v o=>o=[]∧v=.bool (p x)) :
  Abs.Spec CC 55 [.slice a m c,.func (.func g) ⟨first⟩ ⟨capt⟩] F [] fun _ v o=>o=[]∧v=.bool (xs.any p):=by
 refine Abs.Spec.fn (n:=9) Tryz.func55 rfl rfl fun own=>?_;refine zB4 ?_;refine WT.callV Tryz.func109 Z Z Z Z Z Z (symIndex_spec _ hx hm p hg hgb hp) (fun v hv=>?_);subst hv;refine zB4 ?_;refine AW.ret ⟨_,[],⟨_,_,rfl,rfl,rfl⟩,zsb,rfl,?_⟩;rw[←idxOf_nonneg];rfl
theorem ruleIndex_spec(F:Frz){a:Option Addr}{m c:Nat}{xs:List Rule}(hx:Arr tRule F a m c xs)(hm:m≤1000000)(p:Rule→Bool){g:Nat}{fn:Func}{first capt:List Value}(hg:CC.func g=some fn)(hgb:fn.body.isSome=true)
  (hp:∀x∈xs,∀b n d,Arr tSym F b n d x.right→Abs.Spec CC g (first++[.agg ⟨[.int .i64 x.left,.slice b n d]⟩]++capt) F [] fun _ v o=>o=[]∧v=.bool (p x)) :
  Abs.Spec CC 108 [.slice a m c,.func (.func g) ⟨first⟩ ⟨capt⟩] F [] fun _ v o=>o=[]∧v=.int .i64 (idxOf p xs):=by
 refine Abs.Spec.fn (n:=19) Tryz.func108 rfl rfl fun own=>?_;have hxlen:=hx.len;refine zB4 ?_;refine AW.range (S:=Unit) (fun _=>[]) (fun _=>_) (fun j _ G=>G=F∧∀y∈xs.take j,p y=false) m () Z Z Z Z Z Z Z Z Z zo Z Z (fun _=>rfl) (fun _=>rfl) sM oR ⟨rfl,by simp⟩ ?_ ?_
 ·intro j _ F1 hF1 hj hP;obtain⟨rfl,hP⟩:=hP;refine zB4 ?_;refine WT.idxL hT hx Z Z Z Z Z Z Z Z Z zo (fun x hxj b1 off ro cs lx hb hp1 hrel=>?_);obtain⟨b2,n2,d2,rfl,hx2⟩:=hrel;refine zB4 ?_;refine WT.callC hg hgb Z Z Z Z Z Z Z (hp x (gM hxj) _ _ _ hx2) (fun v hv=>?_);subst hv;refine zB4 ?_;refine AW.cond Z (fun hc=>?_) (fun hc=>?_)
  ·refine zB4 ?_;refine AW.ret ⟨_,[],⟨_,_,rfl,rfl,rfl⟩,zsb,rfl,?_⟩;rw[idxOf_at hxj hc hP];rfl
  ·refine zB4 ?_;exact⟨(),sM,zow,rfl,take_all hxj hP hc⟩
 ·intro _ F1 hF1 hP;obtain⟨rfl,hP⟩:=hP;rw[List.take_of_length_le zo] at hP;refine zB4 ?_;refine AW.ret ⟨_,[],⟨_,_,rfl,rfl,rfl⟩,zsb,rfl,?_⟩;rw[idxOf_none hP];rfl
theorem ruleAny_spec(F:Frz){a:Option Addr}{m c:Nat}{xs:List Rule}(hx:Arr tRule F a m c xs)(hm:m≤1000000)(p:Rule→Bool){g:Nat}{fn:Func}{first capt:List Value}(hg:CC.func g=some fn)(hgb:fn.body.isSome=true)
  (hp:∀x∈xs,∀b n d,Arr tSym F b n d x.right→Abs.Spec CC g (first++[.agg ⟨[.int .i64 x.left,.slice b n d]⟩]++capt) F [] fun _ v o=>o=[]∧v=.bool (p x)) :
  Abs.Spec CC 138 [.slice a m c,.func (.func g) ⟨first⟩ ⟨capt⟩] F [] fun _ v o=>o=[]∧v=.bool (xs.any p):=by
 refine Abs.Spec.fn (n:=9) Tryz.func138 rfl rfl fun own=>?_;refine zB4 ?_;refine WT.callV Tryz.func108 Z Z Z Z Z Z (ruleIndex_spec _ hx hm p hg hgb hp) (fun v hv=>?_);subst hv;refine zB4 ?_;refine AW.ret ⟨_,[],⟨_,_,rfl,rfl,rfl⟩,zsb,rfl,?_⟩;rw[←idxOf_nonneg];rfl
def hasSym(g:Gram)(y:Sym):Bool:=if y.term=true then decide (y.n<g.terms) else decide (y.n<g.nons)
theorem has2_spec(F:Frz)(g:Gram){a:Option Addr}{m c:Nat}(y:Sym) :
  Abs.Spec CC 137 [.agg ⟨[.int .i64 g.terms,.int .i64 g.nons,.int .i64 g.start,.slice a m c]⟩,.agg ⟨[.bool y.term,.int .i64 y.n]⟩] F [] fun _ v o=>o=[]∧v=.bool (hasSym g y):=by
 refine Abs.Spec.fn (n:=31) Tryz.func137 rfl rfl fun own=>?_;refine AW.seq (AW.reg ?_);refine WT.boxT Z Z Z Z Z Z (fun i1 hi1=>?_);refine WT.boxT Z Z Z Z Z Z (fun i2 hi2=>?_);refine zB4 ?_;have e1:decide ((y.n:Int)≥0)=true:=by simp
 refine WT.split 8 Z (fun _=>?_) (fun h=>(by rw[e1] at h;cases h));have e2:∀m:Nat,decide ((y.n:Int)<(m:Int))=decide (y.n<m):=fun m=>by rw[decide_eq_decide];omega
 cases ht:y.term with
 | true=>
  refine zB4 ?_;refine WT.split 18 Z (fun h=>?_) (fun h=>?_)
  ·refine zB4 ?_;refine AW.ret ⟨_,[],⟨_,_,rfl,rfl,rfl⟩,zsb,rfl,?_⟩;rw[e2] at h;simp only[hasSym,ht,if_true,h];rfl
  ·refine zB4 ?_;refine AW.ret ⟨_,[],⟨_,_,rfl,rfl,rfl⟩,zsb,rfl,?_⟩;rw[e2] at h;simp only[hasSym,ht,if_true,h];rfl
 | false=>
  refine zB4 ?_;refine AW.ret ⟨_,[],⟨_,_,rfl,rfl,rfl⟩,zsb,rfl,?_⟩;simp only[hasSym,ht,←e2];rfl
def gramCells(g:Gram)(a:Option Addr)(m c:Nat):List Value:=[.int .i64 g.terms,.int .i64 g.nons,.int .i64 g.start,.slice a m c]
theorem check1_spec(F:Frz)(g:Gram){a:Option Addr}{m c:Nat}{i:Nat}{ro:Bool}(hi:F i=some (.cells ro (gramCells g a m c)))(y:Sym) :
  Abs.Spec CC 136 [.agg ⟨[.bool y.term,.int .i64 y.n]⟩,.pointer (some ⟨i,0,none⟩)] F [] fun _ v o=>o=[]∧v=.bool (!hasSym g y):=by
 unfold gramCells at hi;refine Abs.Spec.fn (n:=8) Tryz.func136 rfl rfl fun own=>?_;refine AW.seq (AW.reg ?_);refine WT.boxT Z Z Z Z Z Z (fun i2 hi2=>?_);refine zB4 ?_;refine WT.callV Tryz.func137 Z Z Z Z Z Z (has2_spec _ g y) (fun v hv=>?_);subst hv;refine zB4 ?_;exact AW.ret ⟨_,[],⟨_,_,rfl,rfl,rfl⟩,zsb,rfl,rfl⟩
theorem check2_spec(F:Frz)(r:Rule){a:Option Addr}{m c:Nat}{i:Nat}{ro:Bool}(hi:F i=some (.cells ro [.int .i64 r.left,.slice a m c]))(hr:Arr tSym F a m c r.right)(hm:m≤1000000)(x:Rule)
  {b:Option Addr} {n d:Nat} (hx:Arr tSym F b n d x.right) (hn:n≤1000000) :
  Abs.Spec CC 139 [.agg ⟨[.int .i64 x.left,.slice b n d]⟩,.pointer (some ⟨i,0,none⟩)] F [] fun _ v o=>o=[]∧v=.bool (decide (x=r)):=by
 refine Abs.Spec.fn (n:=8) Tryz.func139 rfl rfl fun own=>?_;refine AW.seq (AW.reg ?_);refine WT.boxT Z Z Z Z Z Z (fun i2 hi2=>?_);refine zB4 ?_;refine WT.callV Tryz.func140 Z Z Z Z Z Z (compareRule_spec _ x r hx hr hn hm) (fun v hv=>?_);subst hv;refine zB4 ?_;refine AW.ret ⟨_,[],⟨_,_,rfl,rfl,rfl⟩,zsb,rfl,?_⟩;have:(cmpRule x r==0)=decide (x=r):=by
  rw[Bool.eq_iff_iff];simp[cmpRule_zero]
 rw[←this];rfl
def ruleErr(g:Gram)(pre:List Rule)(r:Rule):Nat:=
 if g.nons≤r.left then 3 else if 4<r.right.length then 2 else if r.right.any (fun y=>!hasSym g y)=true then 3 else if pre.any (fun x=>decide (x=r))=true then 6 else 0
def rulesErr(g:Gram):List Rule→List Rule→Nat
 | _,[]=>0
 | pre,r::l=>if ruleErr g pre r=0 then rulesErr g (pre++[r]) l else ruleErr g pre r
structure InRange(g:Gram):Prop where
 terms:1≤g.terms∧g.terms≤8
 nons:1≤g.nons∧g.nons≤10
 start:g.start<g.nons
 rules:g.rules.length≤32
 right:∀r∈g.rules,r.right.length≤1000000
theorem rulesErr_split(g:Gram):∀(j:Nat) (pre l:List Rule),j≤l.length→(∀i (h:i<l.length),i<j→ruleErr g (pre++l.take i) l[i]=0)→rulesErr g pre l=rulesErr g (pre++l.take j) (l.drop j)
 | 0,pre,l,_,_=>by simp
 | j+1,pre,[],h,_=>by simp at h
 | j+1,pre,r::l,h,h2=>by
  have h0:=h2 0 (by simp) zo;simp only[List.take_zero,List.append_nil,List.getElem_cons_zero] at h0;simp only[rulesErr,h0,if_true]
  rw[rulesErr_split g j (pre++[r]) l (by simpa using h) (fun i h3 h4=>by
   have:=h2 (i+1) (by simpa using h3) zo;simpa using this)]
  simp
theorem check_spec(F:Frz)(g:Gram)(hg:InRange g){a:Option Addr}{m c:Nat}(hr:Arr tRule F a m c g.rules) :
  Abs.Spec CC 85 [.agg ⟨gramCells g a m c⟩] F [] fun _ v o=>o=[]∧v=.int .i64 (rulesErr g [] g.rules:Nat):=by
 unfold gramCells;have hlen:=hr.len;obtain⟨⟨ht1,ht2⟩,⟨hn1,hn2⟩,hst,hrl,hrr⟩:=hg;refine Abs.Spec.fn (n:=76) Tryz.func85 rfl rfl fun own=>?_;refine AW.seq (AW.reg ?_);refine WT.boxT Z Z Z Z Z Z (fun i1 hi1=>?_);refine WT.freezeAll 0 Z Z (fun F1 hF1 hB1=>?_);have hi1:=hB1 i1 _ me;have hr:=hr.mono hF1;refine zB4 ?_;refine WT.split 8 Z (fun h=>(by simp at h;omega)) (fun _=>?_);refine zB4 ?_;refine WT.split 13 Z (fun h=>(by simp at h;omega)) (fun _=>?_);refine zB4 ?_;refine WT.split 18 Z (fun h=>(by simp at h;omega)) (fun _=>?_);refine zB4 ?_
 refine WT.split 23 Z (fun h=>(by simp at h;omega)) (fun _=>?_);refine zB4 ?_;refine AW.cond Z (fun h=>(by simp at h;omega)) (fun _=>?_);refine zB4 ?_;refine AW.cond Z (fun h=>(by simp at h;omega)) (fun _=>?_);refine zB4 ?_;refine AW.range (S:=Unit) (fun _=>[]) (fun _=>_) (fun j _ _=>rulesErr g [] g.rules=rulesErr g (g.rules.take j) (g.rules.drop j)) m () Z Z Z Z Z Z Z Z Z zo Z Z (fun _=>rfl) (fun _=>rfl) sM oR (by simp) ?_ ?_
 ·intro j _ F2 hF2 hj hP;have hr2:=hr.mono hF2;refine zB4 ?_;refine WT.idxL hT hr2 Z Z Z Z Z Z Z Z Z zo (fun x hxj b1 off ro cs lx hb hp1 hrel=>?_);obtain⟨b2,n2,d2,rfl,hx2⟩:=hrel;have hx2len:=hx2.len;have hxr:=hrr x (gM hxj);have hxj':g.rules.drop j=x::g.rules.drop (j+1):=by
   rw[List.drop_eq_getElem_cons (show j<g.rules.length by omega)];rw[gE zo] at hxj;have:=Option.some.inj hxj;rw[this]
  have next:ruleErr g (g.rules.take j) x=0→rulesErr g [] g.rules=rulesErr g (g.rules.take (j+1)) (g.rules.drop (j+1)):=by
   intro h0;rw[hP,hxj'];simp only[rulesErr,h0,if_true];rw[List.take_add_one,hxj];rfl
  have stop:∀e,e≠0→ruleErr g (g.rules.take j) x=e→rulesErr g [] g.rules=e:=by
   intro e h1 h2;rw[hP,hxj'];simp only[rulesErr,h2,h1,if_false]
  refine zB4 ?_;refine WT.allocT hT Z Z Z Z Z Z (fun i4 hi4=>?_);refine zB4 ?_;refine AW.freezeAll 0 Z Z (fun F3 hF3 hB3=>?_);have hi4:=hB3 i4 _ me;have hi1:=hF3 _ _ (hF2 _ _ hi1);have hr3:=hr2.mono hF3;have hx3:=hx2.mono hF3;refine AW.block ?_;refine zB4 ?_;refine AW.cond Z (fun h=>?_) (fun h=>?_)
  ·have h:g.nons≤x.left:=by simp at h;omega
   refine zB4 ?_;refine AW.ret ⟨_,[],⟨_,_,rfl,rfl,rfl⟩,zsb,rfl,?_⟩;rw[stop 3 (by decide) (by simp[ruleErr,h])];rfl
  ·have h1:¬g.nons≤x.left:=by simp at h;omega
   refine zB4 ?_;refine AW.cond Z (fun h=>?_) (fun h=>?_)
   ·have h2:4<x.right.length:=by simp at h;omega
    refine zB4 ?_;refine AW.ret ⟨_,[],⟨_,_,rfl,rfl,rfl⟩,zsb,rfl,?_⟩;rw[stop 2 (by decide) (by simp[ruleErr,h1,h2])];rfl
   ·have h2:¬4<x.right.length:=by simp at h;omega
    refine zB4 ?_;refine WT.callV Tryz.func55 Z Z Z Z Z Z (symAny_spec _ hx3 zo (fun y=>!hasSym g y) Tryz.func136 Z (fun y _=>check1_spec _ g hi1 y)) (fun v hv=>?_);subst hv;refine zB4 ?_;refine AW.cond Z (fun h=>?_) (fun h3=>?_)
    ·refine zB4 ?_;refine AW.ret ⟨_,[],⟨_,_,rfl,rfl,rfl⟩,zsb,rfl,?_⟩;rw[stop 3 (by decide) (by rw[ruleErr,if_neg h1,if_neg h2,if_pos h])];rfl
    ·have h3':¬(x.right.any fun y=>!hasSym g y)=true:=by rw[h3];decide
     refine zB4 ?_;obtain⟨a',c',hs,ha'⟩:=hr3.slice (C:=CC) (lo:=0) (hi:=j) zo zo hT (t:=23) Z Z Z none (some (.int .i64 (j:Nat))) rfl rfl;refine WT.slice Z Z Z Z Z Z Z Z hs ?_;refine zB4 ?_;refine WT.callV Tryz.func138 Z Z Z Z Z Z (ruleAny_spec _ ha' zo (fun y=>decide (y=x)) Tryz.func139 Z (fun y hy b n d hb=>check2_spec _ x hi4 hx3 zo y hb ?_)) (fun v hv=>?_)
     ·rw[hb.len];exact hrr y (by simpa using List.mem_of_mem_take hy)
     subst hv;refine zB4 ?_;rw[List.drop_zero];refine AW.cond Z (fun h=>?_) (fun h4=>?_)
     ·refine zB4 ?_;refine AW.ret ⟨_,[],⟨_,_,rfl,rfl,rfl⟩,zsb,rfl,?_⟩;rw[stop 6 (by decide) (by rw[ruleErr,if_neg h1,if_neg h2,if_neg h3',if_pos h])];rfl
     ·have h4':¬((g.rules.take j).any fun y=>decide (y=x))=true:=by rw[h4];decide
      refine zB4 ?_;exact⟨(),sM,zow,next (by rw[ruleErr,if_neg h1,if_neg h2,if_neg h3',if_neg h4'])⟩
 ·intro _ F2 hF2 hP;refine zB4 ?_;refine AW.ret ⟨_,[],⟨_,_,rfl,rfl,rfl⟩,zsb,rfl,?_⟩;rw[hP,List.drop_of_length_le zo];rfl
structure Valid(g:Gram):Prop where
 range:InRange g
 right:∀r∈g.rules,r.left<g.nons∧r.right.length≤4∧∀y∈r.right,SymOk g.terms g.nons y
 nodup:g.rules.Nodup
theorem Valid.no_err{g:Gram}(h:Valid g):rulesErr g [] g.rules=0:=by
 rw[rulesErr_split g g.rules.length [] g.rules (Nat.le_refl _) (fun i h1 _=>?_)]
 ·simp[rulesErr]
 ·obtain⟨h2,h3,h4⟩:=h.right g.rules[i] (List.getElem_mem h1);rw[ruleErr,if_neg zo,if_neg zo,if_neg,if_neg]
  ·intro h5;simp only[List.nil_append,List.any_eq_true,decide_eq_true_eq] at h5;obtain⟨x,hx,rfl⟩:=h5;have hn:=h.nodup;rw[←List.take_append_drop i g.rules,List.nodup_append] at hn;refine hn.2.2 _ hx _ ?_ rfl;rw[List.drop_eq_getElem_cons h1];exact List.mem_cons_self ..
  ·intro h5;simp only[List.any_eq_true,Bool.not_eq_true'] at h5;obtain⟨y,hy,hb⟩:=h5;have:=h4 y hy;unfold SymOk at this;unfold hasSym at hb;split at this<;>rename_i ht<;>simp[ht,this] at hb
theorem Small.valid{g:Gram}(h:Small g):Valid g where
 range:=⟨by have:=h.terms;omega,by have:=h.nons;omega,h.start,by have:=h.rules;omega,fun r hr=>by have:=(h.ok r hr).2.1;omega⟩
 right:=fun r hr=>⟨(h.ok r hr).1,by have:=(h.ok r hr).2.1;omega,(h.ok r hr).2.2⟩
 nodup:=h.nodup
def Laid(F:Frz):Prop:=∀p∈tabs,F p.1=some p.2
theorem Laid.mono{F G:Frz}(h:Laid F)(hF:Frz.le F G):Laid G:=fun p hp=>hF _ _ (h p hp)
def Step(w:List Nat)(E:List (List Nat))(s:Sym)(i j:Nat):Prop:=
 if s.term=true then w[i]?=some s.n∧j=i+1 else ∃row x,E[s.n]?=some row∧row[i]?=some x∧x.testBit j=true
def Reads(w:List Nat)(E:List (List Nat)):List Sym→Nat→Nat→Prop
 | [],i,j=>i=j
 | s::l,i,j=>∃m,Step w E s i m∧Reads w E l m j
structure EndsOk(n len:Nat)(E:List (List Nat)):Prop where
 size:E.length=n
 row:∀r∈E,r.length=len+1
 bit:∀r∈E,∀x∈r,x<2 ^ (len+1)
mutual
inductive Der(g:Gram)(w:List Nat):Sym→Nat→Nat→Prop
 | term {t i:Nat}:w[i]?=some t→Der g w ⟨true,t⟩ i (i+1)
 | non {r:Rule} {i j:Nat}:r∈g.rules→Ders g w r.right i j→Der g w ⟨false,r.left⟩ i j
inductive Ders(g:Gram)(w:List Nat):List Sym→Nat→Nat→Prop
 | nil {i:Nat}:Ders g w [] i i
 | cons {s:Sym} {l:List Sym} {i m j:Nat}:Der g w s i m→Ders g w l m j→Ders g w (s::l) i j
end
theorem der_term{g:Gram}{w:List Nat}{t i j:Nat}:Der g w ⟨true,t⟩ i j↔w[i]?=some t∧j=i+1:=by
 constructor
 ·intro h;cases h with | term h=>exact⟨h,rfl⟩
 ·rintro⟨h,rfl⟩;exact .term h
def bit(E:List (List Nat))(n i j:Nat):Prop:=∃row x,E[n]?=some row∧row[i]?=some x∧x.testBit j=true
def Sound(g:Gram)(w:List Nat)(E:List (List Nat)):Prop:=∀n i j,bit E n i j→Der g w ⟨false,n⟩ i j
def ClosedAt(w:List Nat)(E:List (List Nat))(r:Rule)(i:Nat):Prop:=∀j,Reads w E r.right i j→bit E r.left i j
def Closed(g:Gram)(w:List Nat)(E:List (List Nat)):Prop:=∀r∈g.rules,∀i,i≤w.length→ClosedAt w E r i
structure EndsOf(g:Gram)(w:List Nat)(E:List (List Nat)):Prop where
 ok:EndsOk g.nons w.length E
 iff:∀n i j,i≤w.length→(bit E n i j↔Der g w ⟨false,n⟩ i j)
theorem closed_complete{g:Gram}{w:List Nat}{E:List (List Nat)}(hE:EndsOk g.nons w.length E)(h:Closed g w E) :
  (∀{s:Sym} {i j:Nat},Der g w s i j→i≤w.length→Step w E s i j∧j≤w.length):=by
 intro s i j h1;refine Der.rec (motive_1:=fun s i j _=>i≤w.length→Step w E s i j∧j≤w.length) (motive_2:=fun l i j _=>i≤w.length→Reads w E l i j∧j≤w.length) ?_ ?_ ?_ ?_ h1
 ·intro t i h2 h3;have:=(gS h2).1;exact⟨by rw[Step,if_pos rfl];exact⟨h2,rfl⟩,by omega⟩
 ·intro r i j hr h2 ih hi;obtain⟨h3,h4⟩:=ih hi;exact⟨by rw[Step,if_neg (by simp)];exact h r hr i hi j h3,h4⟩
 ·intro i hi;exact⟨rfl,hi⟩
 ·intro s l i m j h2 h3 ih1 ih2 hi;obtain⟨h4,h5⟩:=ih1 hi;obtain⟨h6,h7⟩:=ih2 h5;exact⟨⟨m,h4,h6⟩,h7⟩
theorem EndsOf.of{g:Gram}{w:List Nat}{E:List (List Nat)}(hE:EndsOk g.nons w.length E)(h1:Sound g w E)(h2:Closed g w E):EndsOf g w E:=
 ⟨hE,fun n i j hi=>⟨h1 n i j,fun h=>by
  have:=(closed_complete hE h2 h hi).1;rw[Step,if_neg (by simp)] at this;exact this⟩⟩
theorem sum_set:∀{l:List Nat} {i x y:Nat},l[i]?=some x→(l.set i y).sum+x=l.sum+y
 | [],i,x,y,h=>by simp at h
 | a::l,0,x,y,h=>by simp at h;subst h;simp;omega
 | a::l,i+1,x,y,h=>by
  have:=sum_set (l:=l) (i:=i) (x:=x) (y:=y) (by simpa using h);simp only[List.set_cons_succ,List.sum_cons];omega
theorem sum_le{b:Nat}:∀{l:List Nat},(∀x∈l,x≤b)→l.sum≤l.length*b
 | [],_=>by simp
 | a::l,h=>by
  have h1:=h a me;have h2:=sum_le (b:=b) (l:=l) (fun x hx=>h x (List.mem_cons_of_mem _ hx));simp only[List.sum_cons,List.length_cons,Nat.add_mul,Nat.one_mul];omega
def put(E:List (List Nat))(n i x:Nat):List (List Nat):=match E[n]? with
 | some row=>E.set n (row.set i x)
 | none=>E
structure ES where
 E:List (List Nat)
 bs:List (Nat×Blk)
 again:Bool
structure MS where
 k:Nat
 vs:List Value
 bs:List (Nat×Blk)
theorem cap_eq(l:Nat):(bif l==0 then 0 else 1)=if l=0 then 0 else 1:=by cases l<;>rfl
theorem shift_bit(x p:Nat):(x / 2 ^ p &&& 1)=if x.testBit p=true then 1 else 0:=by
 rw[Nat.and_one_is_mod,←Nat.shiftRight_eq_div_pow];have:=Nat.testBit_eq_decide_div_mod_eq (x:=x) (i:=p);rw[Nat.shiftRight_eq_div_pow];rw[this];simp only[decide_eq_true_eq];rcases Nat.mod_two_eq_zero_or_one (x / 2 ^ p) with h | h<;>simp[h]
noncomputable def derives(g:Gram)(w:List Nat)(n i j:Nat):Bool:=@decide (Der g w ⟨false,n⟩ i j) (Classical.propDecidable _)
structure NS where
 xs:List Nat
 a:Option Addr
 m:Nat
 c:Nat
 B:List (Nat×Blk)
def orRow(xs ys:List Bool):List Bool:=List.zipWith (fun a b=>a||b) xs ys
def orTo(j:Nat)(xs ys:List Bool):List Bool:=orRow (xs.take j) (ys.take j)++xs.drop j
theorem orTo_zero(xs ys:List Bool):orTo 0 xs ys=xs:=by simp[orTo,orRow]
theorem orTo_all{xs ys:List Bool}(h:xs.length=ys.length):orTo xs.length xs ys=orRow xs ys:=by
 unfold orTo;rw[List.take_of_length_le (Nat.le_refl _),List.take_of_length_le zo,List.drop_of_length_le (Nat.le_refl _),List.append_nil]
theorem orTo_len{j:Nat}{xs ys:List Bool}(h:xs.length=ys.length):(orTo j xs ys).length=xs.length:=by
 unfold orTo orRow;simp;omega
theorem orTo_at{j:Nat}{xs ys:List Bool}{x:Bool}(h:xs.length=ys.length)(hx:xs[j]?=some x):(orTo j xs ys)[j]?=some x:=by
 have hj:=(gS hx).1;unfold orTo orRow;rw[List.getElem?_append_right (by simp;omega)];simp;rw[←hx];congr 1;omega
theorem orTo_succ{j:Nat}{xs ys:List Bool}{x y:Bool}(h:xs.length=ys.length)(hx:xs[j]?=some x)(hy:ys[j]?=some y):orTo (j+1) xs ys=(orTo j xs ys).set j (x||y):=by
 have hj:=(gS hx).1;have hl:(orRow (xs.take j) (ys.take j)).length=j:=by unfold orRow;simp;omega
 unfold orTo;rw[List.take_add_one,List.take_add_one,hx,hy];unfold orRow;rw[List.zipWith_append (by simp;omega)];have hd:xs.drop j=x::xs.drop (j+1):=by
  rw[List.drop_eq_getElem_cons hj];rw[gE hj] at hx;rw[Option.some.inj hx]
 rw[hd];unfold orRow at hl;rw[List.set_append_right _ _ zo,hl,Nat.sub_self];simp
structure US where
 cur:List Bool
 ch:Bool
theorem union_spec(F:Frz){it:Nat}{xs ys:List Bool}{b:Option Addr}{m n c d:Nat}(hm:m=xs.length)(hy:Arr tBool F b n d ys)(hlen:xs.length=ys.length)(hn:n≤1000000) :
  Abs.Spec CC 134 [.slice (some ⟨it,0,none⟩) m c,.slice b n d] F [[(it,.cells false (xs.map cBool.cell))]] fun _ v o=>∃B',o=[B']∧B'=[(it,.cells false ((orRow xs ys).map cBool.cell))]∧v=.bool (decide (orRow xs ys≠xs)):=by
 have hylen:=hy.len;refine Abs.Spec.fn (n:=28) Tryz.func134 rfl rfl fun own=>?_;refine zB4 ?_;refine AW.range (S:=US) (fun s=>[(5,.bool s.ch)]) (fun s=>[(it,.cells false (s.cur.map cBool.cell))]::own) (fun j s G=>s.cur=orTo j xs ys∧s.ch=decide (s.cur≠xs)) n ⟨xs,false⟩ Z Z Z Z Z Z Z Z Z zo Z Z (fun _=>rfl) (fun _=>rfl) sM oR ⟨(orTo_zero xs ys).symm,by simp⟩ ?_ ?_
 ·intro j s F1 hF1 hj hP;obtain⟨hcur,hch⟩:=hP;have hy1:=hy.mono hF1;obtain⟨x,hx⟩:∃x,xs[j]?=some x:=⟨_,gE zo⟩;have hcl:s.cur.length=xs.length:=by rw[hcur];exact orTo_len hlen
  have hcx:(s.cur.map cBool.cell)[0+j*1]?=some (.bool x):=by rw[Nat.zero_add,Nat.mul_one,List.getElem?_map,hcur,orTo_at hlen hx];rfl
  refine zB4 ?_;refine WT.idxL hT hy1 Z Z Z Z Z Z Z Z Z zo (fun y hyj b1 off ro cs lx hb hp hrel=>?_);obtain rfl:lx=_:=hrel;have hnext:=orTo_succ hlen hx hyj;rw[←hcur] at hnext;have same:(x||y)=x→s.cur.set j (x||y)=s.cur:=by
   intro e;rw[e];apply List.ext_getElem?;intro i;by_cases hi:i=j
   ·subst hi;rw[List.getElem?_set_self zo,hcur,orTo_at hlen hx]
   ·rw[List.getElem?_set_ne zo]
  refine zB4 ?_;refine WT.split 16 Z (fun h=>?_) (fun h=>?_)
  ·refine zB4 ?_;refine WT.idxA (j:=j) (s:=1) hT Z Z Z Z Z Z Z Z Z zo ?_;refine WT.loadAt hT 0 Z Z Z Z Z Z me Z Z hcx ?_;refine zB4 ?_;refine AW.cond Z (fun h2=>?_) (fun h2=>?_)
   ·have h2:x=false:=by simpa using h2
    refine zB4 ?_;refine WT.idxA (j:=j) (s:=1) hT Z Z Z Z Z Z Z Z Z zo ?_;refine WT.storeAt hT 0 0 Z Z Z Z Z Z Z Z Z Z (by simp;omega) Z Z ?_;refine zB4 ?_;refine⟨⟨s.cur.set j true,true⟩,sM,OwnLe.flat ?_,?_,?_⟩
    ·dsimp only;rw[List.map_set,Nat.zero_add,Nat.mul_one];exact List.Perm.refl _
    ·rw[hnext,h,h2];rfl
    ·have:s.cur.set j true≠xs:=by
      intro e;have this:(s.cur.set j true)[j]?=xs[j]?:=by rw[e]
      rw[List.getElem?_set_self zo,hx,h2] at this;cases this
     simp[this]
   ·have h2:x=true:=by simpa using h2
    refine zB4 ?_;refine⟨s,sM,zow,?_,hch⟩;rw[hnext,same (by rw[h2];rfl)]
  ·refine zB4 ?_;refine AW.cond Z (fun h2=>(by cases h2)) (fun h2=>?_);refine zB4 ?_;refine⟨s,sM,zow,?_,hch⟩;rw[hnext,same (by rw[h];simp)]
 ·intro s F1 hF1 hP;obtain⟨hcur,hch⟩:=hP;rw[show n=xs.length by omega,orTo_all hlen] at hcur;refine zB4 ?_;refine AW.ret ⟨_,[_],⟨_,_,rfl,rfl,rfl⟩,List.Sublist.refl _,_,rfl,by rw[←hcur],?_⟩;rw[←hcur,←hch];rfl
def ofRow(E:List Bool)(Fi:List (List Bool)):List Bool→List Sym→List Bool×Bool
 | out,[]=>(out,true)
 | out,s::l=>if s.term=true then (out.set s.n true,false) else
  if E.getD s.n false=true then ofRow E Fi (orRow out (Fi.getD s.n [])) l else (orRow out (Fi.getD s.n []),false)
theorem sof_spec(F:Frz){is ie io:Nat}{ro:Bool}{terms nons start rm rc ce co:Nat}{ra:Option Addr}{E:List Bool}{Fi:List (List Bool)}
  (hS:F is=some (.cells ro [.int .i64 terms,.int .i64 nons,.int .i64 start,.slice ra rm rc,.slice (some ⟨ie,0,none⟩) nons ce,.slice (some ⟨io,0,none⟩) nons co]))
  (hE:Arr tBool F (some ⟨ie,0,none⟩) nons ce E) (hFi:Arr (tList tBool) F (some ⟨io,0,none⟩) nons co Fi) (hFl:∀r∈Fi,r.length=terms) (ht:terms≤1000000)
  {a:Option Addr} {m c:Nat} {l:List Sym} (hl:Arr tSym F a m c l) (hm:m≤1000000) (hok:∀y∈l,SymOk terms nons y) :
  Abs.Spec CC 133 [.pointer (some ⟨is,0,none⟩),.slice a m c] F [] fun _ v o=>∃B',o=[B']∧∃ir,B'=[(ir,.cells false ((ofRow E Fi (List.replicate terms false) l).1.map cBool.cell))]∧
   (ofRow E Fi (List.replicate terms false) l).1.length=terms∧v=.tuple ⟨[.slice (some ⟨ir,0,none⟩) terms (if terms=0 then 0 else 1),.bool (ofRow E Fi (List.replicate terms false) l).2]⟩:=by
 have hllen:=hl.len;have hElen:=hE.len;have hFlen:=hFi.len;refine Abs.Spec.fn (n:=50) Tryz.func133 rfl rfl fun own=>?_;refine zB4 ?_;refine WT.makeT (l:=terms) hT Z Z Z Z Z Z Z Z Z Z Z Z zom (fun ir hir=>?_);rw[cap_eq];refine zB4 ?_;refine AW.range (S:=List Bool) (fun _=>[]) (fun s=>[(ir,.cells false (s.map cBool.cell))]::own) (fun j s G=>s.length=terms∧ofRow E Fi (List.replicate terms false) l=ofRow E Fi s (l.drop j)) m (List.replicate terms false) Z Z Z Z Z Z Z Z Z zo Z Z (fun _=>rfl) (fun _=>rfl) sM (OwnLe.flat (by simp[cBool])) ⟨by simp,by simp⟩ ?_ ?_
 ·intro j s F1 hF1 hj hP;obtain⟨hsl,hrun⟩:=hP;have hl1:=hl.mono hF1;have hS1:=hF1 _ _ hS;have hE1:=hE.mono hF1;have hFi1:=hFi.mono hF1;refine zB4 ?_;refine WT.idxL hT hl1 Z Z Z Z Z Z Z Z Z zo (fun y hyj b1 off ro1 cs lx hb hp hrel=>?_);obtain rfl:lx=_:=hrel;have hyok:=hok y (gM hyj);have hdrop:l.drop j=y::l.drop (j+1):=by
   rw[List.drop_eq_getElem_cons (show j<l.length by omega)];rw[gE zo] at hyj;rw[Option.some.inj hyj]
  rw[hdrop] at hrun;refine zB4 ?_;refine WT.allocT hT Z Z Z Z Z Z (fun i8 hi8=>?_);refine zB4 ?_;refine AW.cond Z (fun h=>?_) (fun h=>?_)
  ·have h:y.term=true:=h;rw[SymOk,if_pos h] at hyok;rw[ofRow,if_pos h] at hrun;refine zB4 ?_;refine WT.idxA (j:=y.n) (s:=1) hT Z Z Z Z Z Z Z Z Z hyok ?_;refine WT.storeAt hT 1 0 Z Z Z Z Z Z Z Z Z Z (by simp;omega) Z Z ?_;refine zB4 ?_;refine AW.ret ⟨_,[[(ir,.cells false ((s.set y.n true).map cBool.cell))]],⟨_,_,rfl,⟨_,_,rfl,rfl,rfl⟩,rfl⟩,?_,_,rfl,ir,?_,?_,?_⟩
   ·rw[List.map_set,show 0+y.n*1=y.n by omega];exact List.sublist_cons_self ..
   ·rw[hrun]
   ·rw[hrun];simp[hsl]
   ·rw[hrun];rfl
  ·have h:¬y.term=true:=by rw[show y.term=false from h];decide
   rw[SymOk,if_neg h] at hyok;rw[ofRow,if_neg h] at hrun;refine zB4 ?_;refine WT.idxL hT hFi1 Z Z Z Z Z Z Z Z Z zo (fun row hrow b2 off2 ro2 cs2 lx2 hb2 hp2 hrel2=>?_);obtain⟨a4,n4,c4,rfl,hrow2⟩:=hrel2;have hrl:=hFl row (gM hrow);have hrl2:=hrow2.len;have hgetD:Fi.getD y.n []=row:=by rw[List.getD_eq_getElem?_getD,hrow];rfl
   rw[hgetD] at hrun;have hnl:(orRow s row).length=terms:=by unfold orRow;simp;omega
   refine zB4 ?_;refine WT.call1 1 Tryz.func134 Z Z Z Z Z Z Z (fun _=>rfl) (union_spec F1 (it:=ir) (xs:=s) (m:=terms) zo hrow2 zo zo) (fun v B hv=>?_);obtain⟨rfl,rfl⟩:=hv;refine zB4 ?_;refine WT.idxL hT hE1 Z Z Z Z Z Z Z Z Z zo (fun e he b3 off3 ro3 cs3 lx3 hb3 hp3 hrel3=>?_);obtain rfl:lx3=_:=hrel3;have hgE:E.getD y.n false=e:=by rw[List.getD_eq_getElem?_getD,he];rfl
   rw[hgE] at hrun;refine zB4 ?_;refine AW.cond Z (fun h2=>?_) (fun h2=>?_)
   ·have h2:e=false:=by simpa using h2
    rw[if_neg (by rw[h2];decide)] at hrun;refine zB4 ?_;refine AW.ret ⟨_,[[(ir,.cells false ((orRow s row).map cBool.cell))]],⟨_,_,rfl,⟨_,_,rfl,rfl,rfl⟩,rfl⟩,List.sublist_cons_self ..,_,rfl,ir,?_,?_,?_⟩
    ·rw[hrun]
    ·rw[hrun];exact hnl
    ·rw[hrun];rfl
   ·have h2:e=true:=by simpa using h2
    rw[if_pos h2] at hrun;refine zB4 ?_;exact⟨orRow s row,sM,zow,hnl,hrun⟩
 ·intro s F1 hF1 hP;obtain⟨hsl,hrun⟩:=hP;rw[List.drop_of_length_le zo,ofRow] at hrun;refine zB4 ?_;refine AW.ret ⟨_,[_],⟨_,_,rfl,⟨_,_,rfl,rfl,rfl⟩,rfl⟩,List.Sublist.refl _,_,rfl,ir,?_,?_,?_⟩
  ·rw[hrun]
  ·rw[hrun];exact hsl
  ·rw[hrun];rfl
def FirstClosed(g:Gram)(E:List Bool)(Fi:List (List Bool)):Prop:=∀r∈g.rules,orRow (Fi.getD r.left []) (ofRow E Fi (List.replicate g.terms false) r.right).1=Fi.getD r.left []∧
 ((ofRow E Fi (List.replicate g.terms false) r.right).2=true→E.getD r.left false=true)
structure SetsF(F:Frz)(is:Nat)(g:Gram)(ra:Option Addr)(rm rc:Nat)(E:List Bool)(Fi:List (List Bool)):Prop where
 blk:∃ie io ce co ro,F is=some (.cells ro [.int .i64 g.terms,.int .i64 g.nons,.int .i64 g.start,.slice ra rm rc,.slice (some ⟨ie,0,none⟩) g.nons ce,.slice (some ⟨io,0,none⟩) g.nons co])∧
  Arr tBool F (some ⟨ie,0,none⟩) g.nons ce E∧Arr (tList tBool) F (some ⟨io,0,none⟩) g.nons co Fi
 row:∀r∈Fi,r.length=g.terms
 rules:Arr tRule F ra rm rc g.rules
 closed:FirstClosed g E Fi
structure FS where
 a:Option Addr
 m:Nat
 c:Nat
 B:List (Nat×Blk)
 vs:List Value
 bs:List (Nat×Blk)
structure FM where
 E:List Bool
 Fi:List (List Bool)
 bs:List (Nat×Blk)
 again:Bool
def ones:List Bool→Nat
 | []=>0
 | b::l=>(if b=true then 1 else 0)+ones l
def onesT(M:List (List Bool)):Nat:=(M.map ones).sum
theorem ones_le:∀l:List Bool,ones l≤l.length
 | []=>Nat.le_refl _
 | b::l=>by have:=ones_le l;simp only[ones,List.length_cons];split<;>omega
theorem ones_or:∀{xs ys:List Bool},xs.length=ys.length→ones xs≤ones (orRow xs ys)∧(orRow xs ys≠xs→ones xs<ones (orRow xs ys))
 | [],[],_=>by simp[orRow]
 | [],_::_,h=>by simp at h
 | _::_,[],h=>by simp at h
 | x::xs,y::ys,h=>by
  obtain⟨h1,h2⟩:=@ones_or xs ys (by simpa using h);unfold orRow at h1 h2;simp only[orRow,List.zipWith_cons_cons,ones];cases x with
  | true=>
   refine⟨by simp;omega,fun hne=>?_⟩;have:List.zipWith (fun a b=>a||b) xs ys≠xs:=by intro e;apply hne;simp[e]
   have:=h2 this;simp;omega
  | false=>
   cases y with
   | true=>exact⟨by simp;omega,fun _=>by simp;omega⟩
   | false=>
    refine⟨by simp;omega,fun hne=>?_⟩;have:List.zipWith (fun a b=>a||b) xs ys≠xs:=by intro e;apply hne;simp[e]
    have:=h2 this;simp;omega
theorem ones_set:∀{l:List Bool} {j:Nat},l[j]?=some false→ones (l.set j true)=ones l+1
 | [],j,h=>by simp at h
 | b::l,0,h=>by simp at h;subst h;simp[ones];omega
 | b::l,j+1,h=>by
  have:=@ones_set l j (by simpa using h);simp only[List.set_cons_succ,ones];omega
theorem onesT_le{n m:Nat}{M:List (List Bool)}(h:TabOk n m M):onesT M≤n*m:=by
 unfold onesT;rw[←h.size,←List.length_map (f:=ones)];refine sum_le fun x hx=>?_;obtain⟨row,hr,rfl⟩:=List.mem_map.1 hx;have:=ones_le row;rw[h.row row hr] at this;exact this
theorem onesT_set{M:List (List Bool)}{i:Nat}{row row':List Bool}(h:M[i]?=some row):onesT (M.set i row')+ones row=onesT M+ones row':=by
 unfold onesT;rw[List.map_set];exact sum_set (by rw[List.getElem?_map,h];rfl)
theorem orRow_len{xs ys:List Bool}(h:xs.length=ys.length):(orRow xs ys).length=xs.length:=by unfold orRow;simp;omega
def RuleClosed(terms:Nat)(E:List Bool)(Fi:List (List Bool))(r:Rule):Prop:=orRow (Fi.getD r.left []) (ofRow E Fi (List.replicate terms false) r.right).1=Fi.getD r.left []∧
 ((ofRow E Fi (List.replicate terms false) r.right).2=true→E.getD r.left false=true)
def DirectIn(E:List Bool)(M:List (List Bool))(r:Rule):Prop:=∀pre n post,r.right=pre++⟨false,n⟩::post→(∀y∈pre,y.term=false∧E.getD y.n false=true)→tget M r.left n=some true
structure TM where
 M:List (List Bool)
 bs:List (Nat×Blk)
structure LfS where
 ys:List (List Nat)
 a:Option Addr
 m:Nat
 c:Nat
 B:List (Nat×Blk)
inductive Tree where
 | mk (rule:Int) (term:Nat) (kids:List Tree)
theorem Arr.imp{α:Type}{R S:Ty α}(hs:R.size=S.size){F:Frz}{a:Option Addr}{n c:Nat}{xs:List α}(h:Arr R F a n c xs)(hi:∀l x,x∈xs→R.rel F l x→S.rel F l x):Arr S F a n c xs:=
 ⟨h.len,by rw[←hs];exact h.cap,h.zero,h.nil,h.spot,fun j x hj=>
  let ⟨b,off,ro,cs,l,h1,h2,h3,h4⟩:=h.el j x hj
  ⟨b,off,ro,cs,l,h1,h2,by rw[←hs];exact h3,hi _ _ (gM hj) h4⟩⟩
def tTreeN:Nat→Ty Tree
 | 0=>⟨3,fun _ _ _=>False,fun _ _ _ h=>h.elim,fun _ _ _ h=>h.elim,fun _ _ _ _ _ h=>h⟩
 | d+1=>
  {size:=3
   rel:=fun F l x=>∃r t ks a n c,x=.mk r t ks∧l=[.int .i64 r,.int .i64 (t:Nat),.slice a n c]∧Arr (tTreeN d) F a n c ks∧ks.length≤1000000
   len:=fun _ _ _ h=>by obtain⟨r,t,ks,a,n,c,_,rfl,_⟩:=h;rfl
   one:=fun _ _ _ h=>by obtain⟨r,t,ks,a,n,c,_,rfl,_⟩:=h;rfl
   mono:=fun _ _ _ _ hF h=>by obtain⟨r,t,ks,a,n,c,e,e2,h,hb⟩:=h;exact⟨r,t,ks,a,n,c,e,e2,h.mono hF,hb⟩ }
theorem tTreeN_size:∀d,(tTreeN d).size=3
 | 0=>rfl
 | _+1=>rfl
theorem tTreeN_succ:∀(d:Nat) (F:Frz) (l:List Value) (x:Tree),(tTreeN d).rel F l x→(tTreeN (d+1)).rel F l x
 | 0,_,_,_,h=>h.elim
 | d+1,F,l,x,h=>by
  obtain⟨r,t,ks,a,n,c,e,e2,h,hb⟩:=h;exact⟨r,t,ks,a,n,c,e,e2,Arr.imp (by rw[tTreeN_size,tTreeN_size]) h fun l x _=>tTreeN_succ d F l x,hb⟩
theorem tTreeN_le{d e:Nat}(h:d≤e){F:Frz}{l:List Value}{x:Tree}(hr:(tTreeN d).rel F l x):(tTreeN e).rel F l x:=by
 induction h with
 | refl=>exact hr
 | step _ ih=>exact tTreeN_succ _ _ _ _ ih
def tTree:Ty Tree where
 size:=3
 rel:=fun F l x=>∃d,(tTreeN d).rel F l x
 len:=fun _ _ _ h=>by obtain⟨d,h⟩:=h;rw[(tTreeN d).len _ _ _ h,tTreeN_size]
 one:=fun _ _ _ h=>by obtain⟨d,h⟩:=h;exact(tTreeN d).one _ _ _ h
 mono:=fun _ _ _ _ hF h=>by obtain⟨d,h⟩:=h;exact⟨d,(tTreeN d).mono _ _ _ _ hF h⟩
theorem max_of{α:Type}{P:Nat→α→Nat→Prop}(hm:∀j x d e,d≤e→P j x d→P j x e):∀(xs:List α) (i:Nat),(∀j x,xs[j]?=some x→∃d,P (i+j) x d)→∃D,∀j x,xs[j]?=some x→P (i+j) x D
 | [],_,_=>⟨0,fun _ _ h=>by simp at h⟩
 | x::xs,i,h=>by
  obtain⟨d,hd⟩:=h 0 x rfl
  obtain⟨D,hD⟩:=max_of hm xs (i+1) (fun j y hj=>by
   have:=h (j+1) y hj;rw[show i+(j+1)=i+1+j by omega] at this;exact this)
  refine⟨max d D,fun j y hj=>?_⟩;cases j with
  | zero=>
   obtain rfl:x=y:=by simpa using hj
   exact hm _ _ _ _ (Nat.le_max_left _ _) hd
  | succ j=>
   have:=hm _ _ _ _ (Nat.le_max_right d D) (hD j y hj);rw[show i+(j+1)=i+1+j by omega];exact this
theorem arr_tree{F:Frz}{a:Option Addr}{n c:Nat}{xs:List Tree}(h:Arr tTree F a n c xs):∃d,Arr (tTreeN d) F a n c xs:=by
 obtain⟨D,hD⟩:=max_of (P:=fun j x d=>∃b off ro cs l,a=some ⟨b,off,none⟩∧F b=some (.cells ro cs)∧partL cs (off+j*3) 3=some l∧(tTreeN d).rel F l x)
  (fun j x d e hde ⟨b,off,ro,cs,l,h1,h2,h3,h4⟩=>⟨b,off,ro,cs,l,h1,h2,h3,tTreeN_le hde h4⟩) xs 0 (fun j x hj=>by
   obtain⟨b,off,ro,cs,l,h1,h2,h3,d,h4⟩:=h.el j x hj;exact⟨d,b,off,ro,cs,l,h1,h2,by rw[Nat.zero_add];exact h3,h4⟩)
 refine⟨D,h.len,by rw[tTreeN_size];exact h.cap,h.zero,h.nil,h.spot,fun j x hj=>?_⟩;obtain⟨b,off,ro,cs,l,h1,h2,h3,h4⟩:=hD j x hj;rw[Nat.zero_add] at h3;exact⟨b,off,ro,cs,l,h1,h2,by rw[tTreeN_size];exact h3,h4⟩
theorem tTree_mk{F:Frz}{r:Int}{t:Nat}{ks:List Tree}{a:Option Addr}{n c:Nat}(h:Arr tTree F a n c ks)(hb:ks.length≤1000000):tTree.rel F [.int .i64 r,.int .i64 t,.slice a n c] (.mk r t ks):=by
 obtain⟨d,hd⟩:=arr_tree h;exact⟨d+1,r,t,ks,a,n,c,rfl,rfl,hd,hb⟩
structure TkS where
 j:Nat
 a:Option Addr
 c:Nat
 B:List (Nat×Blk)
structure NoLoop(g:Gram)(M:List (List Bool))(E:List Bool)(Fi:List (List Bool)):Prop where
 tab:TabOk g.nons g.nons M
 first:FirstClosed g E Fi
 direct:∀r∈g.rules,DirectIn E M r
 trans:∀x y z,y<g.nons→tget M x y=some true→tget M y z=some true→tget M x z=some true
 irr:∀i,i<g.nons→tget M i i≠some true
mutual
inductive TreeOf(g:Gram)(w:List Nat):Sym→Tree→Nat→Nat→Prop
 | leaf {t i:Nat} (h:w[i]?=some t):TreeOf g w ⟨true,t⟩ (.mk (-1) t []) i (i+1)
 | node {k:Nat} {r:Rule} {kids:List Tree} {i j:Nat} (h:g.rules[k]?=some r) (h2:TreesOf g w r.right kids i j):TreeOf g w ⟨false,r.left⟩ (.mk k 0 kids) i j
inductive TreesOf(g:Gram)(w:List Nat):List Sym→List Tree→Nat→Nat→Prop
 | nil {i:Nat}:TreesOf g w [] [] i i
 | cons {s:Sym} {l:List Sym} {t:Tree} {ts:List Tree} {i m j:Nat} (h:TreeOf g w s t i m) (h2:TreesOf g w l ts m j):TreesOf g w (s::l) (t::ts) i j
end
mutual
theorem TreeOf.le{g:Gram}{w:List Nat}:∀{t:Tree} {s:Sym} {i j:Nat},TreeOf g w s t i j→i≤j∧(i≤w.length→j≤w.length)
 | .mk _ _ _,_,_,_,.leaf h=>⟨by omega,fun _=>by have:=(gS h).1;omega⟩
 | .mk _ _ ks,_,_,_,.node h h2=>TreesOf.le h2
theorem TreesOf.le{g:Gram}{w:List Nat}:∀{ts:List Tree} {l:List Sym} {i j:Nat},TreesOf g w l ts i j→i≤j∧(i≤w.length→j≤w.length)
 | [],_,_,_,.nil=>⟨Nat.le_refl _,id⟩
 | t::ts,_,_,_,.cons h h2=>by
  have h3:=TreeOf.le h;have h4:=TreesOf.le h2;exact⟨by omega,fun h5=>h4.2 (h3.2 h5)⟩
end
theorem TreesOf.len{g:Gram}{w:List Nat}:∀{ts:List Tree} {l:List Sym} {i j:Nat},TreesOf g w l ts i j→ts.length=l.length
 | [],_,_,_,.nil=>rfl
 | t::ts,_,_,_,.cons h h2=>by simp[TreesOf.len h2]
theorem ofRow_all{E:List Bool}{Fi:List (List Bool)}:∀(l:List Sym) (out:List Bool),(∀y∈l,y.term=false∧E.getD y.n false=true)→(ofRow E Fi out l).2=true
 | [],_,_=>rfl
 | s::l,out,h=>by
  have h1:=h s me;unfold ofRow;rw[if_neg (by simp[h1.1]),if_pos h1.2];exact ofRow_all l _ fun y hy=>h y (List.mem_cons_of_mem _ hy)
mutual
theorem TreeOf.empty{g:Gram}{w:List Nat}{E:List Bool}{Fi:List (List Bool)}(hc:FirstClosed g E Fi):∀{t:Tree} {s:Sym} {i j:Nat},TreeOf g w s t i j→i=j→s.term=false∧E.getD s.n false=true
 | .mk _ _ _,_,_,_,.leaf h,e=>by omega
 | .mk _ _ ks,_,_,_,.node h h2,e=>⟨rfl,(hc _ (gM h)).2 (ofRow_all _ _ (TreesOf.empty hc h2 e))⟩
theorem TreesOf.empty{g:Gram}{w:List Nat}{E:List Bool}{Fi:List (List Bool)}(hc:FirstClosed g E Fi):∀{ts:List Tree} {l:List Sym} {i j:Nat},TreesOf g w l ts i j→i=j→∀y∈l,y.term=false∧E.getD y.n false=true
 | [],_,_,_,.nil,_=>fun y hy=>by simp at hy
 | t::ts,_,_,_,.cons h h2,e=>fun y hy=>by
  have h3:=h.le.1;have h4:=h2.le.1;rcases List.mem_cons.1 hy with rfl | hy
  ·exact TreeOf.empty hc h zo
  ·exact TreesOf.empty hc h2 zo y hy
end
def rank(n:Nat)(M:List (List Bool))(i:Nat):Nat:=(List.range n).countP fun j=>decide (tget M i j=some true)
theorem key_eq(a b c d:Nat):((((a:Int)==(c:Int))&&(((b:Int)==(d:Int))&&true))=decide ((a,b)=(c,d))):=by
 rw[Bool.eq_iff_iff];simp only[Bool.and_eq_true,beq_iff_eq,decide_eq_true_eq,Prod.mk.injEq,and_true];omega
structure Item where
 rule:Nat
 dot:Nat
 frm:Nat
deriving DecidableEq
def nextOf(rs:List Rule)(x:Item):Option Sym:=(rs[x.rule]?).bind fun r=>r.right[x.dot]?
def ItemOk(rs:List Rule)(k:Nat)(x:Item):Prop:=∃r,rs[x.rule]?=some r∧x.dot≤r.right.length∧x.frm≤k
def stepItem(x:Item):Item:=⟨x.rule,x.dot+1,x.frm⟩
def ItemClosed(rs:List Rule)(L:Nat→List Item)(k:Nat)(x:Item):Prop:=
 (∀n i r,nextOf rs x=some ⟨false,n⟩→rs[i]?=some r→r.left=n→(⟨i,0,k⟩:Item)∈L k)∧
 (∀r,rs[x.rule]?=some r→x.dot=r.right.length→∀y∈L x.frm,nextOf rs y=some ⟨false,r.left⟩→stepItem y∈L k)
structure Sets(g:Gram)(v:List Nat)(L:Nat→List Item):Prop where
 ok:∀k,k≤v.length→∀x∈L k,ItemOk g.rules k x
 start:∀i r,g.rules[i]?=some r→r.left=g.start→(⟨i,0,0⟩:Item)∈L 0
 closed:∀k,k≤v.length→∀x∈L k,ItemClosed g.rules L k x
 scan:∀k t,v[k]?=some t→∀x∈L k,nextOf g.rules x=some ⟨true,t⟩→stepItem x∈L (k+1)
def EndsClosed(g:Gram)(E:List Bool):Prop:=∀r∈g.rules,(∀y∈r.right,y.term=true∨E[y.n]?=some true)→E[r.left]?=some true
def useful(E:List Bool)(r:Rule):Bool:=!(r.right.any fun y=>!y.term&&!(E.getD y.n false))
def trimmed(E:List Bool)(g:Gram):Gram:={ g with rules:=g.rules.filter (useful E) }
def knownN(O:List Int):Nat:=O.countP fun x=>decide (0≤x)
structure LenOk(nons:Nat)(O:List Int):Prop where
 len:O.length=nons
 ge:∀x∈O,-1≤x
 le:∀x∈O,x≤((4 ^ knownN O:Nat):Int)
def HasWord(g:Gram)(n:Nat):Prop:=∃w,Der g w ⟨false,n⟩ 0 w.length
structure EndsIn(g:Gram)(E:List Bool):Prop where
 len:E.length=g.nons
 closed:EndsClosed g E
 sound:∀n,E[n]?=some true→HasWord g n
def tItem:Ty Item where
 size:=3
 rel:=fun _ l x=>l=[.int .i64 x.rule,.int .i64 x.dot,.int .i64 x.frm]
 len:=fun _ _ _ h=>by rw[h];rfl
 one:=fun _ _ _ h=>by rw[h];rfl
 mono:=fun _ _ _ _ _ h=>h
theorem shE10{p:Prop} (h:p:=by
 obtain rfl:a=none:=by simpa using h
 obtain⟨rfl,rfl⟩:=hx.nil rfl;obtain rfl:xs=[]:=List.eq_nil_of_length_eq_zero hx.len.symm;refine zB4 ?_;refine AW.le (own2:=[]::own) (OwnLe.flat (List.Perm.refl _)) ?_;exact AW.ret ⟨_,[[]],⟨_,_,rfl,rfl,rfl⟩,zsb,_,rfl,_,_,rfl,(Bld.nil_ _ _).vec⟩):p:=h
theorem symClone_spec(F:Frz){a:Option Addr}{m c:Nat}{xs:List Sym}(hx:Arr tSym F a m c xs)(hm:m≤1000000) :
  Abs.Spec CC 107 [.slice a m c] F [] fun F' v o=>∃B',o=[B']∧∃a' c',v=.slice a' m c'∧Vec tSym F' a' m c' B' xs:=by
 refine Abs.Spec.fn (n:=8) Tryz.func107 rfl rfl fun own=>?_;refine zB4 ?_;refine WT.sliceNil hT Z Z Z Z Z Z Z Z ?_;refine zB4 ?_;refine AW.cond Z (fun h=>?_) (fun h=>?_)
 ·exact shE10
 ·refine zB4 ?_;refine WT.buildT hT Z Z Z Z Z Z Z Z Z Z Z Z Z Z (fun i5 hi5=>?_);refine zB4 ?_;obtain⟨ds,hds,hcs⟩:=news_arr hT hx (t:=87) rfl rfl 91;refine WT.appendE hT Z Z Z Z Z Z Z Z Z Z Z Z (fun h0 s0=>hds _ h0 s0) hcs hx.len (by decide) zom (fun a' c' B' hB' _=>?_);refine zB4 ?_;refine AW.le (OwnLe.cons _ (OwnLe.skip _ oR)) ?_;exact AW.ret ⟨_,[_],⟨_,_,rfl,rfl,rfl⟩,zsb,_,rfl,_,_,rfl,hB'⟩
theorem gN_spec(F:Frz)(n:Int):Abs.Spec CC 84 [.int .i64 n] F [] fun _ v o=>o=[]∧v=.agg ⟨[.bool false,.int .i64 n]⟩:=by
 refine Abs.Spec.fn (n:=5) Tryz.func84 rfl rfl fun own=>?_;refine AW.seq (AW.reg ?_);refine WT.allocT hT Z Z Z Z Z Z (fun i2 hi2=>?_);refine zB4 ?_;exact AW.ret ⟨_,[],⟨_,_,⟨_,rfl,fun G h0 s0=>loadA_cells (s0.has (p:=0) rfl me) (readT_ok hT rfl)⟩,rfl,rfl⟩,zsb,rfl,rfl⟩
theorem gT_spec(F:Frz)(n:Int):Abs.Spec CC 115 [.int .i64 n] F [] fun _ v o=>o=[]∧v=.agg ⟨[.bool true,.int .i64 n]⟩:=by
 refine Abs.Spec.fn (n:=5) Tryz.func115 rfl rfl fun own=>?_;refine AW.seq (AW.reg ?_);refine WT.allocT hT Z Z Z Z Z Z (fun i2 hi2=>?_);refine zB4 ?_;exact AW.ret ⟨_,[],⟨_,_,⟨_,rfl,fun G h0 s0=>loadA_cells (s0.has (p:=0) rfl me) (readT_ok hT rfl)⟩,rfl,rfl⟩,zsb,rfl,rfl⟩
structure CS where
 j:Nat
 a:Option Addr
 c:Nat
 B:List (Nat×Blk)
structure Key where
 sym:Sym
 frm:Nat
 to:Nat
deriving DecidableEq
structure KPack where
 rule:Nat
 kids:List Key
deriving DecidableEq
def tKey:Ty Key where
 size:=4
 rel:=fun _ l x=>l=[.bool x.sym.term,.int .i64 x.sym.n,.int .i64 x.frm,.int .i64 x.to]
 len:=fun _ _ _ h=>by rw[h];rfl
 one:=fun _ _ _ h=>by rw[h];rfl
 mono:=fun _ _ _ _ _ h=>h
def tKPack:Ty KPack where
 size:=2
 rel:=fun F l x=>∃a n c,l=[.int .i64 x.rule,.slice a n c]∧Arr tKey F a n c x.kids
 len:=fun _ _ _ h=>by obtain⟨a,n,c,rfl,_⟩:=h;rfl
 one:=fun _ _ _ h=>by obtain⟨a,n,c,rfl,_⟩:=h;rfl
 mono:=fun _ _ _ _ hF h=>by obtain⟨a,n,c,e,h⟩:=h;exact⟨a,n,c,e,h.mono hF⟩
def stepB(w:List Nat)(E:List (List Nat))(s:Sym)(i j:Nat):Bool:=
 if s.term=true then decide (w[i]?=some s.n∧j=i+1)
 else match E[s.n]? with
  | some row=>match row[i]? with
   | some x=>x.testBit j
   | none=>false
  | none=>false
theorem stepB_iff{w:List Nat}{E:List (List Nat)}{s:Sym}{i j:Nat}:stepB w E s i j=true↔Step w E s i j:=by
 unfold stepB Step;split
 ·simp
 ·split
  ·rename_i row h1;split
   ·rename_i x h2;refine⟨fun h=>⟨row,x,h1,h2,h⟩,?_⟩;rintro⟨row',x',h3,h4,h5⟩;rw[h1] at h3;cases h3;rw[h2] at h4;cases h4;exact h5
   ·rename_i h2;refine⟨fun h=>(by cases h),?_⟩;rintro⟨row',x',h3,h4,h5⟩;rw[h1] at h3;cases h3;rw[h2] at h4;cases h4
  ·rename_i h1;refine⟨fun h=>(by cases h),?_⟩;rintro⟨row',x',h3,h4,h5⟩;rw[h1] at h3;cases h3
def splits(w:List Nat)(E:List (List Nat))(to:Nat):List Sym→Nat→List (List Key)
 | [],i=>if i=to then [[]] else []
 | s::l,i=>(List.range (to+1)).flatMap fun m=>if stepB w E s i m=true then (splits w E to l m).map (⟨s,i,m⟩::·) else []
def packsAt(g:Gram)(w:List Nat)(E:List (List Nat))(k:Key)(i:Nat):List KPack:=match g.rules[i]? with
 | some r=>if r.left=k.sym.n∧k.sym.term=false then (splits w E k.to r.right k.frm).map (KPack.mk i) else []
 | none=>[]
def packsOf(g:Gram)(w:List Nat)(E:List (List Nat))(k:Key):List KPack:=(List.range g.rules.length).flatMap (packsAt g w E k)
structure WalkC(F:Frz)(i3 i4 i5 i6 i7 i8:Nat)(k:Key)(rule:Nat)(b:Option Addr)(n d:Nat)(a:Option Addr)(m c:Nat):Prop where
 hk:F i3=some (.cells false [.bool k.sym.term,.int .i64 k.sym.n,.int .i64 k.frm,.int .i64 k.to])
 hi:F i5=some (.cells false [.int .i64 rule])
 hw:F i6=some (.cells false [.slice b n d])
 he:F i7=some (.cells false [.slice a m c])
 self:F i8=some (.cells false [.func (.func 200) ⟨[]⟩ ⟨[.pointer (some ⟨i3,0,none⟩),.pointer (some ⟨i4,0,none⟩),.pointer (some ⟨i5,0,none⟩),.pointer (some ⟨i6,0,none⟩),.pointer (some ⟨i7,0,none⟩),.pointer (some ⟨i8,0,none⟩)]⟩])
theorem WalkC.mono{F G:Frz}{i3 i4 i5 i6 i7 i8:Nat}{k:Key}{rule:Nat}{b:Option Addr}{n d:Nat}{a:Option Addr}{m c:Nat}(h:WalkC F i3 i4 i5 i6 i7 i8 k rule b n d a m c)(hF:Frz.le F G):WalkC G i3 i4 i5 i6 i7 i8 k rule b n d a m c:=
 ⟨hF _ _ h.hk,hF _ _ h.hi,hF _ _ h.hw,hF _ _ h.he,hF _ _ h.self⟩
def OutB(F:Frz)(i4:Nat)(B:List (Nat×Blk))(outs:List KPack):Prop:=∃a n c OB,B=(i4,.cells false [.slice a n c])::OB∧Bld tKPack F a n c OB outs
theorem OutB.mono{F G:Frz}{i4:Nat}{B:List (Nat×Blk)}{outs:List KPack}(h:OutB F i4 B outs)(hF:Frz.le F G):OutB G i4 B outs:=by
 obtain⟨a,n,c,OB,h1,h2⟩:=h;exact⟨a,n,c,OB,h1,h2.mono hF⟩
structure WS where
 u:Nat
 B:List (Nat×Blk)
structure PkS where
 j:Nat
 a:Option Addr
 n:Nat
 c:Nat
 B:List (Nat×Blk)
theorem arr_at{α:Type}[Inhabited α]{d:Array α}{i:Nat}(h:i<d.size):d.toList[i]?=some d[i]!:=by
 rw[getElem!_pos d i h,Array.getElem?_toList,Array.getElem?_eq_getElem h]
theorem swp_list{α:Type}[Inhabited α](d:Array α)(i j:Nat):(Go.Sort.swp d i j).toList=(d.toList.set i d[j]!).set j d[i]!:=by
 unfold Go.Sort.swp;simp
def CmpOk{α:Type}(R:Ty α)(lt:α→α→Bool)(F:Frz)(g:Nat)(first capt:List Value):Prop:=
 (∃fn,CC.func g=some fn∧fn.body.isSome=true)∧∀G,Frz.le F G→∀lx ly x y,R.rel G lx x→R.rel G ly y→Abs.Spec CC g (first++[.agg ⟨lx⟩,.agg ⟨ly⟩]++capt) G [] fun _ v o=>o=[]∧∃z:Int,v=.int .i64 z∧(z<0↔lt x y=true)
theorem CmpOk.mono{α:Type}{R:Ty α}{lt:α→α→Bool}{F G:Frz}{g:Nat}{first capt:List Value}(h:CmpOk R lt F g first capt)(hF:Frz.le F G):CmpOk R lt G g first capt:=
 ⟨h.1,fun H hH=>h.2 H (hF.trans hH)⟩
structure VS(α:Type) where
 i:Nat
 d:Array α
 B:List (Nat×Blk)
instance:Inhabited Item:=⟨⟨0,0,0⟩⟩
end Go.Proofs.D