/-
  Walks: what functions of the program do, over the abstract machine.
-/
import Derived.Test.YtpoochgjdeefdaaGreatDoorCtx
import Derived.Sort.AssemblyPlain
import Derived.Sort.LotD5
import Derived.Sort.LotD4
import Derived.Sort.Walk13a
set_option linter.unusedVariables false
set_option maxRecDepth 20000
set_option maxHeartbeats 0
open Go Go.Abs Go.Proofs Go.Proofs.D
namespace Go.Proofs.D
theorem tmod_below(x m:Int)(hm:0<m):x % m=if x.tmod m<0 then x.tmod m+m else x.tmod m:=by
 rcases Int.le_total 0 x with h | h
 ·rw[Int.tmod_eq_emod_of_nonneg h,if_neg];have:=Int.emod_nonneg x (show m≠0 by omega);omega
 ·have h1:=Int.tmod_add_mul_tdiv x m
  have h2:x.tmod m≤0:=by have:=Int.tmod_nonneg m (show 0≤-x by omega);rw[Int.neg_tmod] at this;omega
  have h3:-m<x.tmod m:=by have:=Int.lt_tmod_of_pos x hm;omega
  split
  ·rename_i h4
   have:x=(x.tmod m+m)+m*(x.tdiv m-1):=by rw[Int.mul_sub];omega
   rw[show x % m=((x.tmod m+m)+m*(x.tdiv m-1)) % m by rw[←this],Int.add_mul_emod_self_left]
   exact Int.emod_eq_of_lt zo zo
  ·have h5:x.tmod m=0:=by omega
   rw[h5];exact Int.emod_eq_zero_of_dvd (Int.dvd_of_tmod_eq_zero h5)
def below(x:Int)(m:Nat):Nat:=(x % (m:Int)).toNat
theorem below_lt(x:Int){m:Nat}(h:0<m):below x m<m:=by
 unfold below
 have h1:=Int.emod_nonneg x (show (m:Int)≠0 by omega)
 have h2:=Int.emod_lt_of_pos x (show 0<(m:Int) by omega)
 omega
theorem below_spec(F:Frz)(x:Int)(m:Nat)(hm:0<m)(hm2:m≤9223372036854775807):Abs.Spec CC 21 [.int .i64 x,.int .i64 m] F [] fun _ v o=>o=[]∧v=.int .i64 (below x m:Nat):=by
 have e1:=tmod_below x m zo
 have e2:-(m:Int)<x.tmod m:=Int.lt_tmod_of_pos x zo
 have e3:(below x m:Int)=x % (m:Int):=by
  unfold below;exact Int.toNat_of_nonneg (Int.emod_nonneg x (show (m:Int)≠0 by omega))
 refine Abs.Spec.fn (n:=14) Tryz.func21 rfl rfl fun own=>?_
 refine zB4 ?_
 refine WT.remT Z Z Z Z Z Z zo ?_
 refine zB4 ?_
 refine AW.cond Z (fun hc=>?_) (fun hc=>?_)
 ·have hc:=of_decide_eq_true hc
  refine zB4 ?_
  refine AW.ret ⟨_,[],⟨_,_,rfl,rfl,rfl⟩,List.Sublist.refl _,rfl,?_⟩
  show Value.int .i64 _=_
  rw[e3,e1,if_pos hc]
 ·have hc:=of_decide_eq_false hc
  refine zB4 ?_
  refine AW.ret ⟨_,[],⟨_,_,rfl,rfl,rfl⟩,List.Sublist.refl _,rfl,?_⟩
  show Value.int .i64 _=_
  rw[e3,e1,if_neg hc]
def StreamB(F:Frz)(i:Nat)(B:List (Nat×Blk))(l:List Int):Prop:=∃a n c,B=[(i,.cells false [.slice a n c])]∧Arr tInt F a n c l
theorem StreamB.mono{F G:Frz}{i:Nat}{B:List (Nat×Blk)}{l:List Int}(h:StreamB F i B l)(hF:Frz.le F G):StreamB G i B l:=by
 obtain⟨a,n,c,e,h⟩:=h;exact⟨a,n,c,e,h.mono hF⟩
theorem next_spec(F:Frz)(i:Nat){B:List (Nat×Blk)}{l:List Int}(hl:StreamB F i B l)(m:Nat)(hm:0<m)(hm2:m≤9223372036854775807) :
  Abs.Spec CC 61 [.pointer (some ⟨i,0,none⟩),.int .i64 m] F [B] fun _ v o=>∃B',o=[B']∧∃r l',v=.int .i64 (r:Nat)∧r<m∧StreamB F i B' l':=by
 obtain⟨a,len,c,rfl,hl⟩:=hl
 refine Abs.Spec.fn (n:=29) Tryz.func61 rfl rfl fun own=>?_
 have hlen:=hl.len
 refine zB4 ?_
 refine AW.cond Z (fun hc=>?_) (fun hc=>?_)
 ·have h0:len=0:=by simpa using hc
  refine zB4 ?_
  exact AW.ret ⟨_,[_],⟨_,_,rfl,rfl,rfl⟩,List.Sublist.refl _,_,rfl,0,l,rfl,hm,a,len,c,rfl,hl⟩
 ·have h0:len≠0:=by simpa using hc
  have hlt:0<l.length:=by omega
  refine zB4 ?_
  refine WT.idxL (j:=0) hT hl Z Z Z Z Z Z Z Z Z hlt (fun x hx b off ro cs lx hb hp hrel=>?_)
  obtain rfl:lx=[.int .i64 x]:=hrel
  refine zB4 ?_
  obtain⟨a',c',hs,ha'⟩:=hl.slice (C:=CC) (lo:=1) (hi:=len) zo (Nat.le_refl _) hT (t:=22) Z Z Z (some (.int .i64 1)) none rfl rfl
  refine WT.slice Z Z Z Z Z Z Z Z hs ?_
  refine zB4 ?_
  refine WT.callV Tryz.func21 Z Z Z Z Z Z (below_spec _ x m hm hm2) (fun v hv=>?_)
  subst hv
  refine zB4 ?_
  exact AW.ret ⟨_,[_],⟨_,_,rfl,rfl,rfl⟩,List.Sublist.refl _,_,rfl,below x m,_,rfl,below_lt x hm,a',len-1,c',rfl,ha'⟩
theorem take_all{α:Type}{p:α→Prop}{l:List α}{j:Nat}{x:α}(hx:l[j]?=some x)(h:∀y∈l.take j,p y)(h1:p x):∀y∈l.take (j+1),p y:=by
 intro y hy
 rw[List.take_add_one,hx] at hy
 simp at hy
 rcases hy with hy | rfl
 ·exact h y hy
 ·exact h1
theorem has_spec(F:Frz){a:Option Addr}{m c:Nat}{rs:List Rule}(h:Arr tRule F a m c rs)(hm:m≤1000000){left:Nat}{b:Option Addr}{n d:Nat}{right:List Sym}(hr:Arr tSym F b n d right)(hn:n≤1000000) :
  Abs.Spec CC 62 [.slice a m c,.agg ⟨[.int .i64 left,.slice b n d]⟩] F [] fun F' v o=>o=[]∧v=.bool (decide (⟨left,right⟩∈rs)):=by
 refine Abs.Spec.fn (n:=52) Tryz.func62 rfl rfl fun own=>?_
 have hlen:=h.len
 have hrlen:=hr.len
 refine AW.seq (AW.reg ?_)
 refine WT.boxT Z Z Z Z Z Z (fun i0 hi0=>?_)
 refine zB4 ?_
 refine AW.range (S:=Unit) (fun _=>[]) (fun _=>_) (fun j _ _=>∀x∈rs.take j,x≠⟨left,right⟩) m () Z Z Z Z Z Z Z Z Z zo Z Z (fun _=>rfl) (fun _=>rfl) sM oR (by simp) ?_ ?_
 ·intro j _ F' hF hj hP
  have h:=h.mono hF
  have hr:=hr.mono hF
  refine zB4 ?_
  refine WT.idxL hT h Z Z Z Z Z Z Z Z Z zo (fun x hx b1 off ro cs lx hb hp hrel=>?_)
  obtain⟨b2,n2,d2,rfl,hx2⟩:=hrel
  have hx2len:=hx2.len
  refine zB4 ?_
  refine WT.allocT hT Z Z Z Z Z Z (fun i1 hi1=>?_)
  refine zB4 ?_
  have fin:x≠⟨left,right⟩→∀y∈rs.take (j+1),y≠⟨left,right⟩:=take_all hx hP
  refine WT.split 20 Z (fun hne=>?_) (fun hne=>?_)
  ·refine zB4 ?_
   refine AW.cond Z (fun _=>?_) (fun hc=>(by cases hc))
   refine AW.exit ⟨(),sM,zow,fin ?_⟩
   intro e;subst e;simp at hne
  ·refine zB4 ?_
   refine AW.cond Z (fun hc=>?_) (fun hc=>?_)
   ·refine AW.exit ⟨(),sM,zow,fin ?_⟩
    simp at hc;intro e;rw[e] at hx2len;simp at hx2len;omega
   ·have hc:n2=n:=by simp at hc;omega
    have hne:x.left=left:=by simp at hne;omega
    refine zB4 ?_
    refine AW.range (S:=Bool) (fun s=>[(7,.bool s)]) (fun _=>_) (fun j s _=>s=decide (x.right.take j=right.take j)) n2 true Z Z Z Z Z Z Z Z Z zo Z Z (fun _=>rfl) (fun _=>rfl) sM oR (by simp) ?_ ?_
    ·intro q s F'' hF2 hq hP2
     have hx2:=hx2.mono hF2
     have hr:=hr.mono hF2
     have hlt1:q<x.right.length:=by omega
     have hlt2:q<right.length:=by omega
     have tk:(x.right.take (q+1)=right.take (q+1))↔(x.right.take q=right.take q∧x.right[q]=right[q]):=by
      rw[List.take_add_one,List.take_add_one,gE hlt1,gE hlt2]
      constructor
      ·intro he
       have:=List.append_inj' he rfl
       simpa using this
      ·rintro⟨e1,e2⟩;rw[e1,e2]
     refine zB4 ?_
     refine WT.split 36 Z (fun hs=>?_) (fun hs=>?_)
     ·refine zB4 ?_
      refine WT.idxL hT hx2 Z Z Z Z Z Z Z Z Z hlt1 (fun y hy b3 off3 ro3 cs3 l3 hb3 hp3 hrel3=>?_)
      obtain rfl:=hrel3
      refine zB4 ?_
      refine WT.idxL hT hr Z Z Z Z Z Z Z Z Z hlt2 (fun z hz b4 off4 ro4 cs4 l4 hb4 hp4 hrel4=>?_)
      obtain rfl:=hrel4
      refine zB4 ?_
      refine⟨_,sM,zow,?_⟩
      rw[gE hlt1] at hy
      rw[gE hlt2] at hz
      cases hy;cases hz
      rw[hs] at hP2
      have:=sym_eq x.right[q] right[q]
      refine this.trans ?_
      have h1:=of_decide_eq_true hP2.symm
      simp[tk,h1]
     ·refine zB4 ?_
      refine⟨_,sM,zow,?_⟩
      rw[hs] at hP2
      have h1:=of_decide_eq_false hP2.symm
      simp[tk,h1]
    ·intro s F'' hF2 hs
     rw[List.take_of_length_le zo,List.take_of_length_le zo] at hs
     refine zB4 ?_
     refine AW.cond Z (fun hc=>?_) (fun hc=>?_)
     ·refine zB4 ?_
      refine AW.ret ⟨_,[],⟨_,_,rfl,rfl,rfl⟩,(List.sublist_cons_self ..).trans (List.sublist_cons_self ..),rfl,?_⟩
      rw[hc] at hs
      have e:=of_decide_eq_true hs.symm
      have:(⟨left,right⟩:Rule)∈rs:=by
       have:x=⟨left,right⟩:=by cases x;simp at hne e;simp[hne,e]
       rw[←this];exact gM hx
      simp[this,tupleA]
     ·refine zB4 ?_
      refine⟨(),sM,zow,fin ?_⟩
      rintro rfl
      rw[hc] at hs
      simp at hs
 ·intro _ F' hF hP
  refine zB4 ?_
  refine AW.ret ⟨_,[],⟨_,_,rfl,rfl,rfl⟩,List.sublist_cons_self ..,rfl,?_⟩
  rw[List.take_of_length_le zo] at hP
  have:(⟨left,right⟩:Rule)∉rs:=fun hm=>hP _ hm rfl
  simp[this,tupleA]
def SymOk(t n:Nat)(y:Sym):Prop:=if y.term=true then y.n<t else y.n<n
def RuleOk(t n:Nat)(r:Rule):Prop:=r.left<n∧r.right.length≤3∧∀y∈r.right,SymOk t n y
structure Small(g:Gram):Prop where
 terms:1≤g.terms∧g.terms≤3
 nons:1≤g.nons∧g.nons≤4
 start:g.start<g.nons
 rules:1≤g.rules.length∧g.rules.length≤8
 nodup:g.rules.Nodup
 ok:∀r∈g.rules,RuleOk g.terms g.nons r
structure GS where
 xs:List Rule
 a:Option Addr
 m:Nat
 c:Nat
 B:List (Nat×Blk)
 Bs:List (Nat×Blk)
structure GI where
 ys:List Sym
 a:Option Addr
 m:Nat
 c:Nat
 B:List (Nat×Blk)
 Bs:List (Nat×Blk)
theorem grammar_spec(F:Frz){a:Option Addr}{n c:Nat}{l:List Int}(hl:Arr tInt F a n c l) :
  Abs.Spec CC 35 [.slice a n c] F [] fun F' v o=>o=[]∧∃g,GramV F' v g∧Small g:=by
 refine Abs.Spec.fn (n:=72) Tryz.func35 rfl rfl fun own=>?_
 refine AW.seq (AW.reg ?_)
 refine WT.allocT hT Z Z Z Z Z Z (fun i2 hi2=>?_)
 refine zB4 ?_
 refine WT.boxT Z Z Z Z Z Z (fun i8 hi8=>?_)
 refine zB4 ?_
 refine WT.call1 (B:=[(i8,.cells false [.slice a n c])]) 0 Tryz.func61 Z Z Z Z Z Z Z (fun _=>rfl) (next_spec F i8 ⟨a,n,c,rfl,hl⟩ 3 (by decide) (by decide)) (fun v B1 hv=>?_)
 obtain⟨r1,l1,rfl,hr1,hs1⟩:=hv
 refine zB4 ?_
 refine WT.call1 0 Tryz.func61 Z Z Z Z Z Z Z (fun _=>rfl) (next_spec F i8 hs1 4 (by decide) (by decide)) (fun v B2 hv=>?_)
 obtain⟨r2,l2,rfl,hr2,hs2⟩:=hv
 refine zB4 ?_
 refine WT.allocT hT Z Z Z Z Z Z (fun i4 hi4=>?_)
 refine zB4 ?_
 refine WT.call1 1 Tryz.func61 Z Z Z Z Z Z Z (fun _=>rfl) (next_spec F i8 hs2 (1+r2) zo zo) (fun v B3 hv=>?_)
 obtain⟨r3,l3,rfl,hr3,hs3⟩:=hv
 refine zB4 ?_
 refine WT.call1 1 Tryz.func61 Z Z Z Z Z Z Z (fun _=>rfl) (next_spec F i8 hs3 8 (by decide) (by decide)) (fun v B4 hv=>?_)
 obtain⟨r4,l4,rfl,hr4,hs4⟩:=hv
 refine zB4 ?_
 refine AW.range (S:=GS) (fun _=>[]) (fun s=>[(i4,.cells false [.int .i64 (1+r1:Nat),.int .i64 (1+r2:Nat),.int .i64 r3,.slice s.a s.m s.c])]::s.B::s.Bs::[(i2,.cells false [.int .i64 0,.int .i64 0,.int .i64 0,.slice none 0 0])]::own)
  (fun j s G=>Bld tRule G s.a s.m s.c s.B s.xs∧(∃l,StreamB G i8 s.Bs l)∧(∀r∈s.xs,RuleOk (1+r1) (1+r2) r)∧s.xs.Nodup∧s.xs.length≤j∧(0<j→1≤s.xs.length)) (1+r4) ⟨[],none,0,0,[],B4⟩
  Z Z Z Z Z Z Z Z Z zo rfl rfl (fun _=>rfl) (fun _=>rfl) sM (OwnLe.flat (List.Perm.refl _)) ⟨Bld.nil_ _ _,⟨_,hs4⟩,by simp,by simp,by simp,by simp⟩ ?_ ?_
 ·intro j s F1 hF1 hj hP
  obtain⟨hb,⟨ls,hst⟩,hok,hnd,hlen,hpos⟩:=hP
  have hm1:=hb.len
  refine zB4 ?_
  refine WT.call1 2 Tryz.func61 Z Z Z Z Z Z Z (fun _=>rfl) (next_spec F1 i8 hst (1+r2) zo zo) (fun v B5 hv=>?_)
  obtain⟨r5,l5,rfl,hr5,hs5⟩:=hv
  refine zB4 ?_
  refine WT.allocT hT Z Z Z Z Z Z (fun i5 hi5=>?_)
  refine zB4 ?_
  refine WT.call1 3 Tryz.func61 Z Z Z Z Z Z Z (fun _=>rfl) (next_spec F1 i8 hs5 4 (by decide) (by decide)) (fun v B6 hv=>?_)
  obtain⟨r6,l6,rfl,hr6,hs6⟩:=hv
  refine zB4 ?_
  refine AW.range (S:=GI) (fun _=>[]) (fun s2=>[(i5,.cells false [.int .i64 r5,.slice s2.a s2.m s2.c])]::s2.B::[(i4,.cells false [.int .i64 (1+r1:Nat),.int .i64 (1+r2:Nat),.int .i64 r3,.slice s.a s.m s.c])]::s.B::s2.Bs::[(i2,.cells false [.int .i64 0,.int .i64 0,.int .i64 0,.slice none 0 0])]::own)
   (fun j s G=>Bld tSym G s.a s.m s.c s.B s.ys∧(∃l,StreamB G i8 s.Bs l)∧(∀y∈s.ys,SymOk (1+r1) (1+r2) y)∧s.ys.length=j) r6 ⟨[],none,0,0,[],B6⟩
   Z Z Z Z Z Z Z Z Z zo rfl rfl (fun _=>rfl) (fun _=>rfl) sM (OwnLe.flat (List.Perm.refl _)) ⟨Bld.nil_ _ _,⟨_,hs6⟩,by simp,by simp⟩ ?_ ?_
  ·intro q s2 F2 hF2 hq hP2
   obtain⟨hb2,⟨ls2,hst2⟩,hok2,hlen2⟩:=hP2
   have hm2:=hb2.len
   refine zB4 ?_
   refine WT.call1 4 Tryz.func61 Z Z Z Z Z Z Z (fun _=>rfl) (next_spec F2 i8 hst2 2 (by decide) (by decide)) (fun v B7 hv=>?_)
   obtain⟨r7,l7,rfl,hr7,hs7⟩:=hv
   refine zB4 ?_
   refine AW.cond Z (fun hc=>?_) (fun hc=>?_)
   ·refine AW.draw (ps:=[(1,5),(1,7)]) Z Z ?_
    refine zB4 ?_
    refine WT.call1 4 Tryz.func61 Z Z Z Z Z Z Z (fun _=>rfl) (next_spec F2 i8 hs7 (1+r1) zo zo) (fun v B8 hv=>?_)
    obtain⟨r8,l8,rfl,hr8,hs8⟩:=hv
    refine zB4 ?_
    refine WT.buildT hT Z Z Z Z Z Z Z Z Z Z Z Z Z Z (fun i9 hi9=>?_)
    refine WT.appendT (ys:=[⟨true,r8⟩]) hT 2 hb2 Z (fun _=>rfl) Z Z Z Z Z Z Z Z Z Z Z (fun h0 s0=>news_own hT s0 0 Z Z Z Z) (Cells.single (x:=(⟨true,r8⟩:Sym)) rfl) Z (by decide) zom (fun a3 c3 B3 hB3=>?_)
    refine zB4 ?_
    refine⟨zrC,?_⟩
    refine⟨⟨s2.ys++[⟨true,r8⟩],a3,s2.m+1,c3,B3,B8⟩,sM,zow,hB3,⟨_,hs8⟩,?_,by simp[hlen2]⟩
    intro y hy
    rcases List.mem_append.1 hy with hy | hy
    ·exact hok2 y hy
    ·obtain rfl:=List.mem_singleton.1 hy;exact hr8
   ·refine AW.draw (ps:=[(1,5),(1,7)]) Z Z ?_
    refine zB4 ?_
    refine WT.call1 4 Tryz.func61 Z Z Z Z Z Z Z (fun _=>rfl) (next_spec F2 i8 hs7 (1+r2) zo zo) (fun v B8 hv=>?_)
    obtain⟨r8,l8,rfl,hr8,hs8⟩:=hv
    refine zB4 ?_
    refine WT.buildT hT Z Z Z Z Z Z Z Z Z Z Z Z Z Z (fun i9 hi9=>?_)
    refine WT.appendT (ys:=[⟨false,r8⟩]) hT 2 hb2 Z (fun _=>rfl) Z Z Z Z Z Z Z Z Z Z Z (fun h0 s0=>news_own hT s0 0 Z Z Z Z) (Cells.single (x:=(⟨false,r8⟩:Sym)) rfl) Z (by decide) zom (fun a3 c3 B3 hB3=>?_)
    refine zB4 ?_
    refine⟨zrC,?_⟩
    refine⟨⟨s2.ys++[⟨false,r8⟩],a3,s2.m+1,c3,B3,B8⟩,sM,zow,hB3,⟨_,hs8⟩,?_,by simp[hlen2]⟩
    intro y hy
    rcases List.mem_append.1 hy with hy | hy
    ·exact hok2 y hy
    ·obtain rfl:=List.mem_singleton.1 hy;exact hr8
  ·intro s2 F2 hF2 hP2
   obtain⟨hb2,⟨ls2,hst2⟩,hok2,hlen2⟩:=hP2
   have hm2:=hb2.len
   refine AW.freezeAll 1 Z Z (fun F3 hF3 hB3=>?_)
   have hy:=hb2.frozen hF3 hB3
   have hb:=(hb.mono hF2).mono hF3
   have hst2:=hst2.mono hF3
   refine zB4 ?_
   refine WT.callLend 3 Tryz.func62 Z Z Z Z Z Z Z (fun G hG hBG=>has_spec G (left:=r5) (hb.frozen hG hBG) zom (hy.mono hG) zom) (fun v hv=>?_)
   subst hv
   refine zB4 ?_
   refine AW.cond Z (fun hc=>?_) (fun hc=>?_)
   ·refine zB4 ?_
    refine WT.buildT hT Z Z Z Z Z Z Z Z Z Z Z Z Z Z (fun i9 hi9=>?_)
    refine WT.appendT (ys:=[⟨r5,s2.ys⟩]) hT 4 hb Z (fun _=>rfl) Z Z Z Z Z Z Z Z Z Z Z (fun h0 s0=>news_own hT s0 0 Z Z Z Z) (Cells.single (R:=tRule) (x:=(⟨r5,s2.ys⟩:Rule)) ⟨_,_,_,rfl,hy⟩) Z (by decide) zom (fun a3 c3 B3 hB3=>?_)
    refine zB5 ?_
    refine⟨⟨s.xs++[⟨r5,s2.ys⟩],a3,s.m+1,c3,B3,s2.Bs⟩,sM,zow,hB3,⟨_,hst2⟩,?_,?_,?_,?_⟩
    ·intro r hr
     rcases List.mem_append.1 hr with hr | hr
     ·exact hok r hr
     ·obtain rfl:=List.mem_singleton.1 hr
      exact⟨by simp;omega,by simp;omega,hok2⟩
    ·rw[List.nodup_append]
     refine⟨hnd,by simp,fun x hx y hy=>?_⟩
     obtain rfl:=List.mem_singleton.1 hy
     rintro rfl
     simp[hx] at hc
    ·simp;omega
    ·simp
   ·refine zB4 ?_
    have hin:(⟨r5,s2.ys⟩:Rule)∈s.xs:=by simpa using hc
    refine⟨{ s with Bs:=s2.Bs },sM,zow,hb,⟨_,hst2⟩,hok,hnd,by dsimp only;omega,fun _=>List.length_pos_of_mem hin⟩
 ·intro s F1 hF1 hP
  obtain⟨hb,⟨ls,hst⟩,hok,hnd,hlen,hpos⟩:=hP
  refine AW.freezeAll 1 Z Z (fun F3 hF3 hB3=>?_)
  have hx:=hb.frozen hF3 hB3
  refine zB4 ?_
  have hx3:=hb.len
  refine AW.ret ⟨_,[],⟨_,_,⟨_,rfl,fun G h0 s0=>loadA_cells (s0.has (p:=3) Z me) (readT_ok hT rfl)⟩,rfl,rfl⟩,zsb,rfl,⟨1+r1,1+r2,r3,s.xs⟩,⟨_,_,_,rfl,hx⟩,?_⟩
  exact⟨by dsimp only;omega,by dsimp only;omega,hr3,by dsimp only;omega,hnd,hok⟩
theorem isNaN_spec(F:Frz)(x:Int):Abs.Spec CC 76 [.int .i64 x] F [] fun _ v o=>o=[]∧v=.bool false:=by
 refine Abs.Spec.fn (n:=6) Tryz.func76 rfl rfl fun own=>?_
 refine zB4 ?_
 exact AW.ret ⟨_,[],⟨_,_,rfl,rfl,rfl⟩,List.Sublist.refl _,rfl,by simp[tupleA]⟩
def cmpInt(x y:Int):Int:=if x<y then -1 else if x > y then 1 else 0
theorem compare_spec(F:Frz)(x y:Int):Abs.Spec CC 48 [.int .i64 x,.int .i64 y] F [] fun _ v o=>o=[]∧v=.int .i64 (cmpInt x y):=by
 refine Abs.Spec.fn (n:=20) Tryz.func48 rfl rfl fun own=>?_
 refine zB4 ?_
 refine WT.callV Tryz.func76 Z Z Z Z Z Z (isNaN_spec _ x) (fun v hv=>?_)
 subst hv
 refine zB4 ?_
 refine WT.callV Tryz.func76 Z Z Z Z Z Z (isNaN_spec _ y) (fun v hv=>?_)
 subst hv
 refine zB4 ?_
 refine AW.cond Z (fun hc=>(by cases hc)) (fun _=>?_)
 refine zB4 ?_
 refine AW.cond Z (fun hc=>(by cases hc)) (fun _=>?_)
 refine zB4 ?_
 refine AW.cond Z (fun hc=>?_) (fun hc=>?_)
 ·refine zB4 ?_
  exact AW.ret ⟨_,[],⟨_,_,rfl,rfl,rfl⟩,List.Sublist.refl _,rfl,by simp at hc;simp[tupleA,cmpInt,hc]⟩
 ·refine zB4 ?_
  refine AW.cond Z (fun hc2=>?_) (fun hc2=>?_)
  ·refine zB4 ?_
   exact AW.ret ⟨_,[],⟨_,_,rfl,rfl,rfl⟩,List.Sublist.refl _,rfl,by simp at hc hc2;simp[tupleA,cmpInt];omega⟩
  ·refine zB4 ?_
   exact AW.ret ⟨_,[],⟨_,_,rfl,rfl,rfl⟩,List.Sublist.refl _,rfl,by simp at hc hc2;simp[tupleA,cmpInt];omega⟩
def orInt:List Int→Int
 | []=>0
 | x::l=>if x=0 then orInt l else x
theorem orInt_take{l:List Int}{j:Nat}(h:∀y∈l.take j,y=0):orInt l=orInt (l.drop j):=by
 induction j generalizing l with
 | zero=>simp
 | succ j ih=>
  cases l with
  | nil=>simp
  | cons x l=>
   have hx:x=0:=h x (by simp)
   simp only[orInt,hx,if_true,List.drop_succ_cons]
   exact ih (fun y hy=>h y (by simp[hy]))
theorem or_spec(F:Frz){a:Option Addr}{m c:Nat}{l:List Int}(hl:Arr tInt F a m c l)(hm:m≤1000000):Abs.Spec CC 108 [.slice a m c] F [] fun _ v o=>o=[]∧v=.int .i64 (orInt l):=by
 refine Abs.Spec.fn (n:=18) Tryz.func108 rfl rfl fun own=>?_
 have hlen:=hl.len
 refine zB4 ?_
 refine AW.range (S:=Unit) (fun _=>[]) (fun _=>_) (fun j _ _=>∀y∈l.take j,y=0) m () Z Z Z Z Z Z Z Z Z zo Z Z (fun _=>rfl) (fun _=>rfl) sM oR (by simp) ?_ ?_
 ·intro j _ F1 hF1 hj hP
  have hl1:=hl.mono hF1
  refine zB4 ?_
  refine WT.idxL hT hl1 Z Z Z Z Z Z Z Z Z zo (fun x hx b1 off ro cs lx hb hp hrel=>?_)
  obtain rfl:lx=_:=hrel
  refine zB4 ?_
  refine AW.cond Z (fun hc=>?_) (fun hc=>?_)
  ·refine zB4 ?_
   refine AW.ret ⟨_,[],⟨_,_,rfl,rfl,rfl⟩,List.Sublist.refl _,rfl,?_⟩
   have hc:x≠0:=by simpa using hc
   rw[orInt_take hP,List.drop_eq_getElem_cons (show j<l.length by omega)]
   have:l[j]=x:=by rw[gE zo] at hx;simpa using hx
   simp[orInt,this,hc,tupleA]
  ·refine zB4 ?_
   have hc:x=0:=by simpa using hc
   exact⟨(),sM,zow,take_all hx hP hc⟩
 ·intro _ F1 hF1 hP
  refine zB4 ?_
  refine AW.ret ⟨_,[],⟨_,_,rfl,rfl,rfl⟩,List.Sublist.refl _,rfl,?_⟩
  rw[orInt_take hP,List.drop_of_length_le zo]
  rfl
def cmpSym(a b:Sym):Int:=if a.term=b.term then cmpInt a.n b.n else if a.term=true then -1 else 1
theorem order_spec(F:Frz)(a b:Sym):Abs.Spec CC 121 [.agg ⟨[.bool a.term,.int .i64 a.n]⟩,.agg ⟨[.bool b.term,.int .i64 b.n]⟩] F [] fun _ v o=>o=[]∧v=.int .i64 (cmpSym a b):=by
 refine Abs.Spec.fn (n:=17) Tryz.func121 rfl rfl fun own=>?_
 refine AW.seq (AW.reg ?_)
 refine WT.boxT Z Z Z Z Z Z (fun i1 hi1=>?_)
 refine WT.boxT Z Z Z Z Z Z (fun i2 hi2=>?_)
 refine zB4 ?_
 refine AW.cond Z (fun hc=>?_) (fun hc=>?_)
 ·have hc:a.term≠b.term:=by simpa using hc
  refine zB4 ?_
  refine AW.cond Z (fun hc2=>?_) (fun hc2=>?_)
  ·refine zB4 ?_
   refine AW.ret ⟨_,[],⟨_,_,rfl,rfl,rfl⟩,zsb,rfl,?_⟩
   rw[cmpSym,if_neg hc,if_pos hc2];rfl
  ·refine zB4 ?_
   refine AW.ret ⟨_,[],⟨_,_,rfl,rfl,rfl⟩,zsb,rfl,?_⟩
   rw[cmpSym,if_neg hc,if_neg (by simp[hc2])];rfl
 ·have hc:a.term=b.term:=by simpa using hc
  refine zB4 ?_
  refine WT.callV Tryz.func48 Z Z Z Z Z Z (compare_spec _ _ _) (fun v hv=>?_)
  subst hv
  refine zB4 ?_
  refine AW.ret ⟨_,[],⟨_,_,rfl,rfl,rfl⟩,zsb,rfl,?_⟩
  simp[cmpSym,hc,tupleA]
def cmpSyms:List Sym→List Sym→Int
 | [],[]=>0
 | [],_::_=>-1
 | _::_,[]=>1
 | a::l,b::m=>if cmpSym a b=0 then cmpSyms l m else cmpSym a b
theorem cmpSyms_take:∀(j:Nat) (l m:List Sym),j≤l.length→j≤m.length→(∀i (h1:i<l.length) (h2:i<m.length),i<j→cmpSym l[i] m[i]=0)→cmpSyms l m=cmpSyms (l.drop j) (m.drop j)
 | 0,l,m,_,_,_=>by simp
 | j+1,[],m,h,_,_=>by simp at h
 | j+1,_::_,[],_,h,_=>by simp at h
 | j+1,a::l,b::m,h1,h2,h=>by
  have h0:=h 0 (by simp) (by simp) zo
  simp only[List.getElem_cons_zero] at h0
  simp only[cmpSyms,h0,if_true,List.drop_succ_cons]
  exact cmpSyms_take j l m (by simpa using h1) (by simpa using h2) (fun i h3 h4 h5=>h (i+1) (by simpa using h3) (by simpa using h4) zo)
theorem compareFunc_spec(F:Frz){a b:Option Addr}{m n c d:Nat}{xs ys:List Sym}(hx:Arr tSym F a m c xs)(hy:Arr tSym F b n d ys)(hm:m≤1000000)(hn:n≤1000000) :
  Abs.Spec CC 120 [.slice a m c,.slice b n d,.func (.func 121) ⟨[]⟩ ⟨[]⟩] F [] fun _ v o=>o=[]∧v=.int .i64 (cmpSyms xs ys):=by
 refine Abs.Spec.fn (n:=39) Tryz.func120 rfl rfl fun own=>?_
 have hxlen:=hx.len
 have hylen:=hy.len
 refine zB4 ?_
 refine AW.range (S:=Unit) (fun _=>[]) (fun _=>_) (fun j _ _=>j≤n∧∀i (h1:i<xs.length) (h2:i<ys.length),i<j→cmpSym xs[i] ys[i]=0) m () Z Z Z Z Z Z Z Z Z zo Z Z (fun _=>rfl) (fun _=>rfl) sM oR ⟨by omega,by omega⟩ ?_ ?_
 ·intro j _ F1 hF1 hj hP
  obtain⟨hjn,hP⟩:=hP
  have hx1:=hx.mono hF1
  have hy1:=hy.mono hF1
  refine zB4 ?_
  refine WT.idxL hT hx1 Z Z Z Z Z Z Z Z Z zo (fun x hxj b1 off ro cs lx hb hp hrel=>?_)
  obtain rfl:lx=_:=hrel
  refine zB4 ?_
  refine WT.allocT hT Z Z Z Z Z Z (fun i1 hi1=>?_)
  refine zB4 ?_
  refine AW.cond Z (fun hc=>?_) (fun hc=>?_)
  ·have hc:n≤j:=by simp at hc;omega
   refine zB4 ?_
   refine AW.ret ⟨_,[],⟨_,_,rfl,rfl,rfl⟩,zsb,rfl,?_⟩
   rw[cmpSyms_take j xs ys zo zo hP,List.drop_of_length_le (show ys.length≤j by omega),List.drop_eq_getElem_cons (show j<xs.length by omega)]
   rfl
  ·have hc:j<n:=by simp at hc;omega
   refine zB4 ?_
   refine WT.idxL hT hy1 Z Z Z Z Z Z Z Z Z zo (fun y hyj b2 off2 ro2 cs2 ly hb2 hp2 hrel2=>?_)
   obtain rfl:ly=_:=hrel2
   refine zB4 ?_
   refine WT.allocT hT Z Z Z Z Z Z (fun i2 hi2=>?_)
   refine zB4 ?_
   refine WT.callC Tryz.func121 Z Z Z Z Z Z Z Z (order_spec _ x y) (fun v hv=>?_)
   subst hv
   have ex:xs[j]'zo=x:=by rw[gE zo] at hxj;simpa using hxj
   have ey:ys[j]'zo=y:=by rw[gE zo] at hyj;simpa using hyj
   refine zB4 ?_
   refine AW.cond Z (fun hc2=>?_) (fun hc2=>?_)
   ·have hc2:cmpSym x y≠0:=by simpa using hc2
    refine zB4 ?_
    refine AW.ret ⟨_,[],⟨_,_,rfl,rfl,rfl⟩,zsb,rfl,?_⟩
    rw[cmpSyms_take j xs ys zo zo hP,List.drop_eq_getElem_cons (show j<xs.length by omega),List.drop_eq_getElem_cons (show j<ys.length by omega)]
    simp[cmpSyms,ex,ey,hc2,tupleA]
   ·have hc2:cmpSym x y=0:=by simpa using hc2
    refine zB4 ?_
    refine⟨(),sM,zow,by omega,fun i h1 h2 h3=>?_⟩
    rcases Nat.lt_or_ge i j with h4 | h4
    ·exact hP i h1 h2 h4
    ·have:i=j:=by omega
     subst this
     rw[ex,ey];exact hc2
 ·intro _ F1 hF1 hP
  obtain⟨hjn,hP⟩:=hP
  refine zB4 ?_
  have e:=cmpSyms_take m xs ys zo zo hP
  rw[List.drop_of_length_le (show xs.length≤m by omega)] at e
  refine AW.cond Z (fun hc=>?_) (fun hc=>?_)
  ·have hc:m<n:=by simp at hc;omega
   refine zB4 ?_
   refine AW.ret ⟨_,[],⟨_,_,rfl,rfl,rfl⟩,zsb,rfl,?_⟩
   rw[e,List.drop_eq_getElem_cons (show m<ys.length by omega)];rfl
  ·have hc:m=n:=by simp at hc;omega
   refine zB4 ?_
   refine AW.ret ⟨_,[],⟨_,_,rfl,rfl,rfl⟩,zsb,rfl,?_⟩
   rw[e,List.drop_of_length_le (show ys.length≤m by omega)];rfl
def cmpRule(a b:Rule):Int:=orInt [cmpInt a.left b.left,cmpSyms a.right b.right]
theorem cmpInt_zero{x y:Int}:cmpInt x y=0↔x=y:=by unfold cmpInt;split<;>(try split)<;>omega
theorem cmpSym_zero{a b:Sym}:cmpSym a b=0↔a=b:=by
 obtain⟨s,n⟩:=a;obtain⟨t,m⟩:=b
 unfold cmpSym
 simp only[Sym.mk.injEq]
 by_cases h:s=t
 ·simp[h,cmpInt_zero];omega
 ·simp only[h,if_false,false_and,iff_false];split<;>decide
theorem cmpSyms_zero:∀(l m:List Sym),cmpSyms l m=0↔l=m
 | [],[]=>by simp[cmpSyms]
 | [],_::_=>by simp[cmpSyms]
 | _::_,[]=>by simp[cmpSyms]
 | a::l,b::m=>by
  simp only[cmpSyms,List.cons.injEq]
  by_cases h:cmpSym a b=0
  ·simp only[h,if_true,cmpSyms_zero l m];simp[cmpSym_zero.1 h]
  ·rw[if_neg h]
   constructor
   ·intro h2;exact absurd h2 h
   ·rintro⟨h2,_⟩;exact absurd (cmpSym_zero.2 h2) h
theorem cmpRule_zero{a b:Rule}:cmpRule a b=0↔a=b:=by
 obtain⟨x,l⟩:=a;obtain⟨y,m⟩:=b
 simp only[cmpRule,orInt,Rule.mk.injEq]
 by_cases h:cmpInt x y=0
 ·simp only[h,if_true]
  have h3:=cmpInt_zero.1 h
  have:x=y:=by omega
  simp only[this,true_and]
  have h2:=cmpSyms_zero l m
  split
  ·rename_i h4;simp[h2.1 h4]
  ·rename_i h4
   constructor
   ·intro h5;exact absurd h5 h4
   ·intro h5;exact absurd (h2.2 h5) h4
 ·rw[if_neg h]
  constructor
  ·intro h2;exact absurd h2 h
  ·rintro⟨h2,_⟩
   exact absurd (cmpInt_zero.2 (by rw[h2])) h
theorem compareRule_spec(F:Frz)(x y:Rule){a b:Option Addr}{m n c d:Nat}(hx:Arr tSym F a m c x.right)(hy:Arr tSym F b n d y.right)(hm:m≤1000000)(hn:n≤1000000) :
  Abs.Spec CC 99 [.agg ⟨[.int .i64 x.left,.slice a m c]⟩,.agg ⟨[.int .i64 y.left,.slice b n d]⟩] F [] fun _ v o=>o=[]∧v=.int .i64 (cmpRule x y):=by
 refine Abs.Spec.fn (n:=17) Tryz.func99 rfl rfl fun own=>?_
 refine AW.seq (AW.reg ?_)
 refine WT.boxT Z Z Z Z Z Z (fun i1 hi1=>?_)
 refine WT.boxT Z Z Z Z Z Z (fun i2 hi2=>?_)
 refine zB4 ?_
 refine AW.draw (ps:=[(6,4),(8,4)]) Z Z ?_
 refine zB4 ?_
 refine WT.callV Tryz.func48 Z Z Z Z Z Z (compare_spec _ _ _) (fun v hv=>?_)
 subst hv
 refine zB4 ?_
 refine WT.callV Tryz.func120 Z Z Z Z Z Z (compareFunc_spec _ hx hy hm hn) (fun v hv=>?_)
 subst hv
 skip
 refine WT.buildT hT Z Z Z Z Z Z Z Z Z Z Z Z Z Z (fun i9 hi9=>?_)
 refine WT.callLend 0 Tryz.func108 Z Z Z Z Z Z Z (fun G hG hBG=>or_spec G (l:=[cmpInt x.left y.left,cmpSyms x.right y.right]) (Bld.frozen (F:=F) (B:=[(i9,.cells false [.int .i64 (cmpInt x.left y.left),.int .i64 (cmpSyms x.right y.right)])]) ⟨rfl,.inr ⟨i9,_,rfl,rfl,rfl,Cells.cons (l:=[_]) Z (Cells.single (x:=cmpSyms x.right y.right) rfl),by decide⟩⟩ hG hBG) (by decide)) (fun v hv=>?_)
 subst hv
 refine zB4 ?_
 refine⟨zrC,?_⟩
 skip
 exact AW.ret ⟨_,[],⟨_,_,rfl,rfl,rfl⟩,zsb,rfl,rfl⟩
def idxOf{α:Type}(p:α→Bool):List α→Int
 | []=>-1
 | x::l=>if p x=true then 0 else if idxOf p l=-1 then -1 else idxOf p l+1
theorem idxOf_ge{α:Type}(p:α→Bool):∀l:List α,-1≤idxOf p l
 | []=>by simp[idxOf]
 | x::l=>by have:=idxOf_ge p l;simp only[idxOf];split<;>(try split)<;>omega
theorem idxOf_take{α:Type}{p:α→Bool}:∀{l:List α} {j:Nat},j≤l.length→(∀y∈l.take j,p y=false)→idxOf p l=if idxOf p (l.drop j)=-1 then -1 else idxOf p (l.drop j)+j
 | l,0,_,_=>by simp
 | [],j+1,h,_=>by simp at h
 | x::l,j+1,h,h2=>by
  have hx:p x=false:=h2 x (by simp)
  have ih:=@idxOf_take α p l j (by simpa using h) (fun y hy=>h2 y (by simp[hy]))
  have:=idxOf_ge p (l.drop j)
  simp only[idxOf,hx,List.drop_succ_cons]
  rw[ih]
  by_cases h3:idxOf p (l.drop j)=-1
  ·simp[h3]
  ·simp only[h3,if_false]
   rw[if_neg (by simp),if_neg zo]
   omega
theorem idxOf_nonneg'{α:Type}{p:α→Bool}:∀{l:List α},0≤idxOf p l↔l.any p=true
 | []=>by simp[idxOf]
 | x::l=>by
  have ih:=@idxOf_nonneg' α p l
  have:=idxOf_ge p l
  simp only[idxOf,List.any_cons,Bool.or_eq_true,←ih]
  by_cases hx:p x=true
  ·simp[hx]
  ·rw[if_neg hx]
   constructor
   ·intro h
    right
    split at h<;>omega
   ·intro h
    rcases h with h | h
    ·exact absurd h hx
    ·rw[if_neg zo];omega
theorem idxOf_nonneg{α:Type}{p:α→Bool}{l:List α}:decide (idxOf p l≥0)=l.any p:=by
 rw[Bool.eq_iff_iff,decide_eq_true_eq];exact idxOf_nonneg'
theorem idxOf_at{α:Type}{p:α→Bool}{l:List α}{j:Nat}{x:α}(hx:l[j]?=some x)(hp:p x=true)(h:∀y∈l.take j,p y=false):idxOf p l=j:=by
 have hj:j<l.length:=(gS hx).1
 rw[idxOf_take zo h,List.drop_eq_getElem_cons hj]
 have:l[j]=x:=by rw[gE hj] at hx;simpa using hx
 simp[idxOf,this,hp]
theorem idxOf_none{α:Type}{p:α→Bool}{l:List α}(h:∀y∈l,p y=false):idxOf p l=-1:=by
 rw[idxOf_take (j:=l.length) (Nat.le_refl _) (by simpa using h)]
 simp[idxOf]
theorem symIndex_spec(F:Frz){a:Option Addr}{m c:Nat}{xs:List Sym}(hx:Arr tSym F a m c xs)(hm:m≤1000000)(p:Sym→Bool){g:Nat}{fn:Func}{first capt:List Value}(hg:CC.func g=some fn)(hgb:fn.body.isSome=true)
  (hp:∀x∈xs,  Abs.Spec CC g (first++[.agg ⟨[.bool x.term,.int .i64 x.n]⟩]++capt) F [] fun _ v o=>o=[]∧v=.bool (p x)) :
  Abs.Spec CC 118 [.slice a m c,.func (.func g) ⟨first⟩ ⟨capt⟩] F [] fun _ v o=>o=[]∧v=.int .i64 (idxOf p xs):=by
 refine Abs.Spec.fn (n:=19) Tryz.func118 rfl rfl fun own=>?_
 have hxlen:=hx.len
 refine zB4 ?_
 refine AW.range (S:=Unit) (fun _=>[]) (fun _=>_) (fun j _ G=>G=F∧∀y∈xs.take j,p y=false) m () Z Z Z Z Z Z Z Z Z zo Z Z (fun _=>rfl) (fun _=>rfl) sM oR ⟨rfl,by simp⟩ ?_ ?_
 ·intro j _ F1 hF1 hj hP
  obtain⟨rfl,hP⟩:=hP
  refine zB4 ?_
  refine WT.idxL hT hx Z Z Z Z Z Z Z Z Z zo (fun x hxj b1 off ro cs lx hb hp1 hrel=>?_)
  obtain rfl:lx=_:=hrel
  refine zB4 ?_
  refine WT.callC hg hgb Z Z Z Z Z Z Z (hp x (gM hxj) ) (fun v hv=>?_)
  subst hv
  refine zB4 ?_
  refine AW.cond Z (fun hc=>?_) (fun hc=>?_)
  ·refine zB4 ?_
   refine AW.ret ⟨_,[],⟨_,_,rfl,rfl,rfl⟩,zsb,rfl,?_⟩
   rw[idxOf_at hxj hc hP];rfl
  ·refine zB4 ?_
   exact⟨(),sM,zow,rfl,take_all hxj hP hc⟩
 ·intro _ F1 hF1 hP
  obtain⟨rfl,hP⟩:=hP
  rw[List.take_of_length_le zo] at hP
  refine zB4 ?_
  refine AW.ret ⟨_,[],⟨_,_,rfl,rfl,rfl⟩,zsb,rfl,?_⟩
  rw[idxOf_none hP];rfl
theorem symAny_spec(F:Frz){a:Option Addr}{m c:Nat}{xs:List Sym}(hx:Arr tSym F a m c xs)(hm:m≤1000000)(p:Sym→Bool){g:Nat}{fn:Func}{first capt:List Value}(hg:CC.func g=some fn)(hgb:fn.body.isSome=true)
  (hp:∀x∈xs,  Abs.Spec CC g (first++[.agg ⟨[.bool x.term,.int .i64 x.n]⟩]++capt) F [] fun _ v o=>o=[]∧v=.bool (p x)) :
  Abs.Spec CC 94 [.slice a m c,.func (.func g) ⟨first⟩ ⟨capt⟩] F [] fun _ v o=>o=[]∧v=.bool (xs.any p):=by
 refine Abs.Spec.fn (n:=9) Tryz.func94 rfl rfl fun own=>?_
 refine zB4 ?_
 refine WT.callV Tryz.func118 Z Z Z Z Z Z (symIndex_spec _ hx hm p hg hgb hp) (fun v hv=>?_)
 subst hv
 refine zB4 ?_
 refine AW.ret ⟨_,[],⟨_,_,rfl,rfl,rfl⟩,zsb,rfl,?_⟩
 rw[←idxOf_nonneg];rfl
theorem ruleIndex_spec(F:Frz){a:Option Addr}{m c:Nat}{xs:List Rule}(hx:Arr tRule F a m c xs)(hm:m≤1000000)(p:Rule→Bool){g:Nat}{fn:Func}{first capt:List Value}(hg:CC.func g=some fn)(hgb:fn.body.isSome=true)
  (hp:∀x∈xs,∀b n d,Arr tSym F b n d x.right→Abs.Spec CC g (first++[.agg ⟨[.int .i64 x.left,.slice b n d]⟩]++capt) F [] fun _ v o=>o=[]∧v=.bool (p x)) :
  Abs.Spec CC 119 [.slice a m c,.func (.func g) ⟨first⟩ ⟨capt⟩] F [] fun _ v o=>o=[]∧v=.int .i64 (idxOf p xs):=by
 refine Abs.Spec.fn (n:=19) Tryz.func119 rfl rfl fun own=>?_
 have hxlen:=hx.len
 refine zB4 ?_
 refine AW.range (S:=Unit) (fun _=>[]) (fun _=>_) (fun j _ G=>G=F∧∀y∈xs.take j,p y=false) m () Z Z Z Z Z Z Z Z Z zo Z Z (fun _=>rfl) (fun _=>rfl) sM oR ⟨rfl,by simp⟩ ?_ ?_
 ·intro j _ F1 hF1 hj hP
  obtain⟨rfl,hP⟩:=hP
  refine zB4 ?_
  refine WT.idxL hT hx Z Z Z Z Z Z Z Z Z zo (fun x hxj b1 off ro cs lx hb hp1 hrel=>?_)
  obtain⟨b2,n2,d2,rfl,hx2⟩:=hrel
  refine zB4 ?_
  refine WT.callC hg hgb Z Z Z Z Z Z Z (hp x (gM hxj) _ _ _ hx2) (fun v hv=>?_)
  subst hv
  refine zB4 ?_
  refine AW.cond Z (fun hc=>?_) (fun hc=>?_)
  ·refine zB4 ?_
   refine AW.ret ⟨_,[],⟨_,_,rfl,rfl,rfl⟩,zsb,rfl,?_⟩
   rw[idxOf_at hxj hc hP];rfl
  ·refine zB4 ?_
   exact⟨(),sM,zow,rfl,take_all hxj hP hc⟩
 ·intro _ F1 hF1 hP
  obtain⟨rfl,hP⟩:=hP
  rw[List.take_of_length_le zo] at hP
  refine zB4 ?_
  refine AW.ret ⟨_,[],⟨_,_,rfl,rfl,rfl⟩,zsb,rfl,?_⟩
  rw[idxOf_none hP];rfl
theorem ruleAny_spec(F:Frz){a:Option Addr}{m c:Nat}{xs:List Rule}(hx:Arr tRule F a m c xs)(hm:m≤1000000)(p:Rule→Bool){g:Nat}{fn:Func}{first capt:List Value}(hg:CC.func g=some fn)(hgb:fn.body.isSome=true)
  (hp:∀x∈xs,∀b n d,Arr tSym F b n d x.right→Abs.Spec CC g (first++[.agg ⟨[.int .i64 x.left,.slice b n d]⟩]++capt) F [] fun _ v o=>o=[]∧v=.bool (p x)) :
  Abs.Spec CC 97 [.slice a m c,.func (.func g) ⟨first⟩ ⟨capt⟩] F [] fun _ v o=>o=[]∧v=.bool (xs.any p):=by
 refine Abs.Spec.fn (n:=9) Tryz.func97 rfl rfl fun own=>?_
 refine zB4 ?_
 refine WT.callV Tryz.func119 Z Z Z Z Z Z (ruleIndex_spec _ hx hm p hg hgb hp) (fun v hv=>?_)
 subst hv
 refine zB4 ?_
 refine AW.ret ⟨_,[],⟨_,_,rfl,rfl,rfl⟩,zsb,rfl,?_⟩
 rw[←idxOf_nonneg];rfl
theorem numIndex_spec(F:Frz){a:Option Addr}{m c:Nat}{xs:List Nat}(hx:Arr tNat F a m c xs)(hm:m≤1000000)(p:Nat→Bool){g:Nat}{fn:Func}{first capt:List Value}(hg:CC.func g=some fn)(hgb:fn.body.isSome=true)
  (hp:∀x∈xs,  Abs.Spec CC g (first++[.int .i64 (x:Nat)]++capt) F [] fun _ v o=>o=[]∧v=.bool (p x)) :
  Abs.Spec CC 111 [.slice a m c,.func (.func g) ⟨first⟩ ⟨capt⟩] F [] fun _ v o=>o=[]∧v=.int .i64 (idxOf p xs):=by
 refine Abs.Spec.fn (n:=19) Tryz.func111 rfl rfl fun own=>?_
 have hxlen:=hx.len
 refine zB4 ?_
 refine AW.range (S:=Unit) (fun _=>[]) (fun _=>_) (fun j _ G=>G=F∧∀y∈xs.take j,p y=false) m () Z Z Z Z Z Z Z Z Z zo Z Z (fun _=>rfl) (fun _=>rfl) sM oR ⟨rfl,by simp⟩ ?_ ?_
 ·intro j _ F1 hF1 hj hP
  obtain⟨rfl,hP⟩:=hP
  refine zB4 ?_
  refine WT.idxL hT hx Z Z Z Z Z Z Z Z Z zo (fun x hxj b1 off ro cs lx hb hp1 hrel=>?_)
  obtain rfl:lx=_:=hrel
  refine zB4 ?_
  refine WT.callC hg hgb Z Z Z Z Z Z Z (hp x (gM hxj) ) (fun v hv=>?_)
  subst hv
  refine zB4 ?_
  refine AW.cond Z (fun hc=>?_) (fun hc=>?_)
  ·refine zB4 ?_
   refine AW.ret ⟨_,[],⟨_,_,rfl,rfl,rfl⟩,zsb,rfl,?_⟩
   rw[idxOf_at hxj hc hP];rfl
  ·refine zB4 ?_
   exact⟨(),sM,zow,rfl,take_all hxj hP hc⟩
 ·intro _ F1 hF1 hP
  obtain⟨rfl,hP⟩:=hP
  rw[List.take_of_length_le zo] at hP
  refine zB4 ?_
  refine AW.ret ⟨_,[],⟨_,_,rfl,rfl,rfl⟩,zsb,rfl,?_⟩
  rw[idxOf_none hP];rfl
theorem numAny_spec(F:Frz){a:Option Addr}{m c:Nat}{xs:List Nat}(hx:Arr tNat F a m c xs)(hm:m≤1000000)(p:Nat→Bool){g:Nat}{fn:Func}{first capt:List Value}(hg:CC.func g=some fn)(hgb:fn.body.isSome=true)
  (hp:∀x∈xs,  Abs.Spec CC g (first++[.int .i64 (x:Nat)]++capt) F [] fun _ v o=>o=[]∧v=.bool (p x)) :
  Abs.Spec CC 80 [.slice a m c,.func (.func g) ⟨first⟩ ⟨capt⟩] F [] fun _ v o=>o=[]∧v=.bool (xs.any p):=by
 refine Abs.Spec.fn (n:=9) Tryz.func80 rfl rfl fun own=>?_
 refine zB4 ?_
 refine WT.callV Tryz.func111 Z Z Z Z Z Z (numIndex_spec _ hx hm p hg hgb hp) (fun v hv=>?_)
 subst hv
 refine zB4 ?_
 refine AW.ret ⟨_,[],⟨_,_,rfl,rfl,rfl⟩,zsb,rfl,?_⟩
 rw[←idxOf_nonneg];rfl
def hasSym(g:Gram)(y:Sym):Bool:=if y.term=true then decide (y.n<g.terms) else decide (y.n<g.nons)
theorem has2_spec(F:Frz)(g:Gram){a:Option Addr}{m c:Nat}(y:Sym) :
  Abs.Spec CC 96 [.agg ⟨[.int .i64 g.terms,.int .i64 g.nons,.int .i64 g.start,.slice a m c]⟩,.agg ⟨[.bool y.term,.int .i64 y.n]⟩] F [] fun _ v o=>o=[]∧v=.bool (hasSym g y):=by
 refine Abs.Spec.fn (n:=31) Tryz.func96 rfl rfl fun own=>?_
 refine AW.seq (AW.reg ?_)
 refine WT.boxT Z Z Z Z Z Z (fun i1 hi1=>?_)
 refine WT.boxT Z Z Z Z Z Z (fun i2 hi2=>?_)
 refine zB4 ?_
 have e1:decide ((y.n:Int)≥0)=true:=by simp
 refine WT.split 8 Z (fun _=>?_) (fun h=>(by rw[e1] at h;cases h))
 skip
 have e2:∀m:Nat,decide ((y.n:Int)<(m:Int))=decide (y.n<m):=fun m=>by rw[decide_eq_decide];omega
 cases ht:y.term with
 | true=>
  refine zB4 ?_
  refine WT.split 18 Z (fun h=>?_) (fun h=>?_)
  ·refine zB4 ?_
   refine AW.ret ⟨_,[],⟨_,_,rfl,rfl,rfl⟩,zsb,rfl,?_⟩
   rw[e2] at h
   simp only[hasSym,ht,if_true,h];rfl
  ·refine zB4 ?_
   refine AW.ret ⟨_,[],⟨_,_,rfl,rfl,rfl⟩,zsb,rfl,?_⟩
   rw[e2] at h
   simp only[hasSym,ht,if_true,h];rfl
 | false=>
  refine zB4 ?_
  refine AW.ret ⟨_,[],⟨_,_,rfl,rfl,rfl⟩,zsb,rfl,?_⟩
  simp only[hasSym,ht,←e2];rfl
def gramCells(g:Gram)(a:Option Addr)(m c:Nat):List Value:=[.int .i64 g.terms,.int .i64 g.nons,.int .i64 g.start,.slice a m c]
theorem check1_spec(F:Frz)(g:Gram){a:Option Addr}{m c:Nat}{i:Nat}{ro:Bool}(hi:F i=some (.cells ro (gramCells g a m c)))(y:Sym) :
  Abs.Spec CC 95 [.agg ⟨[.bool y.term,.int .i64 y.n]⟩,.pointer (some ⟨i,0,none⟩)] F [] fun _ v o=>o=[]∧v=.bool (!hasSym g y):=by
 unfold gramCells at hi
 refine Abs.Spec.fn (n:=8) Tryz.func95 rfl rfl fun own=>?_
 refine AW.seq (AW.reg ?_)
 refine WT.boxT Z Z Z Z Z Z (fun i2 hi2=>?_)
 refine zB4 ?_
 refine WT.callV Tryz.func96 Z Z Z Z Z Z (has2_spec _ g y) (fun v hv=>?_)
 subst hv
 refine zB4 ?_
 exact AW.ret ⟨_,[],⟨_,_,rfl,rfl,rfl⟩,zsb,rfl,rfl⟩
theorem check2_spec(F:Frz)(r:Rule){a:Option Addr}{m c:Nat}{i:Nat}{ro:Bool}(hi:F i=some (.cells ro [.int .i64 r.left,.slice a m c]))(hr:Arr tSym F a m c r.right)(hm:m≤1000000)(x:Rule)
  {b:Option Addr} {n d:Nat} (hx:Arr tSym F b n d x.right) (hn:n≤1000000) :
  Abs.Spec CC 98 [.agg ⟨[.int .i64 x.left,.slice b n d]⟩,.pointer (some ⟨i,0,none⟩)] F [] fun _ v o=>o=[]∧v=.bool (decide (x=r)):=by
 refine Abs.Spec.fn (n:=8) Tryz.func98 rfl rfl fun own=>?_
 refine AW.seq (AW.reg ?_)
 refine WT.boxT Z Z Z Z Z Z (fun i2 hi2=>?_)
 refine zB4 ?_
 refine WT.callV Tryz.func99 Z Z Z Z Z Z (compareRule_spec _ x r hx hr hn hm) (fun v hv=>?_)
 subst hv
 refine zB4 ?_
 refine AW.ret ⟨_,[],⟨_,_,rfl,rfl,rfl⟩,zsb,rfl,?_⟩
 have:(cmpRule x r==0)=decide (x=r):=by
  rw[Bool.eq_iff_iff];simp[cmpRule_zero]
 rw[←this];rfl
def ruleErr(g:Gram)(pre:List Rule)(r:Rule):Nat:=
 if g.nons≤r.left then 3 else if 4<r.right.length then 2 else if r.right.any (fun y=>!hasSym g y)=true then 3 else if pre.any (fun x=>decide (x=r))=true then 6 else 0
def rulesErr(g:Gram):List Rule→List Rule→Nat
 | _,[]=>0
 | pre,r::l=>if ruleErr g pre r=0 then rulesErr g (pre++[r]) l else ruleErr g pre r
structure InRange(g:Gram):Prop where
 terms:1≤g.terms∧g.terms≤8
 nons:1≤g.nons∧g.nons≤10
 start:g.start<g.nons
 rules:g.rules.length≤32
 right:∀r∈g.rules,r.right.length≤1000000
theorem rulesErr_split(g:Gram):∀(j:Nat) (pre l:List Rule),j≤l.length→(∀i (h:i<l.length),i<j→ruleErr g (pre++l.take i) l[i]=0)→rulesErr g pre l=rulesErr g (pre++l.take j) (l.drop j)
 | 0,pre,l,_,_=>by simp
 | j+1,pre,[],h,_=>by simp at h
 | j+1,pre,r::l,h,h2=>by
  have h0:=h2 0 (by simp) zo
  simp only[List.take_zero,List.append_nil,List.getElem_cons_zero] at h0
  simp only[rulesErr,h0,if_true]
  rw[rulesErr_split g j (pre++[r]) l (by simpa using h) (fun i h3 h4=>by
   have:=h2 (i+1) (by simpa using h3) zo
   simpa using this)]
  simp
theorem check_spec(F:Frz)(g:Gram)(hg:InRange g){a:Option Addr}{m c:Nat}(hr:Arr tRule F a m c g.rules) :
  Abs.Spec CC 68 [.agg ⟨gramCells g a m c⟩] F [] fun _ v o=>o=[]∧v=.int .i64 (rulesErr g [] g.rules:Nat):=by
 unfold gramCells
 have hlen:=hr.len
 obtain⟨⟨ht1,ht2⟩,⟨hn1,hn2⟩,hst,hrl,hrr⟩:=hg
 refine Abs.Spec.fn (n:=76) Tryz.func68 rfl rfl fun own=>?_
 refine AW.seq (AW.reg ?_)
 refine WT.boxT Z Z Z Z Z Z (fun i1 hi1=>?_)
 refine WT.freezeAll 0 Z Z (fun F1 hF1 hB1=>?_)
 have hi1:=hB1 i1 _ me
 have hr:=hr.mono hF1
 refine zB4 ?_
 refine WT.split 8 Z (fun h=>(by simp at h;omega)) (fun _=>?_)
 refine zB4 ?_
 refine WT.split 13 Z (fun h=>(by simp at h;omega)) (fun _=>?_)
 refine zB4 ?_
 refine WT.split 18 Z (fun h=>(by simp at h;omega)) (fun _=>?_)
 refine zB4 ?_
 refine WT.split 23 Z (fun h=>(by simp at h;omega)) (fun _=>?_)
 refine zB4 ?_
 refine AW.cond Z (fun h=>(by simp at h;omega)) (fun _=>?_)
 refine zB4 ?_
 refine AW.cond Z (fun h=>(by simp at h;omega)) (fun _=>?_)
 refine zB4 ?_
 refine AW.range (S:=Unit) (fun _=>[]) (fun _=>_) (fun j _ _=>rulesErr g [] g.rules=rulesErr g (g.rules.take j) (g.rules.drop j)) m () Z Z Z Z Z Z Z Z Z zo Z Z (fun _=>rfl) (fun _=>rfl) sM oR (by simp) ?_ ?_
 ·intro j _ F2 hF2 hj hP
  have hr2:=hr.mono hF2
  refine zB4 ?_
  refine WT.idxL hT hr2 Z Z Z Z Z Z Z Z Z zo (fun x hxj b1 off ro cs lx hb hp1 hrel=>?_)
  obtain⟨b2,n2,d2,rfl,hx2⟩:=hrel
  have hx2len:=hx2.len
  have hxr:=hrr x (gM hxj)
  have hxj':g.rules.drop j=x::g.rules.drop (j+1):=by
   rw[List.drop_eq_getElem_cons (show j<g.rules.length by omega)]
   rw[gE zo] at hxj
   have:=Option.some.inj hxj
   rw[this]
  have next:ruleErr g (g.rules.take j) x=0→rulesErr g [] g.rules=rulesErr g (g.rules.take (j+1)) (g.rules.drop (j+1)):=by
   intro h0
   rw[hP,hxj']
   simp only[rulesErr,h0,if_true]
   rw[List.take_add_one,hxj];rfl
  have stop:∀e,e≠0→ruleErr g (g.rules.take j) x=e→rulesErr g [] g.rules=e:=by
   intro e h1 h2
   rw[hP,hxj']
   simp only[rulesErr,h2,h1,if_false]
  refine zB4 ?_
  refine WT.allocT hT Z Z Z Z Z Z (fun i4 hi4=>?_)
  refine zB4 ?_
  refine AW.freezeAll 0 Z Z (fun F3 hF3 hB3=>?_)
  have hi4:=hB3 i4 _ me
  have hi1:=hF3 _ _ (hF2 _ _ hi1)
  have hr3:=hr2.mono hF3
  have hx3:=hx2.mono hF3
  refine AW.block ?_
  refine zB4 ?_
  refine AW.cond Z (fun h=>?_) (fun h=>?_)
  ·have h:g.nons≤x.left:=by simp at h;omega
   refine zB4 ?_
   refine AW.ret ⟨_,[],⟨_,_,rfl,rfl,rfl⟩,zsb,rfl,?_⟩
   rw[stop 3 (by decide) (by simp[ruleErr,h])];rfl
  ·have h1:¬g.nons≤x.left:=by simp at h;omega
   refine zB4 ?_
   refine AW.cond Z (fun h=>?_) (fun h=>?_)
   ·have h2:4<x.right.length:=by simp at h;omega
    refine zB4 ?_
    refine AW.ret ⟨_,[],⟨_,_,rfl,rfl,rfl⟩,zsb,rfl,?_⟩
    rw[stop 2 (by decide) (by simp[ruleErr,h1,h2])];rfl
   ·have h2:¬4<x.right.length:=by simp at h;omega
    refine zB4 ?_
    refine WT.callV Tryz.func94 Z Z Z Z Z Z (symAny_spec _ hx3 zo (fun y=>!hasSym g y) Tryz.func95 Z (fun y _=>check1_spec _ g hi1 y)) (fun v hv=>?_)
    subst hv
    refine zB4 ?_
    refine AW.cond Z (fun h=>?_) (fun h3=>?_)
    ·refine zB4 ?_
     refine AW.ret ⟨_,[],⟨_,_,rfl,rfl,rfl⟩,zsb,rfl,?_⟩
     rw[stop 3 (by decide) (by rw[ruleErr,if_neg h1,if_neg h2,if_pos h])];rfl
    ·have h3':¬(x.right.any fun y=>!hasSym g y)=true:=by rw[h3];decide
     refine zB4 ?_
     obtain⟨a',c',hs,ha'⟩:=hr3.slice (C:=CC) (lo:=0) (hi:=j) zo zo hT (t:=23) Z Z Z none (some (.int .i64 (j:Nat))) rfl rfl
     refine WT.slice Z Z Z Z Z Z Z Z hs ?_
     refine zB4 ?_
     refine WT.callV Tryz.func97 Z Z Z Z Z Z (ruleAny_spec _ ha' zo (fun y=>decide (y=x)) Tryz.func98 Z (fun y hy b n d hb=>check2_spec _ x hi4 hx3 zo y hb ?_)) (fun v hv=>?_)
     ·rw[hb.len];exact hrr y (by simpa using List.mem_of_mem_take hy)
     subst hv
     refine zB4 ?_
     rw[List.drop_zero]
     refine AW.cond Z (fun h=>?_) (fun h4=>?_)
     ·refine zB4 ?_
      refine AW.ret ⟨_,[],⟨_,_,rfl,rfl,rfl⟩,zsb,rfl,?_⟩
      rw[stop 6 (by decide) (by rw[ruleErr,if_neg h1,if_neg h2,if_neg h3',if_pos h])];rfl
     ·have h4':¬((g.rules.take j).any fun y=>decide (y=x))=true:=by rw[h4];decide
      refine zB4 ?_
      exact⟨(),sM,zow,next (by rw[ruleErr,if_neg h1,if_neg h2,if_neg h3',if_neg h4'])⟩
 ·intro _ F2 hF2 hP
  refine zB4 ?_
  refine AW.ret ⟨_,[],⟨_,_,rfl,rfl,rfl⟩,zsb,rfl,?_⟩
  rw[hP,List.drop_of_length_le zo];rfl
structure Valid(g:Gram):Prop where
 range:InRange g
 right:∀r∈g.rules,r.left<g.nons∧r.right.length≤4∧∀y∈r.right,SymOk g.terms g.nons y
 nodup:g.rules.Nodup
theorem Valid.no_err{g:Gram}(h:Valid g):rulesErr g [] g.rules=0:=by
 rw[rulesErr_split g g.rules.length [] g.rules (Nat.le_refl _) (fun i h1 _=>?_)]
 ·simp[rulesErr]
 ·obtain⟨h2,h3,h4⟩:=h.right g.rules[i] (List.getElem_mem h1)
  rw[ruleErr,if_neg zo,if_neg zo,if_neg,if_neg]
  ·intro h5
   simp only[List.nil_append,List.any_eq_true,decide_eq_true_eq] at h5
   obtain⟨x,hx,rfl⟩:=h5
   have hn:=h.nodup
   rw[←List.take_append_drop i g.rules,List.nodup_append] at hn
   refine hn.2.2 _ hx _ ?_ rfl
   rw[List.drop_eq_getElem_cons h1];exact List.mem_cons_self ..
  ·intro h5
   simp only[List.any_eq_true,Bool.not_eq_true'] at h5
   obtain⟨y,hy,hb⟩:=h5
   have:=h4 y hy
   unfold SymOk at this
   unfold hasSym at hb
   split at this<;>rename_i ht<;>simp[ht,this] at hb
theorem Small.valid{g:Gram}(h:Small g):Valid g where
 range:=⟨by have:=h.terms;omega,by have:=h.nons;omega,h.start,by have:=h.rules;omega,fun r hr=>by have:=(h.ok r hr).2.1;omega⟩
 right:=fun r hr=>⟨(h.ok r hr).1,by have:=(h.ok r hr).2.1;omega,(h.ok r hr).2.2⟩
 nodup:=h.nodup
theorem word_spec(F:Frz)(terms most:Nat)(ht:0<terms∧terms≤1000)(hmost:most≤1000000){a:Option Addr}{m c:Nat}{l:List Int}(hl:Arr tInt F a m c l)(hm:m≤9223372036854775807) :
  Abs.Spec CC 36 [.int .i64 terms,.int .i64 most,.slice a m c] F [] fun F' v o=>o=[]∧∃a m c w,v=.slice a m c∧Arr tNat F' a m c w∧w.length≤most∧∀t∈w,t<terms:=by
 refine Abs.Spec.fn (n:=28) Tryz.func36 rfl rfl fun own=>?_
 have hlen:=hl.len
 refine zB4 ?_
 refine AW.range (S:=List Nat×Option Addr×Nat×Nat×List (Nat×Blk)) (fun s=>[(7,.slice s.2.1 s.2.2.1 s.2.2.2.1)]) (fun s=>s.2.2.2.2::own) (fun j s G=>Bld tNat G s.2.1 s.2.2.1 s.2.2.2.1 s.2.2.2.2 s.1∧s.1.length≤most∧∀t∈s.1,t<terms) m ⟨[],none,0,0,[]⟩ Z Z Z Z Z Z Z Z Z zo Z Z (fun _=>rfl) (fun _=>rfl) sM (OwnLe.flat (List.Perm.refl _)) ⟨Bld.nil_ _ _,by simp,by simp⟩ ?_ ?_
 ·intro j s F1 hF1 hj hP
  obtain⟨hb,hlen2,hlt⟩:=hP
  have hblen:=hb.len
  have hl1:=hl.mono hF1
  refine zB4 ?_
  refine WT.idxL hT hl1 Z Z Z Z Z Z Z Z Z zo (fun x hxj b1 off ro cs lx hb1 hp1 hrel=>?_)
  obtain rfl:lx=_:=hrel
  refine zB4 ?_
  refine AW.cond Z (fun h=>?_) (fun h=>?_)
  ·refine AW.exit ?_
   refine AW.freezeAll 0 Z Z (fun F3 hF3 hB3=>?_)
   refine zB4 ?_
   exact AW.ret ⟨_,[],⟨_,_,rfl,rfl,rfl⟩,zsb,rfl,_,_,_,s.1,rfl,hb.frozen hF3 hB3,hlen2,hlt⟩
  ·have h:s.1.length<most:=by simp at h;omega
   refine zB4 ?_
   refine WT.callV Tryz.func21 Z Z Z Z Z Z (below_spec _ x terms zo zo) (fun v hv=>?_)
   subst hv
   refine WT.buildT hT Z Z Z Z Z Z Z Z Z Z Z Z Z Z (fun i9 hi9=>?_)
   refine WT.appendT (ys:=[below x terms]) hT 1 hb Z (fun _=>rfl) Z Z Z Z Z Z Z Z Z Z Z (fun h0 s0=>news_own hT s0 0 Z Z Z Z) (Cells.single (R:=tNat) (x:=below x terms) rfl) Z (by decide) zom (fun a3 c3 B3 hB3=>?_)
   refine zB4 ?_
   refine⟨⟨s.1++[below x terms],a3,s.2.2.1+1,c3,B3⟩,sM,zow,hB3,by simp;omega,fun t ht2=>?_⟩
   rcases List.mem_append.1 ht2 with ht2 | ht2
   ·exact hlt t ht2
   ·obtain rfl:=List.mem_singleton.1 ht2;exact below_lt x ht.1
 ·intro s F1 hF1 hP
  obtain⟨hb,hlen2,hlt⟩:=hP
  refine AW.freezeAll 0 Z Z (fun F3 hF3 hB3=>?_)
  refine zB4 ?_
  exact AW.ret ⟨_,[],⟨_,_,rfl,rfl,rfl⟩,zsb,rfl,_,_,_,s.1,rfl,hb.frozen hF3 hB3,hlen2,hlt⟩
def wordErr(terms most:Nat)(w:List Nat):Nat:=if most<w.length then 2 else if w.any (fun t=>decide (terms≤t))=true then 1 else 0
theorem word1_spec(F:Frz)(g:Gram){a:Option Addr}{m c:Nat}{i:Nat}{ro:Bool}(hi:F i=some (.cells ro (gramCells g a m c)))(t:Nat) :
  Abs.Spec CC 100 [.int .i64 t,.pointer (some ⟨i,0,none⟩)] F [] fun _ v o=>o=[]∧v=.bool (decide (g.terms≤t)):=by
 unfold gramCells at hi
 refine Abs.Spec.fn (n:=12) Tryz.func100 rfl rfl fun own=>?_
 refine zB4 ?_
 refine AW.ret ⟨_,[],⟨_,_,rfl,rfl,rfl⟩,zsb,rfl,?_⟩
 simp[tupleA]
theorem gword_spec(F:Frz)(g:Gram){a:Option Addr}{m c:Nat}(most:Nat)(hmost:most≤1000000){b:Option Addr}{n d:Nat}{w:List Nat}(hw:Arr tNat F b n d w)(hn:n≤1000000) :
  Abs.Spec CC 69 [.agg ⟨gramCells g a m c⟩,.slice b n d,.int .i64 most] F [] fun _ v o=>o=[]∧v=.int .i64 (wordErr g.terms most w:Nat):=by
 unfold gramCells
 have hlen:=hw.len
 refine Abs.Spec.fn (n:=14) Tryz.func69 rfl rfl fun own=>?_
 refine AW.seq (AW.reg ?_)
 refine WT.boxT Z Z Z Z Z Z (fun i1 hi1=>?_)
 refine WT.freezeAll 0 Z Z (fun F1 hF1 hB1=>?_)
 have hi1:=hB1 i1 _ me
 refine zB4 ?_
 refine AW.cond Z (fun h=>?_) (fun h=>?_)
 ·have h:most<w.length:=by simp at h;omega
  refine zB4 ?_
  refine AW.ret ⟨_,[],⟨_,_,rfl,rfl,rfl⟩,zsb,rfl,?_⟩
  rw[wordErr,if_pos h];rfl
 ·have h1:¬most<w.length:=by simp at h;omega
  refine zB4 ?_
  refine WT.callV Tryz.func80 Z Z Z Z Z Z (numAny_spec _ (hw.mono hF1) zo (fun t=>decide (g.terms≤t)) Tryz.func100 Z (fun t _=>word1_spec _ g hi1 t)) (fun v hv=>?_)
  subst hv
  refine zB4 ?_
  refine AW.cond Z (fun h=>?_) (fun h=>?_)
  ·refine zB4 ?_
   refine AW.ret ⟨_,[],⟨_,_,rfl,rfl,rfl⟩,zsb,rfl,?_⟩
   rw[wordErr,if_neg h1,if_pos h];rfl
  ·refine zB4 ?_
   refine AW.ret ⟨_,[],⟨_,_,rfl,rfl,rfl⟩,zsb,rfl,?_⟩
   rw[wordErr,if_neg h1,if_neg (by rw[h];decide)];rfl
theorem wordErr_ok{terms most:Nat}{w:List Nat}(h1:w.length≤most)(h2:∀t∈w,t<terms):wordErr terms most w=0:=by
 rw[wordErr,if_neg zo,if_neg]
 intro h
 simp only[List.any_eq_true,decide_eq_true_eq] at h
 obtain⟨t,ht,h⟩:=h
 have:=h2 t ht
 omega
theorem mcheck_spec(F:Frz)(g:Gram)(hg:Valid g){a:Option Addr}{m c:Nat}(hr:Arr tRule F a m c g.rules){b:Option Addr}{n d:Nat}{w:List Nat}(hw:Arr tNat F b n d w)(hw1:w.length≤12)(hw2:∀t∈w,t<g.terms) :
  Abs.Spec CC 42 [.agg ⟨gramCells g a m c⟩,.slice b n d] F [] fun _ v o=>o=[]∧v=.int .i64 0:=by
 unfold gramCells
 have hlen:=hw.len
 refine Abs.Spec.fn (n:=14) Tryz.func42 rfl rfl fun own=>?_
 refine AW.seq (AW.reg ?_)
 refine WT.boxT Z Z Z Z Z Z (fun i1 hi1=>?_)
 refine zB4 ?_
 refine WT.callV Tryz.func68 Z Z Z Z Z Z (check_spec _ g hg.range hr) (fun v hv=>?_)
 rw[hg.no_err] at hv
 subst hv
 refine zB4 ?_
 refine AW.cond Z (fun h=>(by cases h)) (fun h=>?_)
 refine zB4 ?_
 refine WT.callV Tryz.func69 Z Z Z Z Z Z (gword_spec _ g 12 (by decide) hw zo) (fun v hv=>?_)
 rw[wordErr_ok hw1 hw2] at hv
 subst hv
 refine zB4 ?_
 exact AW.ret ⟨_,[],⟨_,_,rfl,rfl,rfl⟩,zsb,rfl,rfl⟩
theorem made_spec(F:Frz){a b:Option Addr}{m n c d:Nat}{l w0:List Int}(hl:Arr tInt F a m c l)(hw:Arr tInt F b n d w0)(hm:n≤9223372036854775807)(most:Nat)(hmost:most≤1000000) :
  Abs.Spec CC 7 [.slice a m c,.slice b n d,.int .i64 most] F [] fun F' v o=>o=[]∧∃g a m c b n d w,v=.tuple ⟨[.agg ⟨gramCells g a m c⟩,.slice b n d]⟩∧Small g∧Arr tRule F' a m c g.rules∧Arr tNat F' b n d w∧w.length≤most∧∀t∈w,t<g.terms:=by
 refine Abs.Spec.fn (n:=17) Tryz.func7 rfl rfl fun own=>?_
 refine AW.seq (AW.reg ?_)
 refine WT.allocT hT Z Z Z Z Z Z (fun i6 hi6=>?_)
 refine zB4 ?_
 refine WT.callF0 Tryz.func35 Z Z Z Z Z Z (grammar_spec _ hl) (fun F1 v hF1 hv=>?_)
 obtain⟨g,⟨ga,gm,gc,rfl,hgr⟩,hg⟩:=hv
 skip
 refine WT.allocT hT Z Z Z Z Z Z (fun i8 hi8=>?_)
 refine zB4 ?_
 refine AW.draw (ps:=[(0,5)]) Z Z ?_
 refine zB4 ?_
 have:=hg.terms
 refine WT.callF0 Tryz.func36 Z Z Z Z Z Z (word_spec _ g.terms most zo hmost (hw.mono hF1) hm) (fun F2 v hF2 hv=>?_)
 obtain⟨wa,wm,wc,w,rfl,hwr,hw1,hw2⟩:=hv
 refine zB4 ?_
 refine⟨zrC,?_⟩
 refine AW.ret ⟨_,[],⟨_,_,⟨_,rfl,fun G h0 s0=>loadA_cells (s0.has (p:=1) Z me) (readT_ok hT rfl)⟩,⟨_,_,rfl,rfl,rfl⟩,rfl⟩,zsb,rfl,g,ga,gm,gc,wa,wm,wc,w,rfl,hg,hgr.mono hF2,hwr,hw1,hw2⟩
theorem low_form:∀(n x:Nat),0<x→x<2 ^ n→∃p q,x=2 ^ p*(2*q+1)∧p<n
 | 0,x,h,h2=>by simp at h2;omega
 | n+1,x,h,h2=>by
  rcases Nat.mod_two_eq_zero_or_one x with h3 | h3
  ·obtain⟨p,q,h4,h5⟩:=low_form n (x / 2) zo (by rw[Nat.pow_succ] at h2;omega)
   refine⟨p+1,q,?_,by omega⟩
   rw[Nat.pow_succ,Nat.mul_comm (2 ^ p) 2,Nat.mul_assoc,←h4];omega
  ·exact⟨0,x / 2,by omega,by omega⟩
theorem odd_bit(q i:Nat):(2*q+1).testBit i=if i=0 then true else (2*q).testBit i:=by
 cases i with
 | zero=>simp
 | succ i=>
  rw[Nat.testBit_succ,Nat.testBit_succ,if_neg zo]
  congr 1;omega
theorem low_bit(p q j:Nat):(2 ^ p*(2*q+1)).testBit j=if j<p then false else if j=p then true else (2*q).testBit (j-p):=by
 have:=Nat.testBit_two_pow_mul_add (2*q+1) (b:=0) (i:=p) (Nat.two_pow_pos p) j
 rw[Nat.add_zero] at this
 rw[this]
 by_cases h:j<p
 ·simp[h]
 ·rw[if_neg h,if_neg h,odd_bit]
  by_cases h2:j=p
  ·simp[h2]
  ·rw[if_neg zo,if_neg h2]
theorem low_pred(p q j:Nat):(2 ^ p*(2*q+1)-1).testBit j=if j<p then true else (2*q).testBit (j-p):=by
 have h1:2 ^ p*(2*q+1)-1=2 ^ p*(2*q)+(2 ^ p-1):=by
  have:=Nat.two_pow_pos p
  rw[Nat.mul_add];omega
 rw[h1,Nat.testBit_two_pow_mul_add _ (by have:=Nat.two_pow_pos p;omega)]
 by_cases h:j<p
 ·simp[h]
 ·simp[h]
theorem and_pred(p q j:Nat):(2 ^ p*(2*q+1) &&& (2 ^ p*(2*q+1)-1)).testBit j=((2 ^ p*(2*q+1)).testBit j&&!(j==p)):=by
 rw[Nat.testBit_and,low_bit,low_pred]
 by_cases h:j<p
 ·simp[h]
 ·by_cases h2:j=p
  ·subst h2;simp
  ·simp[h,h2]
theorem and_neg{n p q:Nat}(h:2 ^ p*(2*q+1)<2 ^ n):2 ^ p*(2*q+1) &&& (2 ^ n-2 ^ p*(2*q+1))=2 ^ p:=by
 apply Nat.eq_of_testBit_eq
 intro j
 have hpos:0<2 ^ p*(2*q+1):=Nat.mul_pos (Nat.two_pow_pos p) zo
 have h1:(2 ^ n-2 ^ p*(2*q+1)).testBit j=(decide (j<n)&&!(2 ^ p*(2*q+1)-1).testBit j):=by
  rw[←Nat.testBit_two_pow_sub_succ zo]
  congr 1;omega
 have hp:p<n:=by
  rcases Nat.lt_or_ge p n with h2 | h2
  ·exact h2
  ·have h3:=Nat.pow_le_pow_right (show 0<2 by decide) h2
   have:2 ^ p*1≤2 ^ p*(2*q+1):=Nat.mul_le_mul_left _ zo
   omega
 rw[Nat.testBit_and,h1,low_bit,low_pred,Nat.testBit_two_pow]
 by_cases h2:j<p
 ·have:¬p=j:=by omega
  simp[h2,this]
 ·by_cases h3:j=p
  ·subst h3;simp[hp]
  ·have:¬p=j:=by omega
   simp[h2,h3,this]
   exact fun h _=>h
theorem tab32_ok:∀p,p<32→tab32[(2 ^ p*125613361 % 4294967296) / 2 ^ 27]?=some p:=by decide +kernel
def Laid(F:Frz):Prop:=∀p∈tabs,F p.1=some p.2
theorem Laid.mono{F G:Frz}(h:Laid F)(hF:Frz.le F G):Laid G:=fun p hp=>hF _ _ (h p hp)
theorem Laid.tab{F:Frz}(h:Laid F):F 0=some (.cells true (tab32.map fun x:Nat=>Value.int .u8 (x:Int))):=h _ me
theorem tz_spec(F:Frz)(hL:Laid F)(p q:Nat)(hx:2 ^ p*(2*q+1)<4294967296):Abs.Spec CC 91 [.int .u32 ((2 ^ p*(2*q+1):Nat):Int)] F [] fun _ v o=>o=[]∧v=.int .i64 p:=by
 have hL:=hL.tab
 have hp:p<32:=by
  rcases Nat.lt_or_ge p 32 with h2 | h2
  ·exact h2
  ·have h3:=Nat.pow_le_pow_right (show 0<2 by decide) h2
   have:2 ^ p*1≤2 ^ p*(2*q+1):=Nat.mul_le_mul_left _ zo
   omega
 have hneg:=and_neg (n:=32) (p:=p) (q:=q) hx
 have hpos:0<2 ^ p*(2*q+1):=Nat.mul_pos (Nat.two_pow_pos p) zo
 have htab:=tab32_ok p hp
 have hp2:2 ^ p<4294967296:=Nat.pow_lt_pow_right (by decide) hp
 generalize 2 ^ p*(2*q+1)=x at hx hneg hpos
 refine Abs.Spec.fn (n:=14) Tryz.func91 rfl rfl fun own=>?_
 refine zB4 ?_
 refine AW.cond Z (fun h=>(by simp at h;omega)) (fun _=>?_)
 refine zB4 ?_
 refine WT.know (v':=.int .u32 ((4294967296-x:Nat):Int)) 7 Z ?_ ?_
 ·have hs:IntKind.u32.signed=false:=rfl
  have hbits:IntKind.u32.bits=32:=rfl
  have h2:(2:Int) ^ 32=4294967296:=rfl
  simp only[IntKind.wrap,hs,hbits,Bool.false_and,h2]
  congr 1
  simp
  omega
 refine WT.and32 (x:=x) (y:=4294967296-x) Z Z Z Z Z Z hx zo ?_
 rw[show x &&& (4294967296-x)=2 ^ p from hneg]
 refine WT.mulU32 (x:=2 ^ p) (y:=125613361) Z Z Z Z Z Z ?_
 refine WT.shr32 (y:=27) Z Z Z Z Z Z (by decide) ?_
 refine WT.idxArr (len:=32) (s:=1) hT Z Z Z Z Z Z Z Z Z (by have:=Nat.mod_lt (2 ^ p*125613361) (show 0<4294967296 by decide);rw[Nat.div_lt_iff_lt_mul (by decide)];omega) ?_
 refine WT.loadFAt hT hL (v:=.int .u8 p) Z Z Z Z Z Z Z ?_ ?_
 ·rw[Nat.zero_add,Nat.mul_one,List.getElem?_map,htab];rfl
 refine WT.conv hT (k2:=.i64) Z Z Z Z Z Z Z Z (wrap64 zo) ?_
 refine zB4 ?_
 exact AW.ret ⟨_,[],⟨_,_,rfl,rfl,rfl⟩,zsb,rfl,rfl⟩
def Step(w:List Nat)(E:List (List Nat))(s:Sym)(i j:Nat):Prop:=
 if s.term=true then w[i]?=some s.n∧j=i+1 else ∃row x,E[s.n]?=some row∧row[i]?=some x∧x.testBit j=true
def Reads(w:List Nat)(E:List (List Nat)):List Sym→Nat→Nat→Prop
 | [],i,j=>i=j
 | s::l,i,j=>∃m,Step w E s i m∧Reads w E l m j
theorem Reads.snoc{w:List Nat}{E:List (List Nat)}{s:Sym}:∀{l:List Sym} {i j:Nat},Reads w E (l++[s]) i j↔∃m,Reads w E l i m∧Step w E s m j
 | [],i,j=>by simp[Reads]
 | a::l,i,j=>by
  simp only[List.cons_append,Reads,Reads.snoc (l:=l)]
  constructor
  ·rintro⟨m,h1,m2,h2,h3⟩;exact⟨m2,⟨m,h1,h2⟩,h3⟩
  ·rintro⟨m2,⟨m,h1,h2⟩,h3⟩;exact⟨m,h1,m2,h2,h3⟩
structure EndsOk(n len:Nat)(E:List (List Nat)):Prop where
 size:E.length=n
 row:∀r∈E,r.length=len+1
 bit:∀r∈E,∀x∈r,x<2 ^ (len+1)
theorem testBit_lt{x n j:Nat}(h:x<2 ^ n)(h2:x.testBit j=true):j<n:=by
 rcases Nat.lt_or_ge j n with h3 | h3
 ·exact h3
 ·rw[Nat.testBit_lt_two_pow (Nat.lt_of_lt_of_le h (Nat.pow_le_pow_right (by decide) h3))] at h2;cases h2
theorem inner_step{w:List Nat}{E:List (List Nat)}{y:Sym}{s u2 x p q:Nat}(hs:s.testBit p=true)
  (hu4:∀j,u2.testBit j=true↔∃p',s.testBit p'=true∧(2 ^ p*(2*q+1)).testBit p'=false∧Step w E y p' j) (hst:∀j,x.testBit j=true↔Step w E y p j) :
  ∀j,(u2 ||| x).testBit j=true↔∃p',s.testBit p'=true∧(2 ^ p*(2*q+1) &&& (2 ^ p*(2*q+1)-1)).testBit p'=false∧Step w E y p' j:=by
 intro j
 rw[Nat.testBit_or,Bool.or_eq_true,hu4,hst]
 constructor
 ·rintro(⟨p',h1,h2,h3⟩ | h)
  ·exact⟨p',h1,by rw[and_pred,h2];rfl,h3⟩
  ·exact⟨p,hs,by rw[and_pred];simp,h⟩
 ·rintro⟨p',h1,h2,h3⟩
  rw[and_pred] at h2
  by_cases hp:p'=p
  ·subst hp;exact .inr h3
  ·refine .inl ⟨p',h1,?_,h3⟩
   have:(p'==p)=false:=by simpa using hp
   simpa [this] using h2
theorem reach_spec(F:Frz)(hL:Laid F){n t:Nat}{w:List Nat}{E:List (List Nat)}{l:List Sym}{a1 a2 a3:Option Addr}{m1 m2 m3 c1 c2 c3:Nat}(hw:Arr tNat F a1 m1 c1 w)(hE:Arr (tList tU32) F a2 m2 c2 E)(hl:Arr tSym F a3 m3 c3 l)
  (hE2:EndsOk n w.length E) (hok:∀y∈l,SymOk t n y) (hlen:w.length≤30) (hl2:l.length≤1000) (i0:Nat) (hi0:i0≤w.length) :
  Abs.Spec CC 64 [.slice a1 m1 c1,.slice a2 m2 c2,.slice a3 m3 c3,.int .i64 i0] F [] fun _ v o=>o=[]∧∃r:Nat,v=.int .u32 r∧r<2 ^ (w.length+1)∧∀j,r.testBit j=true↔Reads w E l i0 j:=by
 have hwlen:=hw.len
 have hElen:=hE.len
 have hllen:=hl.len
 have pw:∀p,p≤31→2 ^ p<4294967296:=fun p hp=>Nat.pow_lt_pow_right (n:=32) (by decide) zo
 have pwl:2 ^ (w.length+1)≤4294967296:=Nat.pow_le_pow_right (j:=32) (by decide) zo
 refine Abs.Spec.fn (n:=68) Tryz.func64 rfl rfl fun own=>?_
 refine zB4 ?_
 refine WT.shl32 (x:=1) (y:=i0) Z Z Z Z Z Z zo (by have:=pw i0 zo;omega) ?_
 refine zB4 ?_
 refine AW.range (S:=Nat) (fun s=>[(9,.int .u32 (s:Nat))]) (fun _=>_) (fun j s G=>s<2 ^ (w.length+1)∧∀q,s.testBit q=true↔Reads w E (l.take j) i0 q) m3 (1*2 ^ i0) Z Z Z Z Z Z Z Z Z zo Z Z (fun _=>rfl) (fun _=>rfl) sM oR ⟨?_,?_⟩ ?_ ?_
 ·rw[Nat.one_mul];exact Nat.pow_lt_pow_right (by decide) zo
 ·intro q
  rw[Nat.one_mul,Nat.testBit_two_pow]
  simp[Reads]
 ·intro j s F1 hF1 hj hP
  obtain⟨hs1,hs2⟩:=hP
  have hw:=hw.mono hF1
  have hE:=hE.mono hF1
  have hl:=hl.mono hF1
  have hL:=hL.mono hF1
  refine zB4 ?_
  refine WT.idxL hT hl Z Z Z Z Z Z Z Z Z zo (fun y hyj b1 off ro cs lx hb hp1 hrel=>?_)
  obtain rfl:lx=_:=hrel
  have hyok:=hok y (gM hyj)
  refine zB4 ?_
  refine WT.allocT hT Z Z Z Z Z Z (fun i1 hi1=>?_)
  refine zB4 ?_
  refine AW.block ?_
  refine AW.loopR (S:=Nat×Nat) (fun s=>[(13,.int .u32 s.1),(12,.int .u32 s.2)]) (fun _=>_) (fun u G=>Frz.le F1 G∧u.1<2 ^ (w.length+1)∧u.2<2 ^ (w.length+1)∧(∀q,u.1.testBit q=true→s.testBit q=true)∧∀q,u.2.testBit q=true↔∃p,s.testBit p=true∧u.1.testBit p=false∧Step w E y p q) (fun u=>u.1) (s,0)
   sM oR ⟨Frz.le.refl _,hs1,Nat.two_pow_pos _,fun q h=>h,fun q=>?_⟩ ?_
  ·constructor
   ·intro h;simp at h
   ·rintro⟨p,h1,h2,_⟩;simp only at h2;rw[h1] at h2;cases h2
  ·intro u F2 hF2 hP2
   obtain⟨hF12,hu1,hu2,hu3,hu4⟩:=hP2
   have hw:=hw.mono hF2
   have hE:=hE.mono hF2
   have hL:=hL.mono hF2
   obtain⟨u1,u2⟩:=u
   dsimp only at hu1 hu2 hu3 hu4
   refine zB4 ?_
   refine AW.cond Z (fun h=>?_) (fun h=>?_)
   ·have hne:u1≠0:=by intro e;subst e;simp at h
    obtain⟨p,q,rfl,hp⟩:=low_form (w.length+1) u1 zo hu1
    have hps:s.testBit p=true:=hu3 p (by rw[low_bit];simp)
    have hle:2 ^ p*(2*q+1) &&& (2 ^ p*(2*q+1)-1)≤2 ^ p*(2*q+1)-1:=Nat.and_le_right
    have fin:∀x,x<2 ^ (w.length+1)→(∀j,x.testBit j=true↔Step w E y p j)→(Frz.le F1 F2∧(2 ^ p*(2*q+1) &&& (2 ^ p*(2*q+1)-1))<2 ^ (w.length+1)∧(u2 ||| x)<2 ^ (w.length+1)∧(∀j,(2 ^ p*(2*q+1) &&& (2 ^ p*(2*q+1)-1)).testBit j=true→s.testBit j=true)∧∀j,(u2 ||| x).testBit j=true↔∃p',s.testBit p'=true∧(2 ^ p*(2*q+1) &&& (2 ^ p*(2*q+1)-1)).testBit p'=false∧Step w E y p' j):=by
     intro x hx1 hx2
     refine⟨hF12,by omega,Nat.or_lt_two_pow hu2 hx1,fun j hj=>hu3 j ?_,inner_step hps hu4 hx2⟩
     rw[Nat.testBit_and] at hj
     simp only[Bool.and_eq_true] at hj
     exact hj.1
    refine zB4 ?_
    refine AW.block ?_
    refine zB4 ?_
    refine WT.callV Tryz.func91 Z Z Z Z Z Z (tz_spec _ hL p q zo) (fun v hv=>?_)
    subst hv
    refine WT.easy hT Z Z Z Z Z ?_
    refine WT.nil ?_
    refine AW.block ?_
    refine zB4 ?_
    refine AW.cond Z (fun h2=>?_) (fun h2=>?_)
    ·have hyt:y.term=false:=by simpa using h2
     rw[SymOk,if_neg (by simp[hyt])] at hyok
     have hElen2:=hE2.size
     refine zB4 ?_
     refine WT.idxL hT hE Z Z Z Z Z Z Z Z Z zo (fun row hrow b2 off2 ro2 cs2 lx2 hb2 hp2 hrel2=>?_)
     obtain⟨a4,n4,c4,rfl,hrow2⟩:=hrel2
     have hrl:=hE2.row row (gM hrow)
     refine zB4 ?_
     refine WT.idxL hT hrow2 Z Z Z Z Z Z Z Z Z zo (fun x hx b3 off3 ro3 cs3 lx3 hb3 hp3 hrel3=>?_)
     obtain rfl:lx3=_:=hrel3
     have hxb:=hE2.bit row (gM hrow) x (gM hx)
     refine zB4 ?_
     refine WT.or32 (x:=u2) (y:=x) Z Z Z Z Z Z zo zo ?_
     refine zB4 ?_
     refine WT.dec32 (x:=2 ^ p*(2*q+1)) (y:=1) Z Z Z Z Z Z zo zo ?_
     refine WT.and32 (x:=2 ^ p*(2*q+1)) Z Z Z Z Z Z zo zo ?_
     refine zB4 ?_
     refine⟨(_,u2 ||| x),?_,sM,zow,fin x hxb fun j=>?_⟩
     ·dsimp only;omega
     ·rw[Step,if_neg (by simp[hyt])]
      constructor
      ·intro hb;exact⟨row,x,hrow,hx,hb⟩
      ·rintro⟨row',x',h3,h4,h5⟩
       rw[hrow] at h3;cases h3
       rw[hx] at h4;cases h4
       exact h5
    ·have hyt:y.term=true:=by simpa using h2
     refine zB4 ?_
     refine WT.split 51 Z (fun h3=>?_) (fun h3=>?_)
     ·have h3:p<w.length:=by simp at h3;omega
      refine zB4 ?_
      refine WT.idxL hT hw Z Z Z Z Z Z Z Z Z zo (fun x hx b3 off3 ro3 cs3 lx3 hb3 hp3 hrel3=>?_)
      obtain rfl:lx3=_:=hrel3
      refine zB4 ?_
      refine AW.cond Z (fun h4=>?_) (fun h4=>?_)
      ·have h4:x=y.n:=by simp at h4;omega
       have e2:1*2 ^ (p+1)<2 ^ (w.length+1):=by rw[Nat.one_mul];exact Nat.pow_lt_pow_right (by decide) zo
       refine zB4 ?_
       refine WT.shl32 (x:=1) (y:=p+1) Z Z Z Z Z Z zo zo ?_
       refine WT.or32 (x:=u2) (y:=1*2 ^ (p+1)) Z Z Z Z Z Z zo zo ?_
       refine zB4 ?_
       refine WT.dec32 (x:=2 ^ p*(2*q+1)) (y:=1) Z Z Z Z Z Z zo zo ?_
       refine WT.and32 (x:=2 ^ p*(2*q+1)) Z Z Z Z Z Z zo zo ?_
       refine zB4 ?_
       refine⟨(_,u2 ||| (1*2 ^ (p+1))),?_,sM,zow,fin _ e2 fun j=>?_⟩
       ·dsimp only;omega
       ·rw[Step,if_pos hyt,Nat.one_mul,Nat.testBit_two_pow,hx,h4]
        simp;omega
      ·have h4:x≠y.n:=by intro e;subst e;simp at h4
       refine zB4 ?_
       refine WT.dec32 (x:=2 ^ p*(2*q+1)) (y:=1) Z Z Z Z Z Z zo zo ?_
       refine WT.and32 (x:=2 ^ p*(2*q+1)) Z Z Z Z Z Z zo zo ?_
       refine zB4 ?_
       have:=fin 0 (Nat.two_pow_pos _) (fun j=>by rw[Step,if_pos hyt,hx];simp[h4])
       rw[Nat.or_zero] at this
       refine⟨(_,u2),?_,sM,zow,this⟩
       dsimp only;omega
     ·have h3:w.length≤p:=by simp at h3;omega
      refine zB4 ?_
      refine AW.cond Z (fun h4=>(by cases h4)) (fun h4=>?_)
      refine zB4 ?_
      refine WT.dec32 (x:=2 ^ p*(2*q+1)) (y:=1) Z Z Z Z Z Z zo zo ?_
      refine WT.and32 (x:=2 ^ p*(2*q+1)) Z Z Z Z Z Z zo zo ?_
      refine zB4 ?_
      have:=fin 0 (Nat.two_pow_pos _) (fun j=>by rw[Step,if_pos hyt,List.getElem?_eq_none h3];simp)
      rw[Nat.or_zero] at this
      refine⟨(_,u2),?_,sM,zow,this⟩
      dsimp only;omega
   ·have h0:u1=0:=by simp at h;omega
    refine AW.exit ?_
    refine zB4 ?_
    refine⟨u2,sM,zow,hu2,fun q=>?_⟩
    rw[hu4,List.take_add_one,hyj]
    rw[show (some y).toList=[y] from rfl,Reads.snoc,h0]
    constructor
    ·rintro⟨p,h1,_,h3⟩;exact⟨p,(hs2 p).1 h1,h3⟩
    ·rintro⟨p,h1,h3⟩;exact⟨p,(hs2 p).2 h1,by simp,h3⟩
 ·intro s F1 hF1 hP
  obtain⟨hs1,hs2⟩:=hP
  rw[List.take_of_length_le zo] at hs2
  refine zB4 ?_
  exact AW.ret ⟨_,[],⟨_,_,rfl,rfl,rfl⟩,zsb,rfl,s,rfl,hs1,hs2⟩
mutual
inductive Der(g:Gram)(w:List Nat):Sym→Nat→Nat→Prop
 | term {t i:Nat}:w[i]?=some t→Der g w ⟨true,t⟩ i (i+1)
 | non {r:Rule} {i j:Nat}:r∈g.rules→Ders g w r.right i j→Der g w ⟨false,r.left⟩ i j
inductive Ders(g:Gram)(w:List Nat):List Sym→Nat→Nat→Prop
 | nil {i:Nat}:Ders g w [] i i
 | cons {s:Sym} {l:List Sym} {i m j:Nat}:Der g w s i m→Ders g w l m j→Ders g w (s::l) i j
end
theorem der_term{g:Gram}{w:List Nat}{t i j:Nat}:Der g w ⟨true,t⟩ i j↔w[i]?=some t∧j=i+1:=by
 constructor
 ·intro h;cases h with | term h=>exact⟨h,rfl⟩
 ·rintro⟨h,rfl⟩;exact .term h
theorem ders_nil{g:Gram}{w:List Nat}{i j:Nat}:Ders g w [] i j↔i=j:=by
 constructor
 ·intro h;cases h;rfl
 ·rintro rfl;exact .nil
theorem ders_cons{g:Gram}{w:List Nat}{s:Sym}{l:List Sym}{i j:Nat}:Ders g w (s::l) i j↔∃m,Der g w s i m∧Ders g w l m j:=by
 constructor
 ·intro h;cases h with | cons h1 h2=>exact⟨_,h1,h2⟩
 ·rintro⟨m,h1,h2⟩;exact .cons h1 h2
def bit(E:List (List Nat))(n i j:Nat):Prop:=∃row x,E[n]?=some row∧row[i]?=some x∧x.testBit j=true
def Sound(g:Gram)(w:List Nat)(E:List (List Nat)):Prop:=∀n i j,bit E n i j→Der g w ⟨false,n⟩ i j
def ClosedAt(w:List Nat)(E:List (List Nat))(r:Rule)(i:Nat):Prop:=∀j,Reads w E r.right i j→bit E r.left i j
def Closed(g:Gram)(w:List Nat)(E:List (List Nat)):Prop:=∀r∈g.rules,∀i,i≤w.length→ClosedAt w E r i
structure EndsOf(g:Gram)(w:List Nat)(E:List (List Nat)):Prop where
 ok:EndsOk g.nons w.length E
 iff:∀n i j,i≤w.length→(bit E n i j↔Der g w ⟨false,n⟩ i j)
theorem reads_sound{g:Gram}{w:List Nat}{E:List (List Nat)}(h:Sound g w E):∀{l:List Sym} {i j:Nat},Reads w E l i j→Ders g w l i j
 | [],i,j,h1=>by rw[show i=j from h1];exact .nil
 | s::l,i,j,h1=>by
  obtain⟨m,h2,h3⟩:=h1
  refine .cons ?_ (reads_sound h h3)
  obtain⟨b,n⟩:=s
  unfold Step at h2
  cases b with
  | true=>rw[if_pos rfl] at h2;obtain⟨h4,rfl⟩:=h2;exact .term h4
  | false=>rw[if_neg (by simp)] at h2;exact h n i m h2
theorem closed_complete{g:Gram}{w:List Nat}{E:List (List Nat)}(hE:EndsOk g.nons w.length E)(h:Closed g w E) :
  (∀{s:Sym} {i j:Nat},Der g w s i j→i≤w.length→Step w E s i j∧j≤w.length):=by
 intro s i j h1
 refine Der.rec (motive_1:=fun s i j _=>i≤w.length→Step w E s i j∧j≤w.length) (motive_2:=fun l i j _=>i≤w.length→Reads w E l i j∧j≤w.length) ?_ ?_ ?_ ?_ h1
 ·intro t i h2 h3
  have:=(gS h2).1
  exact⟨by rw[Step,if_pos rfl];exact⟨h2,rfl⟩,by omega⟩
 ·intro r i j hr h2 ih hi
  obtain⟨h3,h4⟩:=ih hi
  exact⟨by rw[Step,if_neg (by simp)];exact h r hr i hi j h3,h4⟩
 ·intro i hi;exact⟨rfl,hi⟩
 ·intro s l i m j h2 h3 ih1 ih2 hi
  obtain⟨h4,h5⟩:=ih1 hi
  obtain⟨h6,h7⟩:=ih2 h5
  exact⟨⟨m,h4,h6⟩,h7⟩
theorem EndsOf.of{g:Gram}{w:List Nat}{E:List (List Nat)}(hE:EndsOk g.nons w.length E)(h1:Sound g w E)(h2:Closed g w E):EndsOf g w E:=
 ⟨hE,fun n i j hi=>⟨h1 n i j,fun h=>by
  have:=(closed_complete hE h2 h hi).1
  rw[Step,if_neg (by simp)] at this
  exact this⟩⟩
def total(E:List (List Nat)):Nat:=(E.map List.sum).sum
theorem sum_set:∀{l:List Nat} {i x y:Nat},l[i]?=some x→(l.set i y).sum+x=l.sum+y
 | [],i,x,y,h=>by simp at h
 | a::l,0,x,y,h=>by simp at h;subst h;simp;omega
 | a::l,i+1,x,y,h=>by
  have:=sum_set (l:=l) (i:=i) (x:=x) (y:=y) (by simpa using h)
  simp only[List.set_cons_succ,List.sum_cons];omega
theorem sum_le{b:Nat}:∀{l:List Nat},(∀x∈l,x≤b)→l.sum≤l.length*b
 | [],_=>by simp
 | a::l,h=>by
  have h1:=h a me
  have h2:=sum_le (b:=b) (l:=l) (fun x hx=>h x (List.mem_cons_of_mem _ hx))
  simp only[List.sum_cons,List.length_cons,Nat.add_mul,Nat.one_mul];omega
theorem total_le{n len:Nat}{E:List (List Nat)}(h:EndsOk n len E):total E≤n*((len+1)*2 ^ (len+1)):=by
 unfold total
 rw[←h.size,←List.length_map (f:=List.sum)]
 refine sum_le fun x hx=>?_
 obtain⟨row,hr,rfl⟩:=List.mem_map.1 hx
 rw[←h.row row hr]
 refine sum_le fun x hx=>?_
 rw[h.row row hr]
 exact Nat.le_of_lt (h.bit row hr x hx)
def put(E:List (List Nat))(n i x:Nat):List (List Nat):=match E[n]? with
 | some row=>E.set n (row.set i x)
 | none=>E
theorem put_eq{E:List (List Nat)}{n i x:Nat}{row:List Nat}(h:E[n]?=some row):put E n i x=E.set n (row.set i x):=by unfold put;rw[h]
theorem total_put{E:List (List Nat)}{n i x y:Nat}{row:List Nat}(h:E[n]?=some row)(h2:row[i]?=some x)(h3:x<y):total E<total (put E n i y):=by
 rw[put_eq h]
 unfold total
 rw[List.map_set]
 have h4:=sum_set (l:=E.map List.sum) (i:=n) (x:=row.sum) (y:=(row.set i y).sum) (by rw[List.getElem?_map,h];rfl)
 have h5:=sum_set (y:=y) h2
 omega
theorem EndsOk.put{n len:Nat}{E:List (List Nat)}(h:EndsOk n len E){k i y:Nat}{row:List Nat}(h1:E[k]?=some row)(hy:y<2 ^ (len+1)):EndsOk n len (put E k i y):=by
 rw[put_eq h1]
 have hrow:=gM h1
 refine⟨by simp[h.size],fun r hr=>?_,fun r hr x hx=>?_⟩
 ·rcases List.mem_or_eq_of_mem_set hr with hr | rfl
  ·exact h.row r hr
  ·simp[h.row row hrow]
 ·rcases List.mem_or_eq_of_mem_set hr with hr | rfl
  ·exact h.bit r hr x hx
  ·rcases List.mem_or_eq_of_mem_set hx with hx | rfl
   ·exact h.bit row hrow x hx
   ·exact hy
theorem bit_put{E:List (List Nat)}{k i y x:Nat}{row:List Nat}(h1:E[k]?=some row)(h2:row[i]?=some x){n' i' j':Nat} :
  bit (put E k i y) n' i' j'↔if n'=k∧i'=i then y.testBit j'=true else bit E n' i' j':=by
 rw[put_eq h1]
 have hk:k<E.length:=(gS h1).1
 have hi:i<row.length:=(gS h2).1
 unfold bit
 by_cases hn:n'=k
 ·subst hn
  simp only[List.getElem?_set_self hk,true_and]
  by_cases hi':i'=i
  ·subst hi'
   simp only[if_true]
   constructor
   ·rintro⟨r,z,h3,h4,h5⟩
    cases h3
    rw[List.getElem?_set_self hi] at h4
    cases h4;exact h5
   ·intro h5;exact⟨_,y,rfl,by rw[List.getElem?_set_self hi],h5⟩
  ·simp only[hi',if_false]
   constructor
   ·rintro⟨r,z,h3,h4,h5⟩
    cases h3
    rw[List.getElem?_set_ne zo] at h4
    exact⟨row,z,h1,h4,h5⟩
   ·rintro⟨r,z,h3,h4,h5⟩
    rw[h1] at h3;cases h3
    exact⟨_,z,rfl,by rw[List.getElem?_set_ne zo];exact h4,h5⟩
 ·simp only[hn,false_and,if_false]
  rw[List.getElem?_set_ne zo]
structure ES where
 E:List (List Nat)
 bs:List (Nat×Blk)
 again:Bool
structure MS where
 k:Nat
 vs:List Value
 bs:List (Nat×Blk)
theorem cap_eq(l:Nat):(bif l==0 then 0 else 1)=if l=0 then 0 else 1:=by cases l<;>rfl
theorem perm_merge{α:Type}(x y:α)(bs rest:List α):(x::((y::bs)++rest)).Perm ((y::(bs++[x]))++rest):=by
 simp only[List.cons_append,List.append_assoc]
 refine(List.Perm.swap y x _).trans (List.Perm.cons y ?_)
 have:(x::bs++rest).Perm (bs++x::rest):=List.perm_middle.symm
 simpa using this
theorem set_rep{α:Type}(vs:List α)(k:Nat)(z x:α)(hk:0<k):(vs++List.replicate k z).set vs.length x=(vs++[x])++List.replicate (k-1) z:=by
 obtain⟨k,rfl⟩:∃k',k=k'+1:=⟨k-1,by omega⟩
 rw[List.set_append_right _ _ (Nat.le_refl _),Nat.sub_self,List.replicate_succ,List.set_cons_zero]
 simp
theorem ends_spec(F:Frz)(hL:Laid F)(g:Gram)(hg:Valid g){a:Option Addr}{m c:Nat}(hr:Arr tRule F a m c g.rules){b:Option Addr}{n d:Nat}{w:List Nat}(hw:Arr tNat F b n d w)(hw1:w.length≤30) :
  Abs.Spec CC 38 [.agg ⟨gramCells g a m c⟩,.slice b n d] F [] fun F' v o=>o=[]∧∃a c E,v=.slice a g.nons c∧Arr (tList tU32) F' a g.nons c E∧EndsOf g w E:=by
 unfold gramCells
 have hrlen:=hr.len
 have hwlen:=hw.len
 have hgr:=hg.range.rules
 have hgn:=hg.range.nons
 refine Abs.Spec.fn (n:=73) Tryz.func38 rfl rfl fun own=>?_
 refine AW.seq (AW.reg ?_)
 refine WT.boxT Z Z Z Z Z Z (fun i2 hi2=>?_)
 refine zB4 ?_
 refine WT.makeT (l:=g.nons) hT Z Z Z Z Z Z Z Z Z Z Z Z zom (fun io hio=>?_)
 rw[cap_eq]
 refine zB4 ?_
 refine AW.range (S:=MS) (fun _=>[]) (fun s=>((io,.cells false (s.vs++List.replicate s.k (.slice none 0 0)))::s.bs)::[(i2,.cells false [.int .i64 g.terms,.int .i64 g.nons,.int .i64 g.start,.slice a m c])]::own)
  (fun j s G=>s.k=g.nons-j∧Abs.Rows cU32 s.vs s.bs (List.replicate j (List.replicate (w.length+1) 0))) g.nons ⟨g.nons,[],[]⟩ Z Z Z Z Z Z Z Z Z zo rfl rfl (fun _=>rfl) (fun _=>rfl) sM (OwnLe.flat (List.Perm.refl _)) ⟨rfl,Abs.Rows.nil⟩ ?_ ?_
 ·intro j s F1 hF1 hj hP
  obtain⟨hk,hR⟩:=hP
  have hvl:=hR.len.1
  rw[List.length_replicate] at hvl
  refine zB4 ?_
  refine WT.makeT (l:=n+1) hT Z Z Z Z Z Z Z Z Z Z Z Z zom (fun ir hir=>?_)
  rw[cap_eq]
  refine WT.idxA (j:=j) (s:=1) hT Z Z Z Z Z Z Z Z Z hj ?_
  refine WT.storeAt hT 1 0 Z Z Z Z Z Z Z Z Z Z (by simp;omega) Z Z ?_
  refine zB4 ?_
  refine⟨⟨g.nons-(j+1),s.vs++[.slice (some ⟨ir,0,none⟩) (n+1) (if n+1=0 then 0 else 1)],s.bs++[(ir,.cells false (List.replicate (n+1) (.int .u32 0)))]⟩,sM,OwnLe.flat ?_,rfl,?_⟩
  ·dsimp only
   rw[show 0+j*1=s.vs.length by omega,set_rep _ _ _ _ zo,show s.k-1=g.nons-(j+1) by omega]
   simp only[List.flatten_cons]
   exact perm_merge _ _ _ _
  ·rw[show List.replicate (j+1) (List.replicate (w.length+1) 0)=List.replicate j (List.replicate (w.length+1) 0)++[List.replicate (w.length+1) 0] from List.replicate_succ']
   have:=hR.snoc (K:=cU32) (id:=ir) (row:=List.replicate (w.length+1) 0) (c:=if n+1=0 then 0 else 1) (by simp)
   rw[List.length_replicate,List.map_replicate,←hwlen] at this
   rw[←hwlen]
   exact this
 ·intro s F1 hF1 hP
  obtain⟨hk,hR0⟩:=hP
  have hk0:s.k=0:=by omega
  have hr1:=hr.mono hF1
  have hw1':=hw.mono hF1
  have hL1:=hL.mono hF1
  have hE0:EndsOk g.nons w.length (List.replicate g.nons (List.replicate (w.length+1) 0)):=by
   refine⟨by simp,fun r hr=>?_,fun r hr x hx=>?_⟩
   ·rw[List.eq_of_mem_replicate hr];simp
   ·rw[List.eq_of_mem_replicate hr] at hx;rw[List.eq_of_mem_replicate hx];exact Nat.two_pow_pos _
  have hS0:Sound g w (List.replicate g.nons (List.replicate (w.length+1) 0)):=by
   rintro n i j ⟨row,x,h1,h2,h3⟩
   rw[List.eq_of_mem_replicate (gM h1)] at h2
   rw[List.eq_of_mem_replicate (gM h2)] at h3
   simp at h3
  refine zB4 ?_
  refine AW.block ?_
  refine AW.loopR (S:=ES) (fun s=>[(7,.bool s.again)]) (fun t=>((io,.cells false (s.vs++List.replicate s.k (.slice none 0 0)))::t.bs)::[(i2,.cells false [.int .i64 g.terms,.int .i64 g.nons,.int .i64 g.start,.slice a m c])]::own)
   (fun t G=>Abs.Rows cU32 s.vs t.bs t.E∧EndsOk g.nons w.length t.E∧Sound g w t.E∧(t.again=false→Closed g w t.E)) (fun t=>if t.again=true then 1+(g.nons*((w.length+1)*2 ^ (w.length+1))-total t.E) else 0) ⟨_,s.bs,true⟩
   sM oR ⟨hR0,hE0,hS0,fun h=>(by cases h)⟩ ?_
  intro t F2 hF2 hP
  obtain⟨hR,hE,hS,hC⟩:=hP
  have hr2:=hr1.mono hF2
  refine zB4 ?_
  refine AW.cond Z (fun h=>?_) (fun h=>?_)
  ·refine zB4 ?_
   refine AW.block ?_
   refine zB4 ?_
   refine AW.range (S:=ES) (fun s=>[(7,.bool s.again)]) (fun t=>((io,.cells false (s.vs++List.replicate s.k (.slice none 0 0)))::t.bs)::[(i2,.cells false [.int .i64 g.terms,.int .i64 g.nons,.int .i64 g.start,.slice a m c])]::own)
    (fun k u G=>Abs.Rows cU32 s.vs u.bs u.E∧EndsOk g.nons w.length u.E∧Sound g w u.E∧total t.E≤total u.E∧(u.again=true→total t.E<total u.E)∧(u.again=false→∀r∈g.rules.take k,∀i,i≤w.length→ClosedAt w u.E r i)) m ⟨t.E,t.bs,false⟩
    Z Z Z Z Z Z Z Z Z zo rfl rfl (fun _=>rfl) (fun _=>rfl) sM oR ⟨hR,hE,hS,Nat.le_refl _,fun h=>(by cases h),by simp⟩ ?_ ?_
   ·intro k u F3 hF3 hk hP
    obtain⟨hR,hE,hS,hT1,hT2,hC⟩:=hP
    have hr3:=hr2.mono hF3
    refine zB4 ?_
    refine WT.idxL hT hr3 Z Z Z Z Z Z Z Z Z zo (fun r hrk b1 off ro cs lx hb hp1 hrel=>?_)
    obtain⟨b2,n2,d2,rfl,hr4⟩:=hrel
    obtain⟨hrl,hrr,hrs⟩:=hg.right r (gM hrk)
    refine zB4 ?_
    refine WT.allocT hT Z Z Z Z Z Z (fun i9 hi9=>?_)
    refine zB4 ?_
    refine AW.range (S:=ES) (fun s=>[(7,.bool s.again)]) (fun t=>[(i9,.cells false [.int .i64 r.left,.slice b2 n2 d2])]::((io,.cells false (s.vs++List.replicate s.k (.slice none 0 0)))::t.bs)::[(i2,.cells false [.int .i64 g.terms,.int .i64 g.nons,.int .i64 g.start,.slice a m c])]::own)
     (fun i u G=>Abs.Rows cU32 s.vs u.bs u.E∧EndsOk g.nons w.length u.E∧Sound g w u.E∧total t.E≤total u.E∧(u.again=true→total t.E<total u.E)∧(u.again=false→(∀r∈g.rules.take k,∀i,i≤w.length→ClosedAt w u.E r i)∧∀i',i'<i→ClosedAt w u.E r i')) (n+1) u
     Z Z Z Z Z Z Z Z Z zo rfl rfl (fun _=>rfl) (fun _=>rfl) sM oR ⟨hR,hE,hS,hT1,hT2,fun h=>⟨hC h,by omega⟩⟩ ?_ ?_
    ·intro i u F4 hF4 hi hP
     obtain⟨hR,hE,hS,hT1,hT2,hC⟩:=hP
     have hw4:=((hw1'.mono hF2).mono hF3).mono hF4
     have hL4:=((hL1.mono hF2).mono hF3).mono hF4
     have hr5:=hr4.mono hF4
     have hElen:=hE.size
     have pwl:2 ^ (w.length+1)≤4294967296:=Nat.pow_le_pow_right (j:=32) (by decide) zo
     obtain⟨row,hrow⟩:∃row,u.E[r.left]?=some row:=⟨_,gE zo⟩
     have hrowlen:=hE.row row (gM hrow)
     obtain⟨x,hx⟩:∃x,row[i]?=some x:=⟨_,gE zo⟩
     have hxb:=hE.bit row (gM hrow) x (gM hx)
     obtain⟨id,cc,hvs,hbs,hcc⟩:=hR.at r.left row hrow
     have hvl:=hR.len.1
     have hcell:(row.map cU32.cell)[0+i*1]?=some (.int .u32 x):=by rw[Nat.zero_add,Nat.mul_one,List.getElem?_map,hx];rfl
     have hout:(s.vs++List.replicate s.k (Value.slice none 0 0))[0+r.left*1]?=some (.slice (some ⟨id,0,none⟩) row.length cc):=by
      rw[Nat.zero_add,Nat.mul_one,List.getElem?_append_left zo];exact hvs
     have harr:∀G,(∀i b,(i,b)∈((io,Blk.cells false (s.vs++List.replicate s.k (Value.slice none 0 0)))::u.bs)→G i=some b)→Arr (tList tU32) G (some ⟨io,0,none⟩) g.nons (if g.nons=0 then 0 else 1) u.E:=by
      intro G hBG
      have:=Abs.Rows.arr (K:=cU32) (R:=tU32) rfl (fun _ _=>rfl) (F:=G) (o:=io) (c:=if u.E.length=0 then 0 else 1) (ro:=false) hR (fun i b hm=>hBG i b (List.mem_cons_of_mem _ hm)) rfl (by rw[hBG io _ me,hk0];simp)
      rw[hElen] at this
      exact this
     refine zB4 ?_
     refine WT.callLend 1 Tryz.func64 Z Z Z Z Z Z Z (fun G hG hBG=>reach_spec G (hL4.mono hG) (t:=g.terms) (hw4.mono hG) (harr G hBG) (hr5.mono hG) hE hrs hw1 zo i zo) (fun v hv=>?_)
     obtain⟨y,rfl,hy1,hy2⟩:=hv
     have hxy:x ||| y<2 ^ (w.length+1):=Nat.or_lt_two_pow hxb hy1
     refine zB4 ?_
     refine WT.idxA (j:=r.left) (s:=1) hT Z Z Z Z Z Z Z Z Z hrl ?_
     refine WT.loadAt hT 1 Z Z Z Z Z Z me Z Z hout ?_
     refine zB4 ?_
     refine WT.idxA (j:=i) (s:=1) hT Z Z Z Z Z Z Z Z Z zo ?_
     refine WT.loadAt hT 1 Z Z Z Z Z Z (List.mem_cons_of_mem _ (gM hbs)) Z Z hcell ?_
     refine WT.andNot32 (x:=y) (y:=x) Z Z Z Z Z Z zo zo ?_
     refine zB4 ?_
     refine AW.cond Z (fun h=>?_) (fun h=>?_)
     ·have hne:andNot y x≠0:=by intro e;rw[e] at h;simp at h
      refine zB4 ?_
      refine WT.idxA (j:=r.left) (s:=1) hT Z Z Z Z Z Z Z Z Z hrl ?_
      refine WT.loadAt hT 1 Z Z Z Z Z Z me Z Z hout ?_
      refine zB4 ?_
      refine WT.idxA (j:=i) (s:=1) hT Z Z Z Z Z Z Z Z Z zo ?_
      refine WT.loadAt hT 1 Z Z Z Z Z Z (List.mem_cons_of_mem _ (gM hbs)) Z Z hcell ?_
      refine zB4 ?_
      refine WT.or32 (x:=x) (y:=y) Z Z Z Z Z Z zo zo ?_
      refine WT.idxA (j:=i) (s:=1) hT Z Z Z Z Z Z Z Z Z zo ?_
      refine WT.storeAt hT 1 (r.left+1) Z Z Z Z Z Z hbs Z Z Z (by simp;omega) Z Z ?_
      refine zB4 ?_
      have hlt:x<x ||| y:=by
       rcases Nat.lt_or_ge x (x ||| y) with h1 | h1
       ·exact h1
       ·exfalso
        have h2:x ||| y=x:=Nat.le_antisymm h1 Nat.left_le_or
        refine hne ((andNot_zero zo zo).2 fun j hj=>?_)
        rw[←h2,Nat.testBit_or,hj];simp
      have hT3:=total_put (y:=x ||| y) hrow hx hlt
      refine⟨⟨put u.E r.left i (x ||| y),u.bs.set r.left (id,.cells false ((row.set i (x ||| y)).map cU32.cell)),true⟩,sM,OwnLe.flat ?_,?_,hE.put hrow hxy,?_,by dsimp only;omega,fun _=>by dsimp only;omega,fun h=>(by cases h)⟩
      ·rw[List.map_set]
       rw[show 0+i*1=i by omega]
       exact List.Perm.refl _
      ·rw[put_eq hrow]
       exact hR.set r.left row (row.set i (x ||| y)) id hrow (by simp) hbs
      ·intro n' i' j' hb'
       rw[bit_put hrow hx] at hb'
       split at hb'
       ·rename_i he
        obtain⟨rfl,rfl⟩:=he
        rw[Nat.testBit_or,Bool.or_eq_true] at hb'
        rcases hb' with hb' | hb'
        ·exact hS _ _ _ ⟨row,x,hrow,hx,hb'⟩
        ·exact .non (gM hrk) (reads_sound hS ((hy2 j').1 hb'))
       ·exact hS _ _ _ hb'
     ·have he:andNot y x=0:=by simp at h;omega
      have he2:=(andNot_zero zo zo).1 he
      refine zB4 ?_
      refine⟨u,sM,zow,hR,hE,hS,hT1,hT2,fun h=>⟨(hC h).1,fun i' hi'=>?_⟩⟩
      rcases Nat.lt_or_ge i' i with h3 | h3
      ·exact(hC h).2 i' h3
      ·have:i'=i:=by omega
       subst this
       intro j hj
       exact⟨row,x,hrow,hx,he2 j ((hy2 j).2 hj)⟩
    ·intro u F4 hF4 hP
     obtain⟨hR,hE,hS,hT1,hT2,hC⟩:=hP
     skip
     refine⟨u,sM,zow,hR,hE,hS,hT1,hT2,fun h=>take_all hrk (hC h).1 fun i hi=>(hC h).2 i zo⟩
   ·intro u F3 hF3 hP
    obtain⟨hR,hE,hS,hT1,hT2,hC⟩:=hP
    rw[List.take_of_length_le zo] at hC
    skip
    refine⟨u,?_,sM,zow,hR,hE,hS,hC⟩
    have:=total_le hE
    rw[h,if_pos rfl]
    split
    ·rename_i h4;have:=hT2 h4;omega
    ·omega
  ·refine AW.exit ?_
   refine AW.freezeAll 0 Z Z (fun F3 hF3 hB3=>?_)
   have harr:Arr (tList tU32) F3 (some ⟨io,0,none⟩) g.nons (if g.nons=0 then 0 else 1) t.E:=by
    have hElen:=hE.size
    have:=Abs.Rows.arr (K:=cU32) (R:=tU32) rfl (fun _ _=>rfl) (F:=F3) (o:=io) (c:=if t.E.length=0 then 0 else 1) (ro:=false) hR (fun i b hm=>hB3 i b (List.mem_cons_of_mem _ hm)) rfl (by rw[hB3 io _ me,hk0];simp)
    rw[hElen] at this
    exact this
   refine zB4 ?_
   exact AW.ret ⟨_,[],⟨_,_,rfl,rfl,rfl⟩,zsb,rfl,_,_,t.E,rfl,harr,EndsOf.of hE hS (hC h)⟩
theorem equal_spec(F:Frz){a b:Option Addr}{m n c d:Nat}{xs ys:List Nat}(hx:Arr tNat F a m c xs)(hy:Arr tNat F b n d ys)(hm:m≤1000000) :
  Abs.Spec CC 45 [.slice a m c,.slice b n d] F [] fun _ v o=>o=[]∧v=.bool (decide (xs=ys)):=by
 refine Abs.Spec.fn (n:=26) Tryz.func45 rfl rfl fun own=>?_
 have hxlen:=hx.len
 have hylen:=hy.len
 refine zB4 ?_
 refine AW.cond Z (fun hc=>?_) (fun hc=>?_)
 ·refine zB4 ?_
  refine AW.ret ⟨_,[],⟨_,_,rfl,rfl,rfl⟩,zsb,rfl,?_⟩
  have:xs≠ys:=by rintro rfl;simp at hc;omega
  simp[this,tupleA]
 ·have hmn:m=n:=by simp at hc;omega
  refine zB4 ?_
  refine AW.range (S:=Unit) (fun _=>[]) (fun _=>_) (fun j _ G=>xs.take j=ys.take j) m () Z Z Z Z Z Z Z Z Z zo Z Z (fun _=>rfl) (fun _=>rfl) sM oR (by simp) ?_ ?_
  ·intro j _ F1 hF1 hj hP
   have hx1:=hx.mono hF1
   have hy1:=hy.mono hF1
   refine zB4 ?_
   refine WT.idxL hT hx1 Z Z Z Z Z Z Z Z Z zo (fun x hxj b1 off ro cs lx hb hp1 hrel=>?_)
   obtain rfl:lx=_:=hrel
   refine zB4 ?_
   refine WT.idxL hT hy1 Z Z Z Z Z Z Z Z Z zo (fun y hyj b2 off2 ro2 cs2 ly hb2 hp2 hrel2=>?_)
   obtain rfl:ly=_:=hrel2
   refine zB4 ?_
   refine AW.cond Z (fun hc=>?_) (fun hc=>?_)
   ·refine zB4 ?_
    refine AW.ret ⟨_,[],⟨_,_,rfl,rfl,rfl⟩,zsb,rfl,?_⟩
    have:xs≠ys:=by
     rintro rfl
     rw[hxj] at hyj
     cases hyj
     simp at hc
    simp[this,tupleA]
   ·have hc:x=y:=by simp at hc;omega
    refine zB4 ?_
    refine⟨(),sM,zow,?_⟩
    show xs.take (j+1)=ys.take (j+1)
    rw[List.take_add_one,List.take_add_one,hP,hxj,hyj,hc]
  ·intro _ F1 hF1 hP
   rw[List.take_of_length_le zo,List.take_of_length_le zo] at hP
   refine zB4 ?_
   refine AW.ret ⟨_,[],⟨_,_,rfl,rfl,rfl⟩,zsb,rfl,?_⟩
   simp[hP,tupleA]
theorem shift_bit(x p:Nat):(x / 2 ^ p &&& 1)=if x.testBit p=true then 1 else 0:=by
 rw[Nat.and_one_is_mod,←Nat.shiftRight_eq_div_pow]
 have:=Nat.testBit_eq_decide_div_mod_eq (x:=x) (i:=p)
 rw[Nat.shiftRight_eq_div_pow]
 rw[this]
 simp only[decide_eq_true_eq]
 rcases Nat.mod_two_eq_zero_or_one (x / 2 ^ p) with h | h<;>simp[h]
noncomputable def derives(g:Gram)(w:List Nat)(n i j:Nat):Bool:=@decide (Der g w ⟨false,n⟩ i j) (Classical.propDecidable _)
theorem derives_iff{g:Gram}{w:List Nat}{n i j:Nat}:derives g w n i j=true↔Der g w ⟨false,n⟩ i j:=by unfold derives;exact @decide_eq_true_iff _ (Classical.propDecidable _)
theorem accepts_spec(F:Frz)(hL:Laid F)(g:Gram)(hg:Valid g){a:Option Addr}{m c:Nat}(hr:Arr tRule F a m c g.rules){b:Option Addr}{n d:Nat}{w:List Nat}(hw:Arr tNat F b n d w)(hw1:w.length≤12)(hw2:∀t∈w,t<g.terms) :
  Abs.Spec CC 9 [.agg ⟨gramCells g a m c⟩,.slice b n d] F [] fun _ v o=>o=[]∧v=.tuple ⟨[.bool (derives g w g.start 0 w.length),.int .i64 0]⟩:=by
 unfold gramCells
 have hwlen:=hw.len
 have hgs:=hg.range.start
 refine Abs.Spec.fn (n:=27) Tryz.func9 rfl rfl fun own=>?_
 refine AW.seq (AW.reg ?_)
 refine WT.boxT Z Z Z Z Z Z (fun i1 hi1=>?_)
 refine zB4 ?_
 refine WT.callV Tryz.func42 Z Z Z Z Z Z (mcheck_spec _ g hg hr hw hw1 hw2) (fun v hv=>?_)
 subst hv
 refine zB4 ?_
 refine AW.cond Z (fun h=>(by cases h)) (fun h=>?_)
 refine zB4 ?_
 refine AW.draw (ps:=[(4,2),(10,2)]) Z Z ?_
 refine zB4 ?_
 refine WT.callF0 Tryz.func38 Z Z Z Z Z Z (ends_spec _ hL g hg hr hw zo) (fun F1 v hF1 hv=>?_)
 obtain⟨ea,ec,E,rfl,hE,hE2⟩:=hv
 have hElen:=hE2.ok.size
 refine zB4 ?_
 refine WT.idxL hT hE Z Z Z Z Z Z Z Z Z zo (fun row hrow b1 off ro cs lx hb hp1 hrel=>?_)
 obtain⟨a2,n2,c2,rfl,hrow2⟩:=hrel
 have hrl:=hE2.ok.row row (gM hrow)
 refine zB4 ?_
 refine WT.idxL (j:=0) hT hrow2 Z Z Z Z Z Z Z Z Z zo (fun x hx b3 off3 ro3 cs3 lx3 hb3 hp3 hrel3=>?_)
 obtain rfl:lx3=_:=hrel3
 have hxb:=hE2.ok.bit row (gM hrow) x (gM hx)
 have pwl:2 ^ (w.length+1)≤4294967296:=Nat.pow_le_pow_right (j:=32) (by decide) zo
 refine zB4 ?_
 refine WT.shr32 (x:=x) (y:=n) Z Z Z Z Z Z zo ?_
 refine WT.and32 (x:=x / 2 ^ n) (y:=1) Z Z Z Z Z Z (Nat.lt_of_le_of_lt (Nat.div_le_self _ _) zo) (by decide) ?_
 refine zB4 ?_
 refine⟨zrC,?_⟩
 refine AW.ret ⟨_,[],⟨_,_,rfl,⟨_,_,rfl,rfl,rfl⟩,rfl⟩,zsb,rfl,?_⟩
 have e:derives g w g.start 0 w.length=x.testBit n:=by
  rw[Bool.eq_iff_iff,derives_iff,←hE2.iff _ _ _ zo,hwlen]
  constructor
  ·rintro⟨row',x',h3,h4,h5⟩
   rw[hrow] at h3;cases h3
   rw[hx] at h4;cases h4
   exact h5
  ·intro hb;exact⟨row,x,hrow,hx,hb⟩
 rw[shift_bit,e]
 cases x.testBit n<;>rfl
structure NS where
 xs:List Nat
 a:Option Addr
 m:Nat
 c:Nat
 B:List (Nat×Blk)
theorem der_le{g:Gram}{w:List Nat}:∀{s:Sym} {i j:Nat},Der g w s i j→i≤j:=by
 intro s i j h
 refine Der.rec (motive_1:=fun s i j _=>i≤j) (motive_2:=fun l i j _=>i≤j) ?_ ?_ ?_ ?_ h
 ·intro t i _;omega
 ·intro r i j _ _ ih;exact ih
 ·intro i;omega
 ·intro s l i m j _ _ ih1 ih2;omega
theorem ders_le{g:Gram}{w:List Nat}:∀{l:List Sym} {i j:Nat},Ders g w l i j→i≤j
 | [],i,j,h=>by rw[ders_nil.1 h];omega
 | s::l,i,j,h=>by
  obtain⟨m,h1,h2⟩:=ders_cons.1 h
  have:=der_le h1
  have:=ders_le h2
  omega
structure Item where
 rule:Nat
 dot:Nat
 frm:Nat
deriving DecidableEq
def nextOf(rs:List Rule)(x:Item):Option Sym:=(rs[x.rule]?).bind fun r=>r.right[x.dot]?
def ItemOk(rs:List Rule)(k:Nat)(x:Item):Prop:=∃r,rs[x.rule]?=some r∧x.dot≤r.right.length∧x.frm≤k
def stepItem(x:Item):Item:=⟨x.rule,x.dot+1,x.frm⟩
def ItemClosed(rs:List Rule)(L:Nat→List Item)(k:Nat)(x:Item):Prop:=
 (∀n i r,nextOf rs x=some ⟨false,n⟩→rs[i]?=some r→r.left=n→(⟨i,0,k⟩:Item)∈L k)∧
 (∀r,rs[x.rule]?=some r→x.dot=r.right.length→∀y∈L x.frm,nextOf rs y=some ⟨false,r.left⟩→stepItem y∈L k)
structure Sets(g:Gram)(v:List Nat)(L:Nat→List Item):Prop where
 ok:∀k,k≤v.length→∀x∈L k,ItemOk g.rules k x
 start:∀i r,g.rules[i]?=some r→r.left=g.start→(⟨i,0,0⟩:Item)∈L 0
 closed:∀k,k≤v.length→∀x∈L k,ItemClosed g.rules L k x
 scan:∀k t,v[k]?=some t→∀x∈L k,nextOf g.rules x=some ⟨true,t⟩→stepItem x∈L (k+1)
def EndsClosed(g:Gram)(E:List Bool):Prop:=∀r∈g.rules,(∀y∈r.right,y.term=true∨E[y.n]?=some true)→E[r.left]?=some true
def knownN(O:List Int):Nat:=O.countP fun x=>decide (0≤x)
structure LenOk(nons:Nat)(O:List Int):Prop where
 len:O.length=nons
 ge:∀x∈O,-1≤x
 le:∀x∈O,x≤((4 ^ knownN O:Nat):Int)
def HasWord(g:Gram)(n:Nat):Prop:=∃w,Der g w ⟨false,n⟩ 0 w.length
structure EndsIn(g:Gram)(E:List Bool):Prop where
 len:E.length=g.nons
 closed:EndsClosed g E
 sound:∀n,E[n]?=some true→HasWord g n
theorem numClone_spec(F:Frz){a:Option Addr}{m c:Nat}{xs:List Nat}(hx:Arr tNat F a m c xs)(hm:m≤1000000) :
  Abs.Spec CC 89 [.slice a m c] F [] fun F' v o=>∃B',o=[B']∧∃a' c',v=.slice a' m c'∧Vec tNat F' a' m c' B' xs:=by
 refine Abs.Spec.fn (n:=8) Tryz.func89 rfl rfl fun own=>?_
 refine zB4 ?_
 refine WT.sliceNil hT Z Z Z Z Z Z Z Z ?_
 refine zB4 ?_
 refine AW.cond Z (fun h=>?_) (fun h=>?_)
 ·obtain rfl:a=none:=by simpa using h
  obtain⟨rfl,rfl⟩:=hx.nil rfl
  obtain rfl:xs=[]:=List.eq_nil_of_length_eq_zero hx.len.symm
  refine zB4 ?_
  refine AW.le (own2:=[]::own) (OwnLe.flat (List.Perm.refl _)) ?_
  exact AW.ret ⟨_,[[]],⟨_,_,rfl,rfl,rfl⟩,zsb,_,rfl,_,_,rfl,(Bld.nil_ _ _).vec⟩
 ·refine zB4 ?_
  refine WT.buildT hT Z Z Z Z Z Z Z Z Z Z Z Z Z Z (fun i5 hi5=>?_)
  refine zB4 ?_
  obtain⟨ds,hds,hcs⟩:=news_arr hT hx (t:=22) rfl rfl 3
  refine WT.appendE hT Z Z Z Z Z Z Z Z Z Z Z Z (fun h0 s0=>hds _ h0 s0) hcs hx.len (by decide) zom (fun a' c' B' hB' _=>?_)
  refine zB4 ?_
  refine AW.le (OwnLe.cons _ (OwnLe.skip _ oR)) ?_
  exact AW.ret ⟨_,[_],⟨_,_,rfl,rfl,rfl⟩,zsb,_,rfl,_,_,rfl,hB'⟩
theorem gN_spec(F:Frz)(n:Int):Abs.Spec CC 41 [.int .i64 n] F [] fun _ v o=>o=[]∧v=.agg ⟨[.bool false,.int .i64 n]⟩:=by
 refine Abs.Spec.fn (n:=5) Tryz.func41 rfl rfl fun own=>?_
 refine AW.seq (AW.reg ?_)
 refine WT.allocT hT Z Z Z Z Z Z (fun i2 hi2=>?_)
 refine zB4 ?_
 exact AW.ret ⟨_,[],⟨_,_,⟨_,rfl,fun G h0 s0=>loadA_cells (s0.has (p:=0) rfl me) (readT_ok hT rfl)⟩,rfl,rfl⟩,zsb,rfl,rfl⟩
structure CS where
 j:Nat
 a:Option Addr
 c:Nat
 B:List (Nat×Blk)
structure Key where
 sym:Sym
 frm:Nat
 to:Nat
deriving DecidableEq
structure KPack where
 rule:Nat
 kids:List Key
deriving DecidableEq
def tKey:Ty Key where
 size:=4
 rel:=fun _ l x=>l=[.bool x.sym.term,.int .i64 x.sym.n,.int .i64 x.frm,.int .i64 x.to]
 len:=fun _ _ _ h=>by rw[h];rfl
 one:=fun _ _ _ h=>by rw[h];rfl
 mono:=fun _ _ _ _ _ h=>h
def tKPack:Ty KPack where
 size:=2
 rel:=fun F l x=>∃a n c,l=[.int .i64 x.rule,.slice a n c]∧Arr tKey F a n c x.kids
 len:=fun _ _ _ h=>by obtain⟨a,n,c,rfl,_⟩:=h;rfl
 one:=fun _ _ _ h=>by obtain⟨a,n,c,rfl,_⟩:=h;rfl
 mono:=fun _ _ _ _ hF h=>by obtain⟨a,n,c,e,h⟩:=h;exact⟨a,n,c,e,h.mono hF⟩
def stepB(w:List Nat)(E:List (List Nat))(s:Sym)(i j:Nat):Bool:=
 if s.term=true then decide (w[i]?=some s.n∧j=i+1)
 else match E[s.n]? with
  | some row=>match row[i]? with
   | some x=>x.testBit j
   | none=>false
  | none=>false
theorem stepB_iff{w:List Nat}{E:List (List Nat)}{s:Sym}{i j:Nat}:stepB w E s i j=true↔Step w E s i j:=by
 unfold stepB Step
 split
 ·simp
 ·split
  ·rename_i row h1
   split
   ·rename_i x h2
    refine⟨fun h=>⟨row,x,h1,h2,h⟩,?_⟩
    rintro⟨row',x',h3,h4,h5⟩
    rw[h1] at h3;cases h3
    rw[h2] at h4;cases h4
    exact h5
   ·rename_i h2
    refine⟨fun h=>(by cases h),?_⟩
    rintro⟨row',x',h3,h4,h5⟩
    rw[h1] at h3;cases h3
    rw[h2] at h4;cases h4
  ·rename_i h1
   refine⟨fun h=>(by cases h),?_⟩
   rintro⟨row',x',h3,h4,h5⟩
   rw[h1] at h3;cases h3
def splits(w:List Nat)(E:List (List Nat))(to:Nat):List Sym→Nat→List (List Key)
 | [],i=>if i=to then [[]] else []
 | s::l,i=>(List.range (to+1)).flatMap fun m=>if stepB w E s i m=true then (splits w E to l m).map (⟨s,i,m⟩::·) else []
theorem splits_reads{w:List Nat}{E:List (List Nat)}{to:Nat}:∀{l:List Sym} {i:Nat},splits w E to l i≠[]→Reads w E l i to
 | [],i,h=>by
  unfold splits at h
  split at h
  ·assumption
  ·exact absurd rfl h
 | s::l,i,h=>by
  unfold splits at h
  obtain⟨x,hx⟩:=List.exists_mem_of_ne_nil _ h
  obtain⟨m,_,hm⟩:=List.mem_flatMap.1 hx
  split at hm
  ·rename_i hs
   refine⟨m,stepB_iff.1 hs,splits_reads fun e=>?_⟩
   rw[e] at hm;cases hm
  ·cases hm
theorem flat_len{α β:Type}(f:α→List β)(b:Nat):∀(l:List α),(∀x∈l,(f x).length≤b)→(l.flatMap f).length≤l.length*b
 | [],_=>by simp
 | a::l,h=>by
  have:=flat_len f b l fun x hx=>h x (List.mem_cons_of_mem _ hx)
  have h2:=h a me
  rw[List.flatMap_cons,List.length_append,List.length_cons,Nat.add_mul,Nat.one_mul]
  omega
theorem splits_len{w:List Nat}{E:List (List Nat)}{to:Nat}:∀{l:List Sym} {i:Nat},(splits w E to l i).length≤(to+1) ^ l.length
 | [],i=>by unfold splits;split<;>simp
 | s::l,i=>by
  unfold splits
  have h:=flat_len (fun m=>if stepB w E s i m=true then (splits w E to l m).map (⟨s,i,m⟩::·) else []) ((to+1) ^ l.length) (List.range (to+1)) fun m _=>by
   split
   ·rw[List.length_map];exact splits_len
   ·exact Nat.zero_le _
  rw[List.length_range] at h
  rw[List.length_cons,Nat.pow_succ,Nat.mul_comm]
  exact h
theorem splits_kids{w:List Nat}{E:List (List Nat)}{to:Nat}:∀{l:List Sym} {i:Nat} {ks:List Key},ks∈splits w E to l i→ks.length=l.length
 | [],i,ks,h=>by
  unfold splits at h
  split at h
  ·rw[List.mem_singleton.1 h];rfl
  ·cases h
 | s::l,i,ks,h=>by
  unfold splits at h
  obtain⟨m,_,hm⟩:=List.mem_flatMap.1 h
  split at hm
  ·obtain⟨ks',h2,rfl⟩:=List.mem_map.1 hm
   simp[splits_kids h2]
  ·cases hm
def packsAt(g:Gram)(w:List Nat)(E:List (List Nat))(k:Key)(i:Nat):List KPack:=match g.rules[i]? with
 | some r=>if r.left=k.sym.n∧k.sym.term=false then (splits w E k.to r.right k.frm).map (KPack.mk i) else []
 | none=>[]
def packsOf(g:Gram)(w:List Nat)(E:List (List Nat))(k:Key):List KPack:=(List.range g.rules.length).flatMap (packsAt g w E k)
theorem keyClone_spec(F:Frz){a:Option Addr}{m c:Nat}{xs:List Key}(hx:Arr tKey F a m c xs)(hm:m≤1000000) :
  Abs.Spec CC 93 [.slice a m c] F [] fun F' v o=>∃B',o=[B']∧∃a' c',v=.slice a' m c'∧Vec tKey F' a' m c' B' xs∧(xs=[]→c'=0):=by
 refine Abs.Spec.fn (n:=8) Tryz.func93 rfl rfl fun own=>?_
 refine zB4 ?_
 refine WT.sliceNil hT Z Z Z Z Z Z Z Z ?_
 refine zB4 ?_
 refine AW.cond Z (fun h=>?_) (fun h=>?_)
 ·obtain rfl:a=none:=by simpa using h
  obtain⟨rfl,rfl⟩:=hx.nil rfl
  obtain rfl:xs=[]:=List.eq_nil_of_length_eq_zero hx.len.symm
  refine zB4 ?_
  refine AW.le (own2:=[]::own) (OwnLe.flat (List.Perm.refl _)) ?_
  exact AW.ret ⟨_,[[]],⟨_,_,rfl,rfl,rfl⟩,zsb,_,rfl,_,_,rfl,(Bld.nil_ _ _).vec,fun _=>rfl⟩
 ·refine zB4 ?_
  refine WT.buildT hT Z Z Z Z Z Z Z Z Z Z Z Z Z Z (fun i5 hi5=>?_)
  refine zB4 ?_
  obtain⟨ds,hds,hcs⟩:=news_arr hT hx (t:=126) rfl rfl 86
  refine WT.appendE0 hT Z Z Z Z Z Z Z Z Z Z Z Z (fun h0 s0=>hds _ h0 s0) hcs hx.len (by decide) zom (fun a' c' B' hB' hc'=>?_)
  refine zB4 ?_
  refine AW.le (OwnLe.cons _ (OwnLe.skip _ oR)) ?_
  exact AW.ret ⟨_,[_],⟨_,_,rfl,rfl,rfl⟩,zsb,_,rfl,_,_,rfl,hB',hc'⟩
structure WalkC(F:Frz)(i3 i4 i5 i6 i7 i8:Nat)(k:Key)(rule:Nat)(b:Option Addr)(n d:Nat)(a:Option Addr)(m c:Nat):Prop where
 hk:F i3=some (.cells false [.bool k.sym.term,.int .i64 k.sym.n,.int .i64 k.frm,.int .i64 k.to])
 hi:F i5=some (.cells false [.int .i64 rule])
 hw:F i6=some (.cells false [.slice b n d])
 he:F i7=some (.cells false [.slice a m c])
 self:F i8=some (.cells false [.func (.func 92) ⟨[]⟩ ⟨[.pointer (some ⟨i3,0,none⟩),.pointer (some ⟨i4,0,none⟩),.pointer (some ⟨i5,0,none⟩),.pointer (some ⟨i6,0,none⟩),.pointer (some ⟨i7,0,none⟩),.pointer (some ⟨i8,0,none⟩)]⟩])
theorem WalkC.mono{F G:Frz}{i3 i4 i5 i6 i7 i8:Nat}{k:Key}{rule:Nat}{b:Option Addr}{n d:Nat}{a:Option Addr}{m c:Nat}(h:WalkC F i3 i4 i5 i6 i7 i8 k rule b n d a m c)(hF:Frz.le F G):WalkC G i3 i4 i5 i6 i7 i8 k rule b n d a m c:=
 ⟨hF _ _ h.hk,hF _ _ h.hi,hF _ _ h.hw,hF _ _ h.he,hF _ _ h.self⟩
def OutB(F:Frz)(i4:Nat)(B:List (Nat×Blk))(outs:List KPack):Prop:=∃a n c OB,B=(i4,.cells false [.slice a n c])::OB∧Bld tKPack F a n c OB outs
theorem OutB.mono{F G:Frz}{i4:Nat}{B:List (Nat×Blk)}{outs:List KPack}(h:OutB F i4 B outs)(hF:Frz.le F G):OutB G i4 B outs:=by
 obtain⟨a,n,c,OB,h1,h2⟩:=h
 exact⟨a,n,c,OB,h1,h2.mono hF⟩
theorem range_skip{α:Type}(f:Nat→List α){p q:Nat}(hpq:p≤q)(h:∀m,p≤m→m<q→f m=[]):(List.range q).flatMap f=(List.range p).flatMap f:=by
 induction q with
 | zero => obtain rfl : p = 0 := by omega
           rfl
 | succ q ih=>
  rcases Nat.lt_or_ge q p with h2 | h2
  ·obtain rfl:p=q+1:=by omega
   rfl
  ·rw[List.range_succ,List.flatMap_append,ih h2 fun m h3 h4=>h m h3 zo]
   simp[h q h2 zo]
theorem range_next{α:Type}(f:Nat→List α){p q:Nat}(hpq:p≤q)(h:∀m,p≤m→m<q→f m=[]):(List.range (q+1)).flatMap f=(List.range p).flatMap f++f q:=by
 rw[List.range_succ,List.flatMap_append,range_skip f hpq h]
 simp
structure WS where
 u:Nat
 B:List (Nat×Blk)
def walkF(w:List Nat)(E:List (List Nat))(k:Key)(rule:Nat)(kids:List Key)(s:Sym)(i:Nat)(l:List Sym)(m:Nat):List KPack:=
 if stepB w E s i m=true then (splits w E k.to l m).map (fun ks=>⟨rule,(kids++[⟨s,i,m⟩])++ks⟩) else []
theorem walkF_all(w:List Nat)(E:List (List Nat))(k:Key)(rule:Nat)(kids:List Key)(s:Sym)(i:Nat)(l:List Sym) :
  (splits w E k.to (s::l) i).map (fun ks=>(⟨rule,kids++ks⟩:KPack))=(List.range (k.to+1)).flatMap (walkF w E k rule kids s i l):=by
 unfold splits
 rw[List.map_flatMap]
 congr 1
 funext m
 unfold walkF
 split
 ·rw[List.map_map]
  apply List.map_congr_left
  intro ks _
  simp
 ·rfl
theorem range_len{α:Type}(f:Nat→List α){p q:Nat}(h:p≤q):((List.range p).flatMap f).length≤((List.range q).flatMap f).length:=by
 induction q with
 | zero => obtain rfl : p = 0 := by omega
           exact Nat.le_refl _
 | succ q ih=>
  rcases Nat.lt_or_ge q p with h2 | h2
  ·obtain rfl:p=q+1:=by omega
   exact Nat.le_refl _
  ·rw[List.range_succ,List.flatMap_append,List.length_append]
   have:=ih h2
   omega
theorem walk_spec{i3 i4 i5 i6 i7 i8:Nat}{k:Key}{rule:Nat}{b:Option Addr}{n d:Nat}{a:Option Addr}{m c:Nat}{w:List Nat}{E:List (List Nat)}{t nons:Nat}(hE2:EndsOk nons w.length E)(hwl:w.length≤30)(hkt:k.to≤30) :
  ∀(l:List Sym) (F:Frz) (hL:Laid F) (hC:WalkC F i3 i4 i5 i6 i7 i8 k rule b n d a m c) (hw:Arr tNat F b n d w) (hE:Arr (tList tU32) F a m c E)
   {la:Option Addr} {ln lc:Nat} (hl:Arr tSym F la ln lc l) (hok:∀y∈l,SymOk t nons y) (from_:Nat) (hfrom:from_≤w.length) {ka:Option Addr} {kn kc:Nat} {kids:List Key} (hkids:Arr tKey F ka kn kc kids) (hlen:kids.length+l.length≤4)
   {B:List (Nat×Blk)} {outs:List KPack} (hB:OutB F i4 B outs) (hlim:outs.length+(splits w E k.to l from_).length≤1000000000),
  Abs.Spec CC 92 [.slice la ln lc,.int .i64 from_,.slice ka kn kc,.pointer (some ⟨i3,0,none⟩),.pointer (some ⟨i4,0,none⟩),.pointer (some ⟨i5,0,none⟩),.pointer (some ⟨i6,0,none⟩),.pointer (some ⟨i7,0,none⟩),.pointer (some ⟨i8,0,none⟩)] F [B]
   fun F' v o=>∃B',o=[B']∧OutB F' i4 B' (outs++(splits w E k.to l from_).map fun ks=>⟨rule,kids++ks⟩):=by
 intro l
 induction l with
 | nil=>
  intro F hL hC hw hE la ln lc hl hok from_ hfrom ka kn kc kids hkids hlen B outs hB hlim
  obtain⟨oa,on,oc,OB,rfl,hO⟩:=hB
  obtain⟨h3,h5,h6,h7,h8⟩:=hC
  have hll:=hl.len
  have hln:ln=0:=by simpa using hll
  subst hln
  have hkl:=hkids.len
  refine Abs.Spec.fn (n:=71) Tryz.func92 rfl rfl fun own=>?_
  refine AW.le (own2:=[(i4,.cells false [.slice oa on oc])]::OB::own) (OwnLe.flat (List.Perm.refl _)) ?_
  refine zB4 ?_
  refine AW.cond Z (fun _=>?_) (fun h=>(by cases h))
  refine zB4 ?_
  have hsp:splits w E k.to [] from_=if from_=k.to then [[]] else []:=rfl
  refine AW.cond Z (fun h=>?_) (fun h=>?_)
  ·have h:from_=k.to:=by simp at h;omega
   rw[hsp,if_pos h] at hlim ⊢
   have hOl:=hO.len
   skip
   refine AW.draw (ps:=[(0,3),(0,5),(1,3)]) Z Z ?_
   refine zB4 ?_
   refine WT.callN Tryz.func93 Z Z Z Z Z Z (keyClone_spec _ hkids zo) (fun F2 v B2 hF2 hv=>?_)
   obtain⟨ca,cc,rfl,hcv,_⟩:=hv
   refine WT.freezeAll 0 Z Z (fun F3 hF3 hB3=>?_)
   have hca:=hcv.arr hF3 hB3
   have hO3:=(hO.mono hF2).mono hF3
   refine zB4 ?_
   refine WT.buildT hT Z Z Z Z Z Z Z Z Z Z Z Z Z Z (fun i9 hi9=>?_)
   refine WT.appendT (ys:=[(⟨rule,kids⟩:KPack)]) hT 3 hO3 Z (fun _=>rfl) Z Z Z Z Z Z Z Z Z Z Z (fun h0 s0=>news_own hT s0 0 Z Z Z Z) (Cells.single (R:=tKPack) (x:=⟨rule,kids⟩) ⟨_,_,_,rfl,hca⟩) Z (by decide) zom (fun a3 c3 B3 hB3=>?_)
   refine zB4 ?_
   refine⟨zrC,?_⟩
   skip
   refine AW.le (own2:=((i4,.cells false [.slice a3 (on+1) c3])::B3)::own) (OwnLe.skip _ (OwnLe.skip _ (OwnLe.flat (List.Perm.refl _)))) ?_
   refine AW.ret ⟨_,[_],rfl,zsb,_,rfl,_,_,_,B3,rfl,?_⟩
   simpa using hB3
  ·have h:from_≠k.to:=by intro e;simp at h;omega
   rw[hsp,if_neg h]
   refine zB4 ?_
   refine AW.le (own2:=((i4,.cells false [.slice oa on oc])::OB)::own) (OwnLe.flat (List.Perm.refl _)) ?_
   refine AW.ret ⟨_,[_],rfl,zsb,_,rfl,oa,on,oc,OB,rfl,?_⟩
   simpa using hO
 | cons s l ih=>
  intro F hL hC hw hE la ln lc hl hok from_ hfrom ka kn kc kids hkids hlen B outs hB hlim
  obtain⟨oa,on,oc,OB,rfl,hO⟩:=hB
  obtain⟨h3,h5,h6,h7,h8⟩:=id hC
  have hll:=hl.len
  have hln:ln=l.length+1:=by simpa using hll
  subst hln
  have hkl:=hkids.len
  have pwl:2 ^ (w.length+1)≤4294967296:=Nat.pow_le_pow_right (j:=32) (by decide) zo
  have hlc:(s::l).length=l.length+1:=rfl
  refine Abs.Spec.fn (n:=71) Tryz.func92 rfl rfl fun own=>?_
  refine AW.le (own2:=[(i4,.cells false [.slice oa on oc])]::OB::own) (OwnLe.flat (List.Perm.refl _)) ?_
  refine zB4 ?_
  refine AW.cond Z (fun h=>(by simp at h;omega)) (fun _=>?_)
  refine zB4 ?_
  refine AW.draw (ps:=[(6,4)]) Z Z ?_
  refine zB4 ?_
  refine WT.callV Tryz.func64 Z Z Z Z Z Z (reach_spec _ hL hw hE hl hE2 hok hwl zo from_ hfrom) (fun v hv=>?_)
  obtain⟨r,rfl,hr1,hr2⟩:=hv
  refine zB4 ?_
  refine WT.shr32 (x:=r) (y:=k.to) Z Z Z Z Z Z zo ?_
  refine WT.and32 (x:=r / 2 ^ k.to) (y:=1) Z Z Z Z Z Z (Nat.lt_of_le_of_lt (Nat.div_le_self _ _) zo) (by decide) ?_
  rw[shift_bit]
  refine zB4 ?_
  refine⟨zrC,?_⟩
  skip
  refine AW.cond Z (fun h=>?_) (fun h=>?_)
  ·have hnr:¬Reads w E (s::l) from_ k.to:=by
    intro hR
    rw[←hr2] at hR
    rw[hR] at h
    simp at h
   have hsp:splits w E k.to (s::l) from_=[]:=Classical.byContradiction fun hne=>hnr (splits_reads hne)
   rw[hsp]
   refine AW.le (own2:=((i4,.cells false [.slice oa on oc])::OB)::own) (OwnLe.flat (List.Perm.refl _)) ?_
   refine AW.ret ⟨_,[_],rfl,zsb,_,rfl,oa,on,oc,OB,rfl,?_⟩
   simpa using hO
  ·obtain⟨sa,sc,hs1,hsl⟩:=hl.slice (C:=CC) (lo:=0) (hi:=1) (Nat.zero_le _) zo hT (t:=90) Z Z Z none (some (.int .i64 1)) rfl rfl
   refine zB4 ?_
   refine WT.slice Z Z Z Z Z Z Z Z hs1 ?_
   refine zB4 ?_
   have hsl:Arr tSym F sa 1 sc [s]:=hsl
   refine WT.callV Tryz.func64 Z Z Z Z Z Z (reach_spec _ hL hw hE hsl hE2 (fun y hy=>hok y (by rw[List.mem_singleton.1 hy];exact List.mem_cons_self ..)) hwl (by simp) from_ hfrom) (fun v hv=>?_)
   obtain⟨x,rfl,hx1,hx2⟩:=hv
   have hx3:∀j,x.testBit j=stepB w E s from_ j:=fun j=>by
    rw[Bool.eq_iff_iff,hx2,stepB_iff]
    simp[Reads]
   have hmap:(splits w E k.to (s::l) from_).map (fun ks=>(⟨rule,kids++ks⟩:KPack))=(List.range (k.to+1)).flatMap (walkF w E k rule kids s from_ l):=walkF_all ..
   have hlen2:(splits w E k.to (s::l) from_).length=((List.range (k.to+1)).flatMap (walkF w E k rule kids s from_ l)).length:=by rw[←hmap,List.length_map]
   rw[hmap]
   rw[hlen2] at hlim
   refine zB4 ?_
   refine AW.block ?_
   refine AW.loopR (S:=WS) (fun s=>[(12,.int .u32 (s.u:Nat))]) (fun s=>s.B::own) (fun u G=>u.u<2 ^ (w.length+1)∧∃p,(∀j,u.u.testBit j=(decide (p≤j)&&x.testBit j))∧OutB G i4 u.B (outs++(List.range (min p (k.to+1))).flatMap (walkF w E k rule kids s from_ l))) (fun s=>s.u) ⟨x,(i4,.cells false [.slice oa on oc])::OB⟩
    sM (OwnLe.flat (List.Perm.refl _)) ⟨hx1,0,fun j=>by simp,?_⟩ ?_
   ·rw[Nat.zero_min]
    simp only[List.range_zero,List.flatMap_nil,List.append_nil]
    exact⟨oa,on,oc,OB,rfl,hO⟩
   ·intro u F2 hF2 hP
    obtain⟨u,UB⟩:=u
    obtain⟨hu1,p,hu2,hU⟩:=hP
    dsimp only at hu1 hu2 hU
    have hL2:=hL.mono hF2
    have hC2:=hC.mono hF2
    have hw2:=hw.mono hF2
    have hE3:=hE.mono hF2
    have hl2:=hl.mono hF2
    have hkids2:=hkids.mono hF2
    obtain⟨g3,g5,g6,g7,g8⟩:=id hC2
    refine zB4 ?_
    refine AW.cond Z (fun h=>?_) (fun h=>?_)
    ·have hne:u≠0:=by intro e;subst e;simp at h
     obtain⟨p2,q,rfl,hp2⟩:=low_form (w.length+1) u zo hu1
     have hple:p≤p2:=by
      have:=hu2 p2
      rw[low_bit] at this
      simp at this
      exact this.1
     have hxp:x.testBit p2=true:=by
      have:=hu2 p2
      rw[low_bit] at this
      simp at this
      exact this.2
     have hgap:∀m,p≤m→m<p2→walkF w E k rule kids s from_ l m=[]:=by
      intro m h1 h2
      have:=hu2 m
      rw[low_bit,if_pos h2] at this
      simp[h1] at this
      unfold walkF
      rw[←hx3,this]
      simp
     have hle:2 ^ p2*(2*q+1) &&& (2 ^ p2*(2*q+1)-1)≤2 ^ p2*(2*q+1)-1:=Nat.and_le_right
     have hnext:∀j,(2 ^ p2*(2*q+1) &&& (2 ^ p2*(2*q+1)-1)).testBit j=(decide (p2+1≤j)&&x.testBit j):=by
      intro j
      rw[and_pred,hu2]
      by_cases h1:j=p2
      ·have h3:¬j+1≤j:=by omega
       subst h1;simp[h3]
      ·by_cases h2:p≤j
       ·by_cases h3:p2+1≤j
        ·simp[h1,h2,h3]
        ·have:=hu2 j
         rw[low_bit,if_pos zo] at this
         simp[h2] at this
         simp[this]
       ·have h3:¬p2+1≤j:=by omega
        simp[h2,h3]
     refine zB4 ?_
     refine AW.block ?_
     refine zB4 ?_
     refine WT.callV Tryz.func91 Z Z Z Z Z Z (tz_spec _ hL2 p2 q zo) (fun v hv=>?_)
     subst hv
     refine zB4 ?_
     refine AW.cond Z (fun h2=>?_) (fun h2=>?_)
     ·have h2:p2≤k.to:=by simp at h2;omega
      obtain⟨lb,lo,lro,lcs,ll,rfl,hlb,hlp,hlr⟩:=hl2.el 0 s rfl
      obtain rfl:ll=_:=hlr
      have hlk:=hl2.slice (C:=CC) (lo:=1) (hi:=l.length+1) zo (Nat.le_refl _) hT (t:=90) Z Z Z (some (.int .i64 1)) none rfl rfl
      obtain⟨ta,tc,hs2,htl⟩:=hlk
      have htl2:Arr tSym F2 ta (l.length+1-1) tc l:=by
       have e:((s::l).take (l.length+1)).drop 1=l:=by simp
       rw[e] at htl;exact htl
      have hp2w:p2≤w.length:=by omega
      have hfp:walkF w E k rule kids s from_ l p2=(splits w E k.to l p2).map (fun ks=>⟨rule,(kids++[⟨s,from_,p2⟩])++ks⟩):=by
       unfold walkF
       rw[if_pos (by rw[←hx3];exact hxp)]
      have hadd:(List.range (p2+1)).flatMap (walkF w E k rule kids s from_ l)=(List.range p).flatMap (walkF w E k rule kids s from_ l)++walkF w E k rule kids s from_ l p2:=range_next _ hple hgap
      have hlim2:=range_len (walkF w E k rule kids s from_ l) (show p2+1≤k.to+1 by omega)
      rw[hadd,List.length_append,hfp,List.length_map] at hlim2
      skip
      refine AW.draw (ps:=[(0,5),(0,12),(0,13),(2,5),(2,12),(2,13),(8,5)]) Z Z ?_
      refine zB4 ?_
      refine WT.slice Z Z Z Z Z Z Z Z hs2 ?_
      refine zB4 ?_
      refine WT.callN Tryz.func93 Z Z Z Z Z Z (keyClone_spec _ hkids2 zo) (fun F3 v B3 hF3 hv=>?_)
      obtain⟨ca,cc,rfl,hcv,hc0⟩:=hv
      have g83:=hF3 _ _ g8
      have hlb3:=hF3 _ _ hlb
      refine zB4 ?_
      refine WT.idxA (j:=0) (s:=2) hT Z Z Z Z Z Z Z Z Z zo ?_
      refine WT.loadS hT hlb3 hlp Z Z Z Z Z Z Z Z ?_
      refine zB4 ?_
      refine WT.buildT hT Z Z Z Z Z Z Z Z Z Z Z Z Z Z (fun i9 hi9=>?_)
      refine WT.appendV (ys:=[(⟨s,from_,p2⟩:Key)]) hT 1 hcv hc0 Z (fun _=>rfl) Z Z Z Z Z Z Z Z Z Z Z (fun h0 s0=>news_own hT s0 0 Z Z Z Z) (Cells.single (R:=tKey) (x:=⟨s,from_,p2⟩) rfl) Z (by decide) zom (fun a4 c4 B4 hB4=>?_)
      refine WT.freezeAll 1 Z Z (fun F4 hF4 hBf4=>?_)
      have hk4:=hB4.frozen hF4 hBf4
      have hF34:=hF3.trans hF4
      skip
      refine WT.callC1F 2 Tryz.func92 Z Z Z Z Z Z Z Z Z (fun _=>rfl) (ih F4 (hL2.mono hF34) (hC2.mono hF34) (hw2.mono hF34) (hE3.mono hF34) (htl2.mono hF34) (fun y hy=>hok y (List.mem_cons_of_mem _ hy)) p2 hp2w hk4 (by simp;omega) (hU.mono hF34) ?_) (fun F5 v B5 hF5 hv=>?_)
      ·rw[Nat.min_eq_left zo,List.length_append];omega
      refine zB4 ?_
      refine⟨zrC,?_⟩
      refine zB4 ?_
      refine WT.dec32 (x:=2 ^ p2*(2*q+1)) (y:=1) Z Z Z Z Z Z zo zo ?_
      refine WT.and32 (x:=2 ^ p2*(2*q+1)) Z Z Z Z Z Z zo zo ?_
      refine zB4 ?_
      refine⟨⟨_,B5⟩,?_,sM,OwnLe.skip _ (OwnLe.skip _ oR),?_,p2+1,hnext,?_⟩
      ·dsimp only;omega
      ·dsimp only;omega
      ·dsimp only
       rw[Nat.min_eq_left zo,hadd,hfp]
       rw[Nat.min_eq_left zo,List.append_assoc] at hv
       exact hv
     ·have h2:k.to<p2:=by simp at h2;omega
      refine zB4 ?_
      refine WT.dec32 (x:=2 ^ p2*(2*q+1)) (y:=1) Z Z Z Z Z Z zo zo ?_
      refine WT.and32 (x:=2 ^ p2*(2*q+1)) Z Z Z Z Z Z zo zo ?_
      refine zB4 ?_
      refine⟨⟨_,UB⟩,?_,sM,zow,?_,p2+1,hnext,?_⟩
      ·dsimp only;omega
      ·dsimp only;omega
      ·dsimp only
       rw[Nat.min_eq_right zo]
       have:(List.range (k.to+1)).flatMap (walkF w E k rule kids s from_ l)=(List.range (min p (k.to+1))).flatMap (walkF w E k rule kids s from_ l):=range_skip _ zo fun m h3 h4=>hgap m zo zo
       rw[this]
       exact hU
    ·have h0:u=0:=by simp at h;omega
     subst h0
     refine AW.exit ?_
     skip
     refine⟨_,[_],rfl,zsb,_,rfl,?_⟩
     have:(List.range (k.to+1)).flatMap (walkF w E k rule kids s from_ l)=(List.range (min p (k.to+1))).flatMap (walkF w E k rule kids s from_ l):=range_skip _ zo fun m h3 h4=>by
      have:=hu2 m
      simp at this
      unfold walkF
      rw[←hx3,this zo]
      simp
     rw[this]
     exact hU
theorem packsAt_len{g:Gram}{w:List Nat}{E:List (List Nat)}{k:Key}(hg:∀r∈g.rules,r.right.length≤4)(hk:k.to≤30)(i:Nat):(packsAt g w E k i).length≤923521:=by
 unfold packsAt
 split
 ·rename_i r hr
  split
  ·rw[List.length_map]
   have h1:=splits_len (w:=w) (E:=E) (to:=k.to) (l:=r.right) (i:=k.frm)
   have h2:(k.to+1) ^ r.right.length≤31 ^ 4:=Nat.le_trans (Nat.pow_le_pow_left zo _) (Nat.pow_le_pow_right (by decide) (hg r (gM hr)))
   have h3:31 ^ 4=923521:=by decide
   omega
  ·simp
 ·simp
structure PkS where
 j:Nat
 a:Option Addr
 n:Nat
 c:Nat
 B:List (Nat×Blk)
theorem packs_spec(F:Frz)(hL:Laid F)(g:Gram)(hg:Valid g){ga:Option Addr}{gm gc:Nat}(hr:Arr tRule F ga gm gc g.rules){b:Option Addr}{n d:Nat}{w:List Nat}(hw:Arr tNat F b n d w)(hw1:w.length≤30)
  {a:Option Addr} {m c:Nat} {E:List (List Nat)} (hE:Arr (tList tU32) F a m c E) (hE2:EndsOk g.nons w.length E) (k:Key) (hkf:k.frm≤w.length) (hkt:k.to≤30) :
  Abs.Spec CC 66 [.agg ⟨gramCells g ga gm gc⟩,.slice b n d,.slice a m c,.agg ⟨[.bool k.sym.term,.int .i64 k.sym.n,.int .i64 k.frm,.int .i64 k.to]⟩] F [] fun F' v o=>o=[]∧∃a n c,v=.slice a n c∧Arr tKPack F' a n c (packsOf g w E k):=by
 unfold gramCells
 have hrl:=hr.len
 have hgr:=hg.range.rules
 refine Abs.Spec.fn (n:=41) Tryz.func66 rfl rfl fun own=>?_
 refine AW.seq (AW.reg ?_)
 refine WT.boxT Z Z Z Z Z Z (fun i4 hi4=>?_)
 refine WT.boxT Z Z Z Z Z Z (fun i5 hi5=>?_)
 refine WT.boxT Z Z Z Z Z Z (fun i6 hi6=>?_)
 refine WT.boxT Z Z Z Z Z Z (fun i7 hi7=>?_)
 refine WT.freezeAll 0 Z Z (fun G1 hG1 hB1=>?_)
 refine WT.freezeAll 1 Z Z (fun G2 hG2 hB2=>?_)
 refine WT.freezeAll 2 Z Z (fun G3 hG3 hB3=>?_)
 have hG13:=hG1.trans (hG2.trans hG3)
 have f7:=hG3 _ _ (hG2 _ _ (hB1 i7 _ me))
 have f6:=hG3 _ _ (hB2 i6 _ me)
 have f5:=hB3 i5 _ me
 refine WT.le (own2:=[(i4,.cells false [.int .i64 g.terms,.int .i64 g.nons,.int .i64 g.start,.slice ga gm gc])]::own) (OwnLe.skip _ (OwnLe.skip _ (OwnLe.skip _ oR))) ?_
 refine zB4 ?_
 refine WT.allocT hT Z Z Z Z Z Z (fun i9 hi9=>?_)
 refine zB4 ?_
 refine AW.range (S:=PkS) (fun _=>[]) (fun s=>((i9,.cells false [.slice s.a s.n s.c])::s.B)::[(i4,.cells false [.int .i64 g.terms,.int .i64 g.nons,.int .i64 g.start,.slice ga gm gc])]::own)
  (fun j s G=>Bld tKPack G s.a s.n s.c s.B ((List.range j).flatMap (packsAt g w E k))) gm ⟨0,none,0,0,[]⟩
  Z Z Z Z Z Z Z Z Z zo rfl rfl (fun _=>rfl) (fun _=>rfl) sM (OwnLe.flat (List.Perm.refl _)) (Bld.nil_ _ _) ?_ ?_
 ·intro j s F1 hF1 hj hb
  have hr1:=(hr.mono hG13).mono hF1
  have e5:=hF1 _ _ f5
  have e6:=hF1 _ _ f6
  have e7:=hF1 _ _ f7
  refine zB6 ?_
  refine WT.idxL hT hr1 Z Z Z Z Z Z Z Z Z zo (fun r hrj b1 off ro cs lx hb1 hp1 hrel=>?_)
  obtain⟨ra,rn,rc,rfl,hra⟩:=hrel
  obtain⟨hrr1,hrr,hrs⟩:=hg.right r (gM hrj)
  refine zB6 ?_
  refine WT.allocT hT Z Z Z Z Z Z (fun i10 hi10=>?_)
  refine WT.allocT hT Z Z Z Z Z Z (fun i11 hi11=>?_)
  have hsucc:(List.range (j+1)).flatMap (packsAt g w E k)=(List.range j).flatMap (packsAt g w E k)++packsAt g w E k j:=by
   rw[List.range_succ,List.flatMap_append];simp
  have hlim:((List.range j).flatMap (packsAt g w E k)).length≤32*923521:=by
   have:=flat_len (packsAt g w E k) 923521 (List.range j) fun i _=>packsAt_len (fun r hr=>(hg.right r hr).2.1) hkt i
   rw[List.length_range] at this
   exact Nat.le_trans this (Nat.mul_le_mul_right _ zo)
  refine zB6 ?_
  refine WT.split 27 Z (fun h3=>?_) (fun h3=>?_)
  ·have hno:packsAt g w E k j=[]:=by
    unfold packsAt
    rw[hrj]
    simp only
    rw[if_neg]
    rintro⟨e,_⟩
    simp[e] at h3
   refine zB6 ?_
   refine AW.cond Z (fun _=>?_) (fun h=>(by cases h))
   refine AW.exit ?_
   skip
   refine⟨s,sM,OwnLe.skip _ (OwnLe.skip _ oR),?_⟩
   dsimp only
   rw[hsucc,hno,List.append_nil];exact hb
  ·have hleft:r.left=k.sym.n:=by simp at h3;omega
   refine zB6 ?_
   refine AW.cond Z (fun h4=>?_) (fun h4=>?_)
   ·have hno:packsAt g w E k j=[]:=by
     unfold packsAt
     rw[hrj]
     simp only
     rw[if_neg]
     rintro⟨_,e⟩
     simp[e] at h4
    refine AW.exit ?_
    skip
    refine⟨s,sM,OwnLe.skip _ (OwnLe.skip _ oR),?_⟩
    dsimp only
    rw[hsucc,hno,List.append_nil];exact hb
   ·have hterm:k.sym.term=false:=by simpa using h4
    have hyes:packsAt g w E k j=(splits w E k.to r.right k.frm).map (KPack.mk j):=by
     unfold packsAt
     rw[hrj]
     simp only
     rw[if_pos ⟨hleft,hterm⟩]
    have hlim2:=packsAt_len (w:=w) (E:=E) (k:=k) (fun r hr=>(hg.right r hr).2.1) hkt j
    rw[hyes,List.length_map] at hlim2
    refine zB6 ?_
    refine WT.allocT hT Z Z Z Z Z Z (fun i12 hi12=>?_)
    refine zB6 ?_
    refine WT.freezeAll 0 Z Z (fun G4 hG4 hB4=>?_)
    refine WT.freezeAll 2 Z Z (fun G5 hG5 hB5=>?_)
    have hG45:=hG4.trans hG5
    have e12:=hG5 _ _ (hB4 i12 _ me)
    have e10:=hB5 i10 _ me
    have e5:=hG45 _ _ e5
    have e6:=hG45 _ _ e6
    have e7:=hG45 _ _ e7
    have hF15:=hG13.trans (hF1.trans hG45)
    skip
    refine WT.callC1F 3 Tryz.func92 Z Z Z Z Z Z Z Z Z (fun _=>rfl) (walk_spec (rule:=j) hE2 hw1 hkt r.right G5 (hL.mono hF15) ⟨e7,e10,e5,e6,e12⟩ (hw.mono hF15) (hE.mono hF15) ((hra.mono hG4).mono hG5) hrs k.frm hkf (Arr.nil_ _ _) (by simp;omega) ⟨_,_,_,_,rfl,hb.mono hG45⟩ zo) (fun F5 v B5 hF5 hv=>?_)
    refine zB6 ?_
    obtain⟨na,nn,nc,nB,rfl,hnb⟩:=hv
    refine⟨⟨0,na,nn,nc,nB⟩,sM,OwnLe.skip _ (OwnLe.skip _ (OwnLe.skip _ oR)),?_⟩
    dsimp only
    rw[hsucc,hyes]
    simpa using hnb
 ·intro s F1 hF1 hb
  refine AW.le (own2:=[(i9,.cells false [.slice s.a s.n s.c])]::s.B::[(i4,.cells false [.int .i64 g.terms,.int .i64 g.nons,.int .i64 g.start,.slice ga gm gc])]::own) (OwnLe.flat (List.Perm.refl _)) ?_
  refine AW.freezeAll 1 Z Z (fun F3 hF3 hB3=>?_)
  refine zB6 ?_
  refine AW.ret ⟨_,[],⟨_,_,rfl,rfl,rfl⟩,zsb,rfl,s.a,s.n,s.c,rfl,?_⟩
  unfold packsOf
  rw[←hrl]
  exact hb.frozen hF3 hB3
theorem arr_at{α:Type}[Inhabited α]{d:Array α}{i:Nat}(h:i<d.size):d.toList[i]?=some d[i]!:=by
 rw[getElem!_pos d i h,Array.getElem?_toList,Array.getElem?_eq_getElem h]
theorem swp_list{α:Type}[Inhabited α](d:Array α)(i j:Nat):(Go.Sort.swp d i j).toList=(d.toList.set i d[j]!).set j d[i]!:=by
 unfold Go.Sort.swp;simp
def CmpOk{α:Type}(R:Ty α)(lt:α→α→Bool)(F:Frz)(g:Nat)(first capt:List Value):Prop:=
 (∃fn,CC.func g=some fn∧fn.body.isSome=true)∧∀G,Frz.le F G→∀lx ly x y,R.rel G lx x→R.rel G ly y→Abs.Spec CC g (first++[.agg ⟨lx⟩,.agg ⟨ly⟩]++capt) G [] fun _ v o=>o=[]∧∃z:Int,v=.int .i64 z∧(z<0↔lt x y=true)
theorem CmpOk.mono{α:Type}{R:Ty α}{lt:α→α→Bool}{F G:Frz}{g:Nat}{first capt:List Value}(h:CmpOk R lt F g first capt)(hF:Frz.le F G):CmpOk R lt G g first capt:=
 ⟨h.1,fun H hH=>h.2 H (hF.trans hH)⟩
structure VS(α:Type) where
 i:Nat
 d:Array α
 B:List (Nat×Blk)
instance:Inhabited Item:=⟨⟨0,0,0⟩⟩
theorem bitsLen_shift(x k:Nat)(h:2 ^ k≤x):Go.Sort.bitsLen x=k+Go.Sort.bitsLen (x / 2 ^ k):=by
 apply Nat.le_antisymm
 ·rw[Go.Sort.bitsLen_le_iff]
  have h1:=Go.Sort.lt_two_pow_bitsLen (x / 2 ^ k)
  rw[Nat.div_lt_iff_lt_mul (Nat.two_pow_pos k)] at h1
  rw[Nat.pow_add,Nat.mul_comm];exact h1
 ·have h1:=Go.Sort.lt_two_pow_bitsLen x
  have hk:k≤Go.Sort.bitsLen x:=by
   rcases Nat.lt_or_ge (Go.Sort.bitsLen x) k with h2 | h2
   ·have:=Nat.pow_le_pow_right (show 0<2 by decide) (Nat.le_of_lt h2)
    omega
   ·exact h2
  have:Go.Sort.bitsLen (x / 2 ^ k)≤Go.Sort.bitsLen x-k:=by
   rw[Go.Sort.bitsLen_le_iff,Nat.div_lt_iff_lt_mul (Nat.two_pow_pos k),←Nat.pow_add,Nat.sub_add_cancel hk]
   exact h1
  omega
theorem len64_spec(F:Frz)(x:Nat)(hx:x<4294967296):Abs.Spec CC 143 [.int .u64 x] F [] fun _ v o=>o=[]∧v=.int .i64 (Go.Sort.bitsLen x:Nat):=by
 have fin:∀(y n:Nat),y<256→n≤64→n+Go.Sort.bitsLen y=Go.Sort.bitsLen x→True:=fun _ _ _ _ _=>trivial
 refine Abs.Spec.fn (n:=25) Tryz.func143 rfl rfl fun own=>?_
 refine zC4 ?_
 refine AW.cond Z (fun h=>(by simp at h;omega)) (fun _=>?_)
 refine AW.skip ?_
 refine AW.jn (S:=Nat×Nat) (fun s=>[(0,.int .u64 (s.1:Nat)),(2,.int .i64 (s.2:Nat))]) (fun _=>own) (fun s _=>s.1<65536∧s.2≤16∧s.2+Go.Sort.bitsLen s.1=Go.Sort.bitsLen x) ?_ (fun s F1 hF1 hP=>?_)
 ·refine zC4 ?_
  refine AW.cond Z (fun h=>?_) (fun h=>?_)
  ·have h:65536≤x:=by simp at h;omega
   refine zC4 ?_
   refine WT.shV Z Z Z Z Z Z (by decide) (shr64 (y:=16) (by decide)) ?_
   refine zC4 ?_
   refine⟨(x / 2 ^ 16,16),sM,OwnLe.refl _,?_,Nat.le_refl _,(bitsLen_shift x 16 h).symm⟩
   show x / 65536<65536
   omega
  ·have h:x<65536:=by simp at h;omega
   refine AW.skip ?_
   exact⟨(x,0),sM,OwnLe.refl _,h,Nat.zero_le _,by simp⟩
 ·obtain⟨h1,h2,h3⟩:=hP
  refine AW.jn (S:=Nat×Nat) (fun s=>[(0,.int .u64 (s.1:Nat)),(2,.int .i64 (s.2:Nat))]) (fun _=>own) (fun s _=>s.1<256∧s.2≤24∧s.2+Go.Sort.bitsLen s.1=Go.Sort.bitsLen x) ?_ (fun u F2 hF2 hP=>?_)
  ·refine zC4 ?_
   refine AW.cond Z (fun h=>?_) (fun h=>?_)
   ·have h:256≤s.1:=by simp at h;omega
    refine zC4 ?_
    refine WT.shV Z Z Z Z Z Z (by decide) (shr64 (y:=8) (by decide)) ?_
    refine zC4 ?_
    refine⟨(s.1 / 2 ^ 8,s.2+8),sM,OwnLe.refl _,?_,by dsimp only;omega,?_⟩
    ·show s.1 / 256<256
     omega
    ·have:=bitsLen_shift s.1 8 h
     dsimp only
     omega
   ·have h:s.1<256:=by simp at h;omega
    refine AW.skip ?_
    exact⟨s,sM,OwnLe.refl _,h,by omega,h3⟩
  ·obtain⟨g1,g2,g3⟩:=hP
   refine zC4 ?_
   refine WT.conv hT (k2:=.u8) Z Z Z Z Z Z Z Z (wrapU8 zo) ?_
   have hb:Go.Sort.bitsLen u.1≤8:=(Go.Sort.bitsLen_le_iff _ _).2 g1
   refine WT.indexStr (m:=256) (f:=Go.Sort.bitsLen) hT Z Z Z Z Z Z Z Z g1 (by decide +kernel) ?_
   refine WT.conv hT (k2:=.i64) Z Z Z Z Z Z Z Z (wrap64 zo) ?_
   refine zC4 ?_
   refine AW.ret ⟨_,[],⟨_,_,rfl,rfl,rfl⟩,zsb,rfl,?_⟩
   rw[g3];rfl
theorem blen_spec(F:Frz)(x:Nat)(hx:x<4294967296):Abs.Spec CC 124 [.int .u64 x] F [] fun _ v o=>o=[]∧v=.int .i64 (Go.Sort.bitsLen x:Nat):=by
 refine Abs.Spec.fn (n:=8) Tryz.func124 rfl rfl fun own=>?_
 refine zC4 ?_
 refine AW.cond Z (fun h=>(by cases h)) (fun _=>?_)
 refine zC4 ?_
 refine WT.callV Tryz.func143 Z Z Z Z Z Z (len64_spec _ x hx) (fun v hv=>?_)
 subst hv
 refine zC4 ?_
 exact AW.ret ⟨_,[],⟨_,_,rfl,rfl,rfl⟩,zsb,rfl,rfl⟩
theorem npow_spec(F:Frz)(x:Nat)(hx:x≤1000000):Abs.Spec CC 156 [.int .i64 x] F [] fun _ v o=>o=[]∧v=.int .u64 ((2 ^ Go.Sort.bitsLen x:Nat):Int):=by
 have hb : Go.Sort.bitsLen x ≤ 20 := (Go.Sort.bitsLen_le_iff _ _).2 (by have : 2 ^ 20 = 1048576 := rfl
                                                                        omega)
 have hp:2 ^ Go.Sort.bitsLen x≤2 ^ 20:=Nat.pow_le_pow_right (by decide) hb
 have h20:2 ^ 20=1048576:=rfl
 refine Abs.Spec.fn (n:=7) Tryz.func156 rfl rfl fun own=>?_
 refine zC4 ?_
 refine WT.conv hT (k2:=.u64) Z Z Z Z Z Z Z Z (wrapU64 zo) ?_
 refine WT.callV Tryz.func124 Z Z Z Z Z Z (blen_spec _ x zo) (fun v hv=>?_)
 subst hv
 have e:=shl64 (x:=1) (y:=Go.Sort.bitsLen x) zo
 rw[Nat.one_mul,Nat.mod_eq_of_lt zo] at e
 refine WT.shV Z Z Z Z Z Z (by decide) e ?_
 refine zC4 ?_
 exact AW.ret ⟨_,[],⟨_,_,rfl,rfl,rfl⟩,zsb,rfl,rfl⟩
theorem xorn_spec(F:Frz)(ip r:Nat)(hr:r<18446744073709551616):Abs.Spec CC 157 [.pointer (some ⟨ip,0,none⟩)] F [[(ip,.cells false [.int .u64 r])]] fun F' v o=>∃B',o=[B']∧v=.int .u64 (Go.Sort.xorNextN r:Nat)∧B'=[(ip,.cells false [.int .u64 (Go.Sort.xorNextN r:Nat)])]:=by
 obtain⟨a,ha⟩:∃a,r ^^^ (r*8192 % 18446744073709551616)=a:=⟨_,rfl⟩
 obtain⟨b,hb⟩:∃b,a ^^^ (a / 128)=b:=⟨_,rfl⟩
 obtain⟨c,hc⟩:∃c,b ^^^ (b*131072 % 18446744073709551616)=c:=⟨_,rfl⟩
 have p:(18446744073709551616:Nat)=2 ^ 64:=by decide
 have ha2:a<18446744073709551616:=by rw[←ha,p];exact Nat.xor_lt_two_pow zo zo
 have hb2:b<18446744073709551616:=by rw[←hb,p];exact Nat.xor_lt_two_pow zo zo
 have hx:Go.Sort.xorNextN r=c:=by simp only[Go.Sort.xorNextN,ha,hb,hc]
 rw[hx]
 refine Abs.Spec.fn (n:=33) Tryz.func157 rfl rfl fun own=>?_
 refine zC4 ?_
 refine WT.shV Z Z Z Z Z Z (by decide) (shl64 (y:=13) (by decide)) ?_
 refine WT.binV Z Z Z Z Z Z (by decide) (xor64 hr (Nat.mod_lt _ (by decide))) ?_
 rw[show r ^^^ (r*2 ^ 13 % 18446744073709551616)=a from ha]
 refine zC4 ?_
 refine WT.shV Z Z Z Z Z Z (by decide) (shr64 (y:=7) (by decide)) ?_
 refine WT.binV Z Z Z Z Z Z (by decide) (xor64 ha2 (Nat.lt_of_le_of_lt (Nat.div_le_self _ _) ha2)) ?_
 rw[show a ^^^ (a / 2 ^ 7)=b from hb]
 refine zC4 ?_
 refine WT.shV Z Z Z Z Z Z (by decide) (shl64 (y:=17) (by decide)) ?_
 refine WT.binV Z Z Z Z Z Z (by decide) (xor64 hb2 (Nat.mod_lt _ (by decide))) ?_
 rw[show b ^^^ (b*2 ^ 17 % 18446744073709551616)=c from hc]
 refine zC4 ?_
 exact AW.ret ⟨_,[_],⟨_,_,rfl,rfl,rfl⟩,zsb,_,rfl,rfl,rfl⟩
def bsN{α:Type}[Inhabited α](a l md i0:Nat)(st:UInt64×Array α):Nat→UInt64×Array α
 | 0=>st
 | n+1=>Go.Sort.breakStep a l md (bsN a l md i0 st n) (i0+n)
structure PS(α:Type) where
 a:Nat
 b:Nat
 lim:Nat
 wb:Bool
 wp:Bool
 d:Array α
 B:List (Nat×Blk)
theorem partEq_range{α:Type}[Inhabited α](lt:α→α→Bool)(d:Array α){a b p:Nat}(h1:a≤p)(h2:p<b)(hb:b≤d.size):a<(Go.Sort.partitionEqual lt d a b p).1∧(Go.Sort.partitionEqual lt d a b p).1≤b:=by
 have:=Go.Sort.partEqLoop_spec lt a b _ (a+1) (b-1) (Go.Sort.swp d a p) (Nat.le_refl _) zo zo zo (by rw[Go.Sort.size_swp];exact hb) (fun t h1 h2=>by omega) (fun t h1 h2=>by omega)
 exact⟨this.1,this.2.1⟩
theorem part_range{α:Type}[Inhabited α](lt:α→α→Bool)(d:Array α){a b p:Nat}(h1:a≤p)(h2:p<b)(hb:b≤d.size):a≤(Go.Sort.partition lt d a b p).1∧(Go.Sort.partition lt d a b p).1<b:=by
 have:=Go.Sort.partLoop_spec lt a b _ (a+1) (b-1) (Go.Sort.swp d a p) (Nat.le_refl _) zo zo zo (by rw[Go.Sort.size_swp];exact hb) (fun t h1 h2=>by omega) (fun t h1 h2=>by omega)
 rw[Go.Sort.partition_fst]
 exact⟨this.1,this.2.1⟩
theorem sort_facts{α:Type}[Inhabited α]{lt:α→α→Bool}(h:Go.Sort.SWO lt)(xs:List α):(Go.Sort.sort lt xs.toArray).toList.Perm xs∧(Go.Sort.sort lt xs.toArray).toList.Pairwise (fun x y=>lt y x=false):=by
 obtain⟨⟨h1,_,h2⟩,h3⟩:=Go.Sort.sort_sorts lt h xs.toArray
 have hsz:(Go.Sort.sort lt xs.toArray).size=xs.length:=by rw[h1];simp
 refine⟨?_,?_⟩
 ·have e1:((Go.Sort.sort lt xs.toArray).extract 0 xs.toArray.size).toList=(Go.Sort.sort lt xs.toArray).toList:=by
   rw[show xs.toArray.size=(Go.Sort.sort lt xs.toArray).size by rw[h1],Array.extract_size]
  have e2:(xs.toArray.extract 0 xs.toArray.size).toList=xs:=by rw[Array.extract_size]
  rw[e1,e2] at h2
  exact h2
 ·rw[List.pairwise_iff_getElem]
  intro i j hi hj hij
  have hi':i<(Go.Sort.sort lt xs.toArray).size:=by simpa using hi
  have hj':j<(Go.Sort.sort lt xs.toArray).size:=by simpa using hj
  have:=h3 i j (Nat.zero_le _) hij (by rw[←h1];exact hj')
  rw[getElem!_pos _ i hi',getElem!_pos _ j hj'] at this
  simpa using this
instance:Inhabited Key:=⟨⟨⟨false,0⟩,0,0⟩⟩
theorem kyIns_spec(F:Frz){lt:Key→Key→Bool}{g:Nat}{first capt:List Value}(hc:CmpOk tKey lt F g first capt){a0:Option Addr}{m c:Nat}{B:List (Nat×Blk)}{d:Array Key}(hv:Vec tKey F a0 m c B d.toList)(a b:Nat)(ha:a≤1000000)(hb:b≤m)(hm:m≤1000000) :
  Abs.Spec CC 134 [.slice a0 m c,.int .i64 a,.int .i64 b,.func (.func g) ⟨first⟩ ⟨capt⟩] F [B] fun F' v o=>∃B',o=[B']∧Vec tKey F' a0 m c B' (Go.Sort.insertionSort lt d a b).toList:=by
 obtain⟨⟨fn,hg,hgb⟩,hcmp⟩:=hc
 refine Abs.Spec.fn (n:=53) Tryz.func134 rfl rfl fun own=>?_
 refine zC4 ?_
 refine AW.block ?_
 refine AW.loopR (S:=VS Key) (fun s=>[(8,.int .i64 (s.i:Nat))]) (fun s=>s.B::own) (fun s G=>Vec tKey G a0 m c s.B s.d.toList∧Go.Sort.insOuter lt a b s.i s.d=Go.Sort.insertionSort lt d a b) (fun s=>b-s.i) ⟨a+1,d,B⟩
  sM oR ⟨hv,rfl⟩ ?_
 intro s F1 hF1 hP
 obtain⟨hv1,heq1⟩:=hP
 refine zC4 ?_
 refine AW.cond Z (fun h=>?_) (fun h=>?_)
 ·have h:s.i<b:=by simpa using h
  refine zC4 ?_
  refine AW.block ?_
  refine zC4 ?_
  refine AW.block ?_
  refine AW.loopR (S:=VS Key) (fun u=>[(9,.int .i64 (u.i:Nat))]) (fun u=>u.B::own) (fun u G=>Vec tKey G a0 m c u.B u.d.toList∧u.i≤s.i∧Go.Sort.insInner lt a u.i u.d=Go.Sort.insInner lt a s.i s.d) (fun u=>u.i) ⟨s.i,s.d,s.B⟩
   sM oR ⟨hv1,Nat.le_refl _,rfl⟩ ?_
  intro u F2 hF2 hP2
  obtain⟨hv2,hui,heq2⟩:=hP2
  have hsz:m=u.d.size:=hv2.len
  have stop:(a<u.i→lt u.d[u.i]! u.d[u.i-1]! = false)→Go.Sort.insOuter lt a b (s.i+1) u.d=Go.Sort.insertionSort lt d a b:=by
   intro h1
   rw[←heq1]
   have e:Go.Sort.insInner lt a s.i s.d=u.d:=by
    rw[←heq2]
    cases hi:u.i with
    | zero=>rfl
    | succ j=>
     rw[hi] at h1
     simp only[Nat.add_sub_cancel] at h1
     rw[Go.Sort.insInner]
     by_cases h2:a<j+1
     ·rw[h1 h2];simp
     ·simp[h2]
   conv=>rhs;rw[Go.Sort.insOuter]
   rw[if_pos h,e]
  refine zC4 ?_
  refine WT.split 21 Z (fun hja=>?_) (fun hja=>?_)
  ·have hja:a<u.i:=by simp at hja;omega
   refine zC4 ?_
   refine WT.vidx hT hv2 Z Z Z Z Z Z Z Z Z zo (fun bl1 hbl1=>?_)
   refine WT.vldS hT 0 hv2 hbl1 (arr_at zo) Z Z Z Z Z Z Z Z Z (fun l1 hl1=>?_)
   refine zC4 ?_
   refine WT.vidx hT hv2 Z Z Z Z Z Z Z Z Z zo (fun bl2 hbl2=>?_)
   refine WT.vldS hT 0 hv2 hbl2 (arr_at zo) Z Z Z Z Z Z Z Z Z (fun l2 hl2=>?_)
   refine WT.callC hg hgb Z Z Z Z Z Z Z (hcmp F2 (hF1.trans hF2) l1 l2 _ _ hl1 hl2) (fun v hvz=>?_)
   obtain⟨z,rfl,hz⟩:=hvz
   refine zC4 ?_
   refine AW.cond Z (fun hc=>?_) (fun hc=>?_)
   ·have hlt:lt u.d[u.i]! u.d[u.i-1]! = true:=hz.1 (by simpa using hc)
    refine zC4 ?_
    refine AW.block ?_
    refine AW.draw (ps:=[(4,15)]) Z Z ?_
    refine zC4 ?_
    refine WT.vidx hT hv2 Z Z Z Z Z Z Z Z Z zo (fun bl3 hbl3=>?_)
    refine WT.vldS hT 0 hv2 hbl3 (arr_at zo) Z Z Z Z Z Z Z Z Z (fun l3 hl3=>?_)
    refine zC4 ?_
    refine WT.vidx hT hv2 Z Z Z Z Z Z Z Z Z zo (fun bl4 hbl4=>?_)
    refine WT.vldS hT 0 hv2 hbl4 (arr_at zo) Z Z Z Z Z Z Z Z Z (fun l4 hl4=>?_)
    refine WT.vidx hT hv2 Z Z Z Z Z Z Z Z Z zo (fun bl5 hbl5=>?_)
    refine WT.vst (y:=u.d[u.i-1]!) hT 0 hv2 hbl5 (gE (by simp;omega)) Z Z Z Z Z hl3 Z (fun _=>rfl) Z (fun Bl5 hBl5=>?_)
    refine WT.vidx hT hBl5 Z Z Z Z Z Z Z Z Z zo (fun bl6 hbl6=>?_)
    refine WT.vst (y:=u.d[u.i]!) hT 0 hBl5 hbl6 (gE (by simp;omega)) Z Z Z Z Z hl4 Z (fun _=>rfl) Z (fun Bl6 hBl6=>?_)
    rw[←swp_list] at hBl6
    refine zC4 ?_
    refine⟨zrC,?_⟩
    refine zC4 ?_
    refine⟨⟨u.i-1,Go.Sort.swp u.d u.i (u.i-1),Bl6⟩,by dsimp only;omega,sM,OwnLe.refl _,hBl6,by dsimp only;omega,?_⟩
    rw[←heq2]
    show Go.Sort.insInner lt a (u.i-1) (Go.Sort.swp u.d u.i (u.i-1))=_
    cases hi:u.i with
    | zero=>omega
    | succ j=>
     rw[hi] at hlt
     simp only[Nat.add_sub_cancel] at hlt ⊢
     conv=>rhs;rw[Go.Sort.insInner]
     rw[if_pos (by simp[hlt];omega)]
   ·have hlt:lt u.d[u.i]! u.d[u.i-1]! = false:=by
     cases hh:lt u.d[u.i]! u.d[u.i-1]! with
     | false=>rfl
     | true=>exact absurd (hz.2 hh) (by simpa using hc)
    refine AW.exit ?_
    refine zC4 ?_
    exact⟨⟨s.i+1,u.d,u.B⟩,by dsimp only;omega,sM,OwnLe.refl _,hv2,stop (fun _=>hlt)⟩
  ·have hja:¬a<u.i:=by simp at hja;omega
   refine zC4 ?_
   refine AW.cond Z (fun h=>(by cases h)) (fun _=>?_)
   refine AW.exit ?_
   refine zC4 ?_
   exact⟨⟨s.i+1,u.d,u.B⟩,by dsimp only;omega,sM,OwnLe.refl _,hv2,stop (fun h=>absurd h hja)⟩
 ·have h:¬s.i<b:=by simpa using h
  refine AW.exit ?_
  skip
  refine⟨_,[_],rfl,zsb,_,rfl,?_⟩
  rw[←heq1,Go.Sort.insOuter,if_neg h]
  exact hv1
theorem kySift_spec(F:Frz){lt:Key→Key→Bool}{g:Nat}{first capt:List Value}(hc:CmpOk tKey lt F g first capt){a0:Option Addr}{m c:Nat}{B:List (Nat×Blk)}{d:Array Key}(hv:Vec tKey F a0 m c B d.toList)(lo hi fst:Nat)(hlo:lo≤1000000)(hb:fst+hi≤m)(hm:m≤1000000) :
  Abs.Spec CC 155 [.slice a0 m c,.int .i64 lo,.int .i64 hi,.int .i64 fst,.func (.func g) ⟨first⟩ ⟨capt⟩] F [B] fun F' v o=>∃B',o=[B']∧Vec tKey F' a0 m c B' (Go.Sort.siftDown lt hi fst lo d).toList:=by
 obtain⟨⟨fn,hg,hgb⟩,hcmp⟩:=hc
 refine Abs.Spec.fn (n:=82) Tryz.func155 rfl rfl fun own=>?_
 refine zC4 ?_
 refine AW.block ?_
 refine AW.loopR (S:=VS Key) (fun s=>[(10,.int .i64 (s.i:Nat))]) (fun s=>s.B::own) (fun s G=>Vec tKey G a0 m c s.B s.d.toList∧s.i≤1000000∧Go.Sort.siftDown lt hi fst s.i s.d=Go.Sort.siftDown lt hi fst lo d) (fun s=>hi-s.i) ⟨lo,d,B⟩
  sM oR ⟨hv,hlo,rfl⟩ ?_
 intro u F1 hF1 hP
 obtain⟨hv2,hui,heq⟩:=hP
 have hsz:m=u.d.size:=hv2.len
 skip
 refine AW.block ?_
 refine zC4 ?_
 refine AW.cond Z (fun h=>?_) (fun h=>?_)
 ·have h:hi≤2*u.i+1:=by simp at h;omega
  refine AW.exit ?_
  skip
  refine⟨_,[_],rfl,zsb,_,rfl,?_⟩
  rw[←heq,Go.Sort.siftDown,dif_pos h]
  exact hv2
 ·have h:2*u.i+1<hi:=by simp at h;omega
  refine AW.skip ?_
  refine AW.jn (S:=Nat) (fun ch=>[(11,.int .i64 (ch:Nat))]) (fun _=>u.B::own) (fun ch _=>u.i<ch∧ch<hi∧Go.Sort.siftDown lt hi fst u.i u.d=if (!lt u.d[fst+u.i]! u.d[fst+ch]!)=true then u.d else Go.Sort.siftDown lt hi fst ch (Go.Sort.swp u.d (fst+u.i) (fst+ch))) ?_ (fun ch F3 hF3 hch=>?_)
  ·have e1:(decide (2*u.i+1+1<hi)&&lt u.d[fst+(2*u.i+1)]! u.d[fst+(2*u.i+1)+1]!)=false→Go.Sort.siftDown lt hi fst u.i u.d=if (!lt u.d[fst+u.i]! u.d[fst+(2*u.i+1)]!)=true then u.d else Go.Sort.siftDown lt hi fst (2*u.i+1) (Go.Sort.swp u.d (fst+u.i) (fst+(2*u.i+1))):=by
    intro h1
    conv=>lhs;rw[Go.Sort.siftDown]
    rw[dif_neg zo]
    simp only[Bool.and_eq_true,decide_eq_true_eq,Bool.and_eq_false_imp] at h1 ⊢
    rw[if_neg (fun h2=>by have:=h1 h2.1;rw[h2.2] at this;cases this)]
   refine zC4 ?_
   refine WT.split 23 Z (fun h2=>?_) (fun h2=>?_)
   ·have h2:2*u.i+1+1<hi:=by simp at h2;omega
    refine zC4 ?_
    refine WT.vidx hT hv2 Z Z Z Z Z Z Z Z Z zo (fun bl1 hbl1=>?_)
    refine WT.vldS hT 0 hv2 hbl1 (arr_at zo) Z Z Z Z Z Z Z Z Z (fun l1 hl1=>?_)
    refine zC4 ?_
    refine WT.vidx hT hv2 Z Z Z Z Z Z Z Z Z zo (fun bl2 hbl2=>?_)
    refine WT.vldS hT 0 hv2 hbl2 (arr_at zo) Z Z Z Z Z Z Z Z Z (fun l2 hl2=>?_)
    refine WT.callC hg hgb Z Z Z Z Z Z Z (hcmp F1 hF1 l1 l2 _ _ hl1 hl2) (fun v hvz=>?_)
    obtain⟨z,rfl,hz⟩:=hvz
    refine zC4 ?_
    refine AW.cond Z (fun hc=>?_) (fun hc=>?_)
    ·have hlt:=hz.1 (by simpa using hc)
     refine zC4 ?_
     refine⟨2*u.i+1+1,sM,OwnLe.refl _,by omega,h2,?_⟩
     conv=>lhs;rw[Go.Sort.siftDown]
     rw[dif_neg zo,if_pos (by simp[h2,hlt])]
     rw[dif_pos (show 2*u.i+2<hi by omega)]
    ·have hlt:lt u.d[fst+(2*u.i+1)]! u.d[fst+(2*u.i+1)+1]! = false:=by
      cases hh:lt u.d[fst+(2*u.i+1)]! u.d[fst+(2*u.i+1)+1]! with
      | false=>rfl
      | true=>exact absurd (hz.2 hh) (by simpa using hc)
     refine AW.skip ?_
     exact⟨2*u.i+1,sM,OwnLe.refl _,by omega,h,e1 (by rw[hlt];simp)⟩
   ·have h2:¬2*u.i+1+1<hi:=by simp at h2;omega
    refine zC4 ?_
    refine AW.cond Z (fun h=>(by cases h)) (fun _=>?_)
    refine AW.skip ?_
    exact⟨2*u.i+1,sM,OwnLe.refl _,by omega,h,e1 (by simp[h2])⟩
  ·obtain⟨hc1,hc2,hceq⟩:=hch
   have hv3:=hv2.mono hF3
   refine zC4 ?_
   refine WT.vidx hT hv3 Z Z Z Z Z Z Z Z Z zo (fun bl1 hbl1=>?_)
   refine WT.vldS hT 0 hv3 hbl1 (arr_at zo) Z Z Z Z Z Z Z Z Z (fun l1 hl1=>?_)
   refine zC4 ?_
   refine WT.vidx hT hv3 Z Z Z Z Z Z Z Z Z zo (fun bl2 hbl2=>?_)
   refine WT.vldS hT 0 hv3 hbl2 (arr_at zo) Z Z Z Z Z Z Z Z Z (fun l2 hl2=>?_)
   refine WT.callC hg hgb Z Z Z Z Z Z Z (hcmp F3 (hF1.trans hF3) l1 l2 _ _ hl1 hl2) (fun v hvz=>?_)
   obtain⟨z,rfl,hz⟩:=hvz
   refine zC4 ?_
   refine AW.cond Z (fun hc=>?_) (fun hc=>?_)
   ·have hlt:lt u.d[fst+u.i]! u.d[fst+ch]! = false:=by
     cases hh:lt u.d[fst+u.i]! u.d[fst+ch]! with
     | false=>rfl
     | true=>exact absurd (hz.2 hh) (by simpa using hc)
    skip
    refine AW.ret ⟨_,[_],rfl,zsb,_,rfl,?_⟩
    rw[←heq,hceq,hlt,if_pos (by decide)]
    exact hv3
   ·have hlt:=hz.1 (by simpa using hc)
    refine zC4 ?_
    refine AW.draw (ps:=[(7,21)]) Z Z ?_
    refine zC4 ?_
    refine WT.vidx hT hv3 Z Z Z Z Z Z Z Z Z zo (fun bl3 hbl3=>?_)
    refine WT.vldS hT 0 hv3 hbl3 (arr_at zo) Z Z Z Z Z Z Z Z Z (fun l3 hl3=>?_)
    refine zC4 ?_
    refine WT.vidx hT hv3 Z Z Z Z Z Z Z Z Z zo (fun bl4 hbl4=>?_)
    refine WT.vldS hT 0 hv3 hbl4 (arr_at zo) Z Z Z Z Z Z Z Z Z (fun l4 hl4=>?_)
    refine WT.vidx hT hv3 Z Z Z Z Z Z Z Z Z zo (fun bl5 hbl5=>?_)
    refine WT.vst (y:=u.d[fst+ch]!) hT 0 hv3 hbl5 (gE (by simp;omega)) Z Z Z Z Z hl3 Z (fun _=>rfl) Z (fun Bl5 hBl5=>?_)
    refine WT.vidx hT hBl5 Z Z Z Z Z Z Z Z Z zo (fun bl6 hbl6=>?_)
    refine WT.vst (y:=u.d[fst+u.i]!) hT 0 hBl5 hbl6 (gE (by simp;omega)) Z Z Z Z Z hl4 Z (fun _=>rfl) Z (fun Bl6 hBl6=>?_)
    rw[←swp_list] at hBl6
    refine zC4 ?_
    refine⟨zrC,?_⟩
    refine zC4 ?_
    refine⟨⟨ch,Go.Sort.swp u.d (fst+u.i) (fst+ch),Bl6⟩,by dsimp only;omega,sM,OwnLe.refl _,hBl6,by dsimp only;omega,?_⟩
    rw[←heq,hceq,hlt,if_neg (by simp)]
theorem kyHeap_spec(F:Frz){lt:Key→Key→Bool}{g:Nat}{first capt:List Value}(hc:CmpOk tKey lt F g first capt){a0:Option Addr}{m c:Nat}{B:List (Nat×Blk)}{d:Array Key}(hv:Vec tKey F a0 m c B d.toList)(a b:Nat)(hab:a<b)(hb:b≤m)(hm:m≤1000000) :
  Abs.Spec CC 135 [.slice a0 m c,.int .i64 a,.int .i64 b,.func (.func g) ⟨first⟩ ⟨capt⟩] F [B] fun F' v o=>∃B',o=[B']∧Vec tKey F' a0 m c B' (Go.Sort.heapSort lt d a b).toList:=by
 refine Abs.Spec.fn (n:=60) Tryz.func135 rfl rfl fun own=>?_
 refine zC4 ?_
 refine WT.quoL 2 Z Z Z Z Z Z (by decide) zo ?_
 refine zC4 ?_
 refine AW.know (v':=.int .i64 ((((b-a-1) / 2+1:Nat):Int)-1)) 11 Z (by congr 1;omega) ?_
 refine AW.jnT (S:=VS Key) (fun _=>[(11,.int .i64 (((0:Nat):Int)-1))]) (fun s=>s.B::own) (fun s G=>Vec tKey G a0 m c s.B s.d.toList∧s.d=Go.Sort.heapBuild lt (b-a) a ((b-a-1) / 2+1) d) ?_ (fun s F1 hF1 hP=>?_)
 ·refine AW.block ?_
  refine AW.loopR (S:=VS Key) (fun s=>[(11,.int .i64 ((s.i:Int)-1))]) (fun s=>s.B::own) (fun s G=>Vec tKey G a0 m c s.B s.d.toList∧s.i≤1000000∧Go.Sort.heapBuild lt (b-a) a s.i s.d=Go.Sort.heapBuild lt (b-a) a ((b-a-1) / 2+1) d) (fun s=>s.i) ⟨(b-a-1) / 2+1,d,B⟩
   sM oR ⟨hv,by dsimp only;omega,rfl⟩ ?_
  intro u F2 hF2 hP2
  obtain⟨hv2,hui,heq⟩:=hP2
  refine zC4 ?_
  refine AW.cond Z (fun h=>?_) (fun h=>?_)
  ·have h:1≤u.i:=by simp at h;omega
   refine zC4 ?_
   refine AW.block ?_
   refine zC4 ?_
   refine WT.know (v':=.int .i64 ((u.i-1:Nat):Int)) 25 Z (by congr 1;omega) ?_
   skip
   refine WT.call1F 0 Tryz.func155 Z Z Z Z Z Z Z (fun _=>rfl) (kySift_spec _ (hc.mono hF2) hv2 (u.i-1) (b-a) a zo zo hm) (fun F3 v B3 hF3 hv3=>?_)
   refine WT.nil ?_
   refine AW.reg ?_
   refine WT.easy hT Z Z Z Z Z ?_
   refine WT.subT Z Z Z Z Z Z zo ?_
   refine WT.know (v':=.int .i64 (((u.i-1:Nat):Int)-1)) 23 Z (by congr 1;omega) ?_
   refine zC4 ?_
   refine⟨⟨u.i-1,_,B3⟩,by dsimp only;omega,sM,OwnLe.refl _,hv3,by dsimp only;omega,?_⟩
   rw[←heq]
   cases hi:u.i with
   | zero=>omega
   | succ j=>rfl
  ·have h:u.i=0:=by simp at h;omega
   refine AW.exit ?_
   skip
   refine⟨⟨0,u.d,u.B⟩,SubK.of_map (by rw[h];rfl),OwnLe.refl _,hv2,?_⟩
   rw[←heq,h];rfl
 ·obtain⟨hv1,hd1⟩:=hP
  refine zC4 ?_
  refine AW.know (v':=.int .i64 (((b-a:Nat):Int)-1)) 12 Z (by congr 1;omega) ?_
  refine AW.block ?_
  refine AW.loopR (S:=VS Key) (fun s=>[(12,.int .i64 ((s.i:Int)-1))]) (fun s=>s.B::own) (fun s G=>Vec tKey G a0 m c s.B s.d.toList∧s.i≤b-a∧Go.Sort.heapPop lt a s.i s.d=Go.Sort.heapSort lt d a b) (fun s=>s.i) ⟨b-a,s.d,s.B⟩
   sM oR ⟨hv1,Nat.le_refl _,by dsimp only;rw[hd1];rfl⟩ ?_
  intro u F2 hF2 hP2
  obtain⟨hv2,hui,heq⟩:=hP2
  have hsz:m=u.d.size:=hv2.len
  refine zC4 ?_
  refine AW.cond Z (fun h=>?_) (fun h=>?_)
  ·have h:1≤u.i:=by simp at h;omega
   refine zC4 ?_
   refine AW.block ?_
   refine AW.seq (AW.draw (ps:=[(5,17)]) Z Z ?_)
   refine zC4 ?_
   refine WT.know (v':=.int .i64 ((a+(u.i-1):Nat):Int)) 41 Z (by congr 1;omega) ?_
   skip
   refine WT.know (v':=.int .i64 ((a+(u.i-1):Nat):Int)) 45 Z (by congr 1;omega) ?_
   refine WT.vidx hT hv2 Z Z Z Z Z Z Z Z Z zo (fun bl3 hbl3=>?_)
   refine WT.vldS hT 0 hv2 hbl3 (arr_at zo) Z Z Z Z Z Z Z Z Z (fun l3 hl3=>?_)
   refine zC4 ?_
   refine WT.vidx hT hv2 Z Z Z Z Z Z Z Z Z zo (fun bl4 hbl4=>?_)
   refine WT.vldS hT 0 hv2 hbl4 (arr_at zo) Z Z Z Z Z Z Z Z Z (fun l4 hl4=>?_)
   refine WT.vidx hT hv2 Z Z Z Z Z Z Z Z Z zo (fun bl5 hbl5=>?_)
   refine WT.vst (y:=u.d[a+(u.i-1)]!) hT 0 hv2 hbl5 (gE (by simp;omega)) Z Z Z Z Z hl3 Z (fun _=>rfl) Z (fun Bl5 hBl5=>?_)
   refine WT.vidx hT hBl5 Z Z Z Z Z Z Z Z Z zo (fun bl6 hbl6=>?_)
   refine WT.vst (y:=u.d[a]!) hT 0 hBl5 hbl6 (gE (by simp;omega)) Z Z Z Z Z hl4 Z (fun _=>rfl) Z (fun Bl6 hBl6=>?_)
   rw[←swp_list] at hBl6
   refine zC4 ?_
   refine⟨zrC,?_⟩
   refine zC4 ?_
   refine WT.know (v':=.int .i64 ((u.i-1:Nat):Int)) 56 Z (by congr 1;omega) ?_
   refine WT.know (v':=.int .i64 ((0:Nat):Int)) 55 Z Z ?_
   skip
   refine WT.call1F 0 Tryz.func155 Z Z Z Z Z Z Z (fun _=>rfl) (kySift_spec _ ((hc.mono hF1).mono hF2) hBl6 0 (u.i-1) a zo zo hm) (fun F3 v B3 hF3 hv3=>?_)
   refine WT.nil ?_
   refine AW.reg ?_
   refine WT.easy hT Z Z Z Z Z ?_
   refine WT.subT Z Z Z Z Z Z zo ?_
   refine WT.know (v':=.int .i64 (((u.i-1:Nat):Int)-1)) 35 Z (by congr 1;omega) ?_
   refine zC4 ?_
   refine⟨⟨u.i-1,_,B3⟩,by dsimp only;omega,sM,OwnLe.refl _,hv3,by dsimp only;omega,?_⟩
   rw[←heq]
   cases hi:u.i with
   | zero=>omega
   | succ j=>rfl
  ·have h:u.i=0:=by simp at h;omega
   refine AW.exit ?_
   skip
   refine⟨_,[_],rfl,zsb,_,rfl,?_⟩
   rw[←heq,h]
   exact hv2
theorem kyRev_spec(F:Frz){cv:Value}{a0:Option Addr}{m c:Nat}{B:List (Nat×Blk)}{d:Array Key}(hv:Vec tKey F a0 m c B d.toList)(a b:Nat)(hab:a<b)(hb:b≤m)(hm:m≤1000000) :
  Abs.Spec CC 138 [.slice a0 m c,.int .i64 a,.int .i64 b,cv] F [B] fun F' v o=>∃B',o=[B']∧Vec tKey F' a0 m c B' (Go.Sort.reverseRange d a b).toList:=by
 refine Abs.Spec.fn (n:=34) Tryz.func138 rfl rfl fun own=>?_
 refine zC4 ?_
 refine AW.block ?_
 refine AW.loopR (S:=Nat×VS Key) (fun s=>[(8,.int .i64 (s.2.i:Nat)),(9,.int .i64 (s.1:Nat))]) (fun s=>s.2.B::own) (fun s G=>Vec tKey G a0 m c s.2.B s.2.d.toList∧s.1<m∧s.2.i≤m∧Go.Sort.reverseLoop s.2.i s.1 s.2.d=Go.Sort.reverseRange d a b) (fun s=>s.1-s.2.i) (b-1,⟨a,d,B⟩)
  sM oR ⟨hv,by dsimp only;omega,by dsimp only;omega,rfl⟩ ?_
 intro u F2 hF2 hP2
 obtain⟨hv2,hj,hi,heq⟩:=hP2
 have hsz:m=u.2.d.size:=hv2.len
 refine zC4 ?_
 refine AW.cond Z (fun h=>?_) (fun h=>?_)
 ·have h:u.2.i<u.1:=by simp at h;omega
  refine zC4 ?_
  refine AW.block ?_
  refine zC4 ?_
  refine WT.vidx hT hv2 Z Z Z Z Z Z Z Z Z zo (fun bl3 hbl3=>?_)
  refine WT.vldS hT 0 hv2 hbl3 (arr_at zo) Z Z Z Z Z Z Z Z Z (fun l3 hl3=>?_)
  refine zC4 ?_
  refine WT.vidx hT hv2 Z Z Z Z Z Z Z Z Z zo (fun bl4 hbl4=>?_)
  refine WT.vldS hT 0 hv2 hbl4 (arr_at zo) Z Z Z Z Z Z Z Z Z (fun l4 hl4=>?_)
  refine WT.vidx hT hv2 Z Z Z Z Z Z Z Z Z zo (fun bl5 hbl5=>?_)
  refine WT.vst (y:=u.2.d[u.1]!) hT 0 hv2 hbl5 (gE (by simp;omega)) Z Z Z Z Z hl3 Z (fun _=>rfl) Z (fun Bl5 hBl5=>?_)
  refine WT.vidx hT hBl5 Z Z Z Z Z Z Z Z Z zo (fun bl6 hbl6=>?_)
  refine WT.vst (y:=u.2.d[u.2.i]!) hT 0 hBl5 hbl6 (gE (by simp;omega)) Z Z Z Z Z hl4 Z (fun _=>rfl) Z (fun Bl6 hBl6=>?_)
  rw[←swp_list] at hBl6
  refine zC4 ?_
  refine⟨(u.1-1,⟨u.2.i+1,Go.Sort.swp u.2.d u.2.i u.1,Bl6⟩),by dsimp only;omega,sM,OwnLe.refl _,hBl6,by dsimp only;omega,by dsimp only;omega,?_⟩
  rw[←heq]
  conv=>rhs;rw[Go.Sort.reverseLoop]
  rw[if_pos h]
 ·have h:¬u.2.i<u.1:=by simp at h;omega
  refine AW.exit ?_
  skip
  refine⟨_,[_],rfl,zsb,_,rfl,?_⟩
  rw[←heq,Go.Sort.reverseLoop,if_neg h]
  exact hv2
theorem kyPart_spec(F:Frz){lt:Key→Key→Bool}{g:Nat}{first capt:List Value}(hc:CmpOk tKey lt F g first capt){a0:Option Addr}{m c:Nat}{B:List (Nat×Blk)}{d:Array Key}(hv:Vec tKey F a0 m c B d.toList)(a b pivot:Nat)(hp1:a≤pivot)(hp2:pivot<b)(hb:b≤m)(hm:m≤1000000) :
  Abs.Spec CC 141 [.slice a0 m c,.int .i64 a,.int .i64 b,.int .i64 pivot,.func (.func g) ⟨first⟩ ⟨capt⟩] F [B] fun F' v o=>∃B',o=[B']∧v=.tuple ⟨[.int .i64 ((Go.Sort.partition lt d a b pivot).1:Nat),.bool (Go.Sort.partition lt d a b pivot).2.1]⟩∧Vec tKey F' a0 m c B' (Go.Sort.partition lt d a b pivot).2.2.toList:=by
 obtain⟨⟨fn,hg,hgb⟩,hcmp⟩:=hc
 have hsz:m=d.size:=hv.len
 refine Abs.Spec.fn (n:=178) Tryz.func141 rfl rfl fun own=>?_
 refine zC4 ?_
 refine WT.vidx hT hv Z Z Z Z Z Z Z Z Z zo (fun bl1 hbl1=>?_)
 refine WT.vldS hT 0 hv hbl1 (arr_at zo) Z Z Z Z Z Z Z Z Z (fun l1 hl1=>?_)
 refine zC4 ?_
 refine WT.vidx hT hv Z Z Z Z Z Z Z Z Z zo (fun bl2 hbl2=>?_)
 refine WT.vldS hT 0 hv hbl2 (arr_at zo) Z Z Z Z Z Z Z Z Z (fun l2 hl2=>?_)
 refine WT.vidx hT hv Z Z Z Z Z Z Z Z Z zo (fun bl3 hbl3=>?_)
 refine WT.vst (y:=d[pivot]!) hT 0 hv hbl3 (gE (by simp;omega)) Z Z Z Z Z hl1 Z (fun _=>rfl) Z (fun Bl3 hBl3=>?_)
 refine WT.vidx hT hBl3 Z Z Z Z Z Z Z Z Z zo (fun bl4 hbl4=>?_)
 refine WT.vst (y:=d[a]!) hT 0 hBl3 hbl4 (gE (by simp;omega)) Z Z Z Z Z hl2 Z (fun _=>rfl) Z (fun Bl4 hBl4=>?_)
 rw[←swp_list] at hBl4
 obtain⟨d1,hd1⟩:∃d1,Go.Sort.swp d a pivot=d1:=⟨_,rfl⟩
 rw[hd1] at hBl4
 have hsz1:m=d1.size:=hBl4.len
 refine zC4 ?_
 obtain⟨i1,hi1⟩:∃i1,Go.Sort.scanUp (fun x=>lt x d1[a]!) d1 (b-1) (a+1)=i1:=⟨_,rfl⟩
 obtain⟨j1,hj1⟩:∃j1,Go.Sort.scanDown (fun x=>!lt x d1[a]!) d1 i1 (b-1)=j1:=⟨_,rfl⟩
 obtain⟨u1,u2,u3,u4⟩:=Go.Sort.scanUp_spec (fun x=>lt x d1[a]!) d1 (b-1) _ (a+1) rfl
 obtain⟨v1,v2,v3,v4⟩:=Go.Sort.scanDown_spec (fun x=>!lt x d1[a]!) d1 i1 (b-1)
 rw[hi1] at u1 u2 u4
 rw[hj1] at v1 v2 v4
 have u2:=u2 zo
 have v2:=v2 zo
 refine AW.jnT (S:=Unit) (fun _=>[(12,.int .i64 (Go.Sort.scanUp (fun x=>lt x d1[a]!) d1 (b-1) (a+1):Nat))]) (fun _=>(Bl4::own)) (fun _ _=>True) ?_ (fun _ F1 hF1 _=>?_)
 ·refine AW.block ?_
  refine AW.loopR (S:=Nat) (fun i=>[(12,.int .i64 (i:Nat))]) (fun _=>(Bl4::own)) (fun i _=>(a+1)≤i∧i≤(b-1)+1∧Go.Sort.scanUp (fun x=>lt x d1[a]!) d1 (b-1) i=Go.Sort.scanUp (fun x=>lt x d1[a]!) d1 (b-1) (a+1)) (fun i=>(b-1)+1-i) (a+1) sM oR ⟨Nat.le_refl _,by omega,rfl⟩ ?_
  intro i G hG hP
  obtain⟨hi1,hi2,hi3⟩:=hP
  have hvG:=hBl4.mono hG
  refine zC4 ?_
  refine WT.split 35 Z (fun h=>?_) (fun h=>?_)
  ·have h:i≤(b-1):=by simp at h;omega
   refine zC4 ?_
   refine WT.vidx hT hvG Z Z Z Z Z Z Z Z Z zo (fun bl1 hbl1=>?_)
   refine WT.vldS hT 0 hvG hbl1 (arr_at zo) Z Z Z Z Z Z Z Z Z (fun l1 hl1=>?_)
   refine zC4 ?_
   refine WT.vidx hT hvG Z Z Z Z Z Z Z Z Z zo (fun bl2 hbl2=>?_)
   refine WT.vldS hT 0 hvG hbl2 (arr_at zo) Z Z Z Z Z Z Z Z Z (fun l2 hl2=>?_)
   refine WT.callC hg hgb Z Z Z Z Z Z Z (hcmp G ((Frz.le.refl F).trans hG) l1 l2 _ _ hl1 hl2) (fun v hvz=>?_)
   obtain⟨z,rfl,hz⟩:=hvz
   refine zC4 ?_
   refine AW.cond Z (fun hc=>?_) (fun hc=>?_)
   ·have hlt:=hz.1 (by simpa using hc)
    refine zC4 ?_
    refine AW.block ?_
    refine zC4 ?_
    refine⟨i+1,by omega,sM,OwnLe.refl _,by omega,by omega,?_⟩
    rw[←hi3]
    conv=>rhs;rw[Go.Sort.scanUp]
    rw[if_pos (by simp[h,hlt])]
   ·have hlt:=(Bool.eq_false_iff.2 (fun hh=>absurd (hz.2 hh) (by simpa using hc)):lt d1[i]! d1[a]! = false)
    refine AW.exit ?_
    refine⟨(),SubK.of_map (by rw[←hi3,Go.Sort.scanUp,if_neg (by simp[hlt])];rfl),OwnLe.refl _,trivial⟩
  ·have h:¬i≤(b-1):=by simp at h;omega
   refine zC4 ?_
   refine AW.cond Z (fun h=>(by cases h)) (fun _=>?_)
   refine AW.exit ?_
   refine⟨(),SubK.of_map (by rw[←hi3,Go.Sort.scanUp,if_neg (by simp[h])];rfl),OwnLe.refl _,trivial⟩
 rw[hi1]
 have hv1:=hBl4.mono hF1
 refine AW.seq ?_
 refine AW.jnT (S:=Unit) (fun _=>[(13,.int .i64 (Go.Sort.scanDown (fun x=>!lt x d1[a]!) d1 i1 (b-1):Nat))]) (fun _=>(Bl4::own)) (fun _ _=>True) ?_ (fun _ F2 hF2 _=>?_)
 ·refine AW.block ?_
  refine AW.loopR (S:=Nat) (fun j=>[(13,.int .i64 (j:Nat))]) (fun _=>(Bl4::own)) (fun j _=>j≤(b-1)∧i1≤j+1∧Go.Sort.scanDown (fun x=>!lt x d1[a]!) d1 i1 j=Go.Sort.scanDown (fun x=>!lt x d1[a]!) d1 i1 (b-1)) (fun j=>j) (b-1) sM oR ⟨Nat.le_refl _,by omega,rfl⟩ ?_
  intro j G hG hP
  obtain⟨hj1,hj2,hj3⟩:=hP
  have hvG:=hv1.mono hG
  have one:∀q,i1≤j→(fun x=>!lt x d1[a]!) d1[j]! = q→Go.Sort.scanDown (fun x=>!lt x d1[a]!) d1 i1 j=if q=true then Go.Sort.scanDown (fun x=>!lt x d1[a]!) d1 i1 (j-1) else j:=by
   intro q h1 h2
   cases j with
   | zero=>omega
   | succ k=>
    rw[Go.Sort.scanDown,Nat.add_sub_cancel]
    subst h2
    simp[h1]
  refine zC4 ?_
  refine WT.split 53 Z (fun h=>?_) (fun h=>?_)
  ·have h:i1≤j:=by simp at h;omega
   refine zC4 ?_
   refine WT.vidx hT hvG Z Z Z Z Z Z Z Z Z zo (fun bl1 hbl1=>?_)
   refine WT.vldS hT 0 hvG hbl1 (arr_at zo) Z Z Z Z Z Z Z Z Z (fun l1 hl1=>?_)
   refine zC4 ?_
   refine WT.vidx hT hvG Z Z Z Z Z Z Z Z Z zo (fun bl2 hbl2=>?_)
   refine WT.vldS hT 0 hvG hbl2 (arr_at zo) Z Z Z Z Z Z Z Z Z (fun l2 hl2=>?_)
   refine WT.callC hg hgb Z Z Z Z Z Z Z (hcmp G (hF1.trans hG) l1 l2 _ _ hl1 hl2) (fun v hvz=>?_)
   obtain⟨z,rfl,hz⟩:=hvz
   refine zC4 ?_
   refine AW.cond Z (fun hc=>?_) (fun hc=>?_)
   ·have hlt:=(Bool.eq_false_iff.2 (fun hh=>absurd (hz.2 hh) (by simpa using hc)):lt d1[j]! d1[a]! = false)
    refine zC4 ?_
    refine AW.block ?_
    refine zC4 ?_
    refine⟨j-1,by omega,sM,OwnLe.refl _,by omega,by omega,?_⟩
    rw[←hj3,one true h (by simp[hlt]),if_pos rfl]
   ·have hlt:=hz.1 (by simpa using hc)
    refine AW.exit ?_
    refine⟨(),SubK.of_map (by rw[←hj3,one false h (by simp[hlt]),if_neg (by decide)];rfl),OwnLe.refl _,trivial⟩
  ·have h:¬i1≤j:=by simp at h;omega
   refine zC4 ?_
   refine AW.cond Z (fun h=>(by cases h)) (fun _=>?_)
   refine AW.exit ?_
   have e:Go.Sort.scanDown (fun x=>!lt x d1[a]!) d1 i1 j=j:=by
    cases j with
    | zero=>rfl
    | succ k=>rw[Go.Sort.scanDown,if_neg (by simp;omega)]
   refine⟨(),SubK.of_map (by rw[←hj3,e];rfl),OwnLe.refl _,trivial⟩
 rw[hj1]
 have hv2:=hv1.mono hF2
 refine zC4 ?_
 have hpart:Go.Sort.partition lt d a b pivot=if i1 > j1 then (j1,true,Go.Sort.swp d1 j1 a) else
   ((Go.Sort.partLoop lt a (i1+1) (j1-1) (Go.Sort.swp d1 i1 j1)).1,false,Go.Sort.swp (Go.Sort.partLoop lt a (i1+1) (j1-1) (Go.Sort.swp d1 i1 j1)).2 (Go.Sort.partLoop lt a (i1+1) (j1-1) (Go.Sort.swp d1 i1 j1)).1 a):=by
  simp only[Go.Sort.partition,hd1,hi1,hj1]
 refine AW.cond Z (fun h=>?_) (fun h=>?_)
 ·have h:j1<i1:=by simp at h;omega
  refine zC4 ?_
  refine WT.vidx hT hv2 Z Z Z Z Z Z Z Z Z zo (fun bl1 hbl1=>?_)
  refine WT.vldS hT 0 hv2 hbl1 (arr_at zo) Z Z Z Z Z Z Z Z Z (fun l1 hl1=>?_)
  refine zC4 ?_
  refine WT.vidx hT hv2 Z Z Z Z Z Z Z Z Z zo (fun bl2 hbl2=>?_)
  refine WT.vldS hT 0 hv2 hbl2 (arr_at zo) Z Z Z Z Z Z Z Z Z (fun l2 hl2=>?_)
  refine WT.vidx hT hv2 Z Z Z Z Z Z Z Z Z zo (fun bl3 hbl3=>?_)
  refine WT.vst (y:=d1[a]!) hT 0 hv2 hbl3 (gE (by simp;omega)) Z Z Z Z Z hl1 Z (fun _=>rfl) Z (fun Bl3 hBl3=>?_)
  refine WT.vidx hT hBl3 Z Z Z Z Z Z Z Z Z zo (fun bl4 hbl4=>?_)
  refine WT.vst (y:=d1[j1]!) hT 0 hBl3 hbl4 (gE (by simp;omega)) Z Z Z Z Z hl2 Z (fun _=>rfl) Z (fun Bl4 hBl4=>?_)
  rw[←swp_list] at hBl4
  refine zC4 ?_
  refine AW.ret ⟨_,[_],⟨_,_,rfl,⟨_,_,rfl,rfl,rfl⟩,rfl⟩,zsb,_,rfl,?_,?_⟩
  ·rw[hpart,if_pos h];rfl
  ·rw[hpart,if_pos h];exact hBl4
 ·have h:¬j1<i1:=by simp at h;omega
  have hlt1:i1<j1:=by
   rcases Nat.lt_or_ge i1 j1 with h1 | h1
   ·exact h1
   ·obtain rfl:i1=j1:=by omega
    have e1:=u4 zo
    have e2:=v4 (Nat.le_refl _) zo
    rw[e1] at e2
    cases e2
  rw[if_neg h] at hpart
  refine zC4 ?_
  refine WT.vidx hT hv2 Z Z Z Z Z Z Z Z Z zo (fun bl1 hbl1=>?_)
  refine WT.vldS hT 0 hv2 hbl1 (arr_at zo) Z Z Z Z Z Z Z Z Z (fun l1 hl1=>?_)
  refine zC4 ?_
  refine WT.vidx hT hv2 Z Z Z Z Z Z Z Z Z zo (fun bl2 hbl2=>?_)
  refine WT.vldS hT 0 hv2 hbl2 (arr_at zo) Z Z Z Z Z Z Z Z Z (fun l2 hl2=>?_)
  refine WT.vidx hT hv2 Z Z Z Z Z Z Z Z Z zo (fun bl3 hbl3=>?_)
  refine WT.vst (y:=d1[j1]!) hT 0 hv2 hbl3 (gE (by simp;omega)) Z Z Z Z Z hl1 Z (fun _=>rfl) Z (fun Bl3 hBl3=>?_)
  refine WT.vidx hT hBl3 Z Z Z Z Z Z Z Z Z zo (fun bl4 hbl4=>?_)
  refine WT.vst (y:=d1[i1]!) hT 0 hBl3 hbl4 (gE (by simp;omega)) Z Z Z Z Z hl2 Z (fun _=>rfl) Z (fun Bl4 hBl4=>?_)
  rw[←swp_list] at hBl4
  refine zC4 ?_
  refine AW.jnT (S:=Nat×VS Key) (fun s=>[(12,.int .i64 (s.1:Nat)),(13,.int .i64 (s.2.i:Nat))]) (fun s=>s.2.B::own) (fun s G=>Vec tKey G a0 m c s.2.B s.2.d.toList∧a≤s.2.i∧s.2.i<b∧(s.2.i,s.2.d)=Go.Sort.partLoop lt a (i1+1) (j1-1) (Go.Sort.swp d1 i1 j1)) ?_ (fun s F3 hF3 hP=>?_)
  ·refine AW.block ?_
   refine AW.loopR (S:=Nat×VS Key) (fun s=>[(12,.int .i64 (s.1:Nat)),(13,.int .i64 (s.2.i:Nat))]) (fun s=>s.2.B::own) (fun s G=>Vec tKey G a0 m c s.2.B s.2.d.toList∧a<s.1∧s.1≤s.2.i+1∧s.2.i<b∧Go.Sort.partLoop lt a s.1 s.2.i s.2.d=Go.Sort.partLoop lt a (i1+1) (j1-1) (Go.Sort.swp d1 i1 j1)) (fun s=>s.2.i+1-s.1) (i1+1,⟨j1-1,Go.Sort.swp d1 i1 j1,Bl4⟩)
    sM oR ⟨hBl4,by dsimp only;omega,by dsimp only;omega,by dsimp only;omega,rfl⟩ ?_
   intro u F4 hF4 hP4
   obtain⟨hv4,ha4,hij4,hb4,heq4⟩:=hP4
   have hF4':=(hF1.trans hF2).trans hF4
   have hsz4:m=u.2.d.size:=hv4.len
   obtain⟨i2,hi2⟩:∃i2,Go.Sort.scanUp (fun x=>lt x u.2.d[a]!) u.2.d u.2.i u.1=i2:=⟨_,rfl⟩
   obtain⟨j2,hj2⟩:∃j2,Go.Sort.scanDown (fun x=>!lt x u.2.d[a]!) u.2.d i2 u.2.i=j2:=⟨_,rfl⟩
   obtain⟨w1,w2,w3,w4⟩:=Go.Sort.scanUp_spec (fun x=>lt x u.2.d[a]!) u.2.d u.2.i _ u.1 rfl
   obtain⟨x1,x2,x3,x4⟩:=Go.Sort.scanDown_spec (fun x=>!lt x u.2.d[a]!) u.2.d i2 u.2.i
   rw[hi2] at w1 w2 w4
   rw[hj2] at x1 x2 x4
   have w2:=w2 hij4
   have x2:=x2 zo
   have hloop:=Go.Sort.partLoop_eq lt a u.1 u.2.i u.2.d
   rw[hi2,hj2,heq4] at hloop
   refine AW.block ?_
   refine AW.seq ?_
   refine AW.jnT (S:=Unit) (fun _=>[(12,.int .i64 (Go.Sort.scanUp (fun x=>lt x u.2.d[a]!) u.2.d u.2.i u.1:Nat))]) (fun _=>(u.2.B::own)) (fun _ _=>True) ?_ (fun _ F5 hF5 _=>?_)
   ·refine AW.block ?_
    refine AW.loopR (S:=Nat) (fun i=>[(12,.int .i64 (i:Nat))]) (fun _=>(u.2.B::own)) (fun i _=>u.1≤i∧i≤u.2.i+1∧Go.Sort.scanUp (fun x=>lt x u.2.d[a]!) u.2.d u.2.i i=Go.Sort.scanUp (fun x=>lt x u.2.d[a]!) u.2.d u.2.i u.1) (fun i=>u.2.i+1-i) u.1 sM oR ⟨Nat.le_refl _,by omega,rfl⟩ ?_
    intro i G hG hP
    obtain⟨hi1,hi2,hi3⟩:=hP
    have hvG:=hv4.mono hG
    refine zC4 ?_
    refine WT.split 108 Z (fun h=>?_) (fun h=>?_)
    ·have h:i≤u.2.i:=by simp at h;omega
     refine zC4 ?_
     refine WT.vidx hT hvG Z Z Z Z Z Z Z Z Z zo (fun bl1 hbl1=>?_)
     refine WT.vldS hT 0 hvG hbl1 (arr_at zo) Z Z Z Z Z Z Z Z Z (fun l1 hl1=>?_)
     refine zC4 ?_
     refine WT.vidx hT hvG Z Z Z Z Z Z Z Z Z zo (fun bl2 hbl2=>?_)
     refine WT.vldS hT 0 hvG hbl2 (arr_at zo) Z Z Z Z Z Z Z Z Z (fun l2 hl2=>?_)
     refine WT.callC hg hgb Z Z Z Z Z Z Z (hcmp G (hF4'.trans hG) l1 l2 _ _ hl1 hl2) (fun v hvz=>?_)
     obtain⟨z,rfl,hz⟩:=hvz
     refine zC4 ?_
     refine AW.cond Z (fun hc=>?_) (fun hc=>?_)
     ·have hlt:=hz.1 (by simpa using hc)
      refine zC4 ?_
      refine AW.block ?_
      refine zC4 ?_
      refine⟨i+1,by omega,sM,OwnLe.refl _,by omega,by omega,?_⟩
      rw[←hi3]
      conv=>rhs;rw[Go.Sort.scanUp]
      rw[if_pos (by simp[h,hlt])]
     ·have hlt:=(Bool.eq_false_iff.2 (fun hh=>absurd (hz.2 hh) (by simpa using hc)):lt u.2.d[i]! u.2.d[a]! = false)
      refine AW.exit ?_
      refine⟨(),SubK.of_map (by rw[←hi3,Go.Sort.scanUp,if_neg (by simp[hlt])];rfl),OwnLe.refl _,trivial⟩
    ·have h:¬i≤u.2.i:=by simp at h;omega
     refine zC4 ?_
     refine AW.cond Z (fun h=>(by cases h)) (fun _=>?_)
     refine AW.exit ?_
     refine⟨(),SubK.of_map (by rw[←hi3,Go.Sort.scanUp,if_neg (by simp[h])];rfl),OwnLe.refl _,trivial⟩
   rw[hi2]
   have hv5:=hv4.mono hF5
   have hF5':=hF4'.trans hF5
   refine AW.seq ?_
   refine AW.jnT (S:=Unit) (fun _=>[(13,.int .i64 (Go.Sort.scanDown (fun x=>!lt x u.2.d[a]!) u.2.d i2 u.2.i:Nat))]) (fun _=>(u.2.B::own)) (fun _ _=>True) ?_ (fun _ F6 hF6 _=>?_)
   ·refine AW.block ?_
    refine AW.loopR (S:=Nat) (fun j=>[(13,.int .i64 (j:Nat))]) (fun _=>(u.2.B::own)) (fun j _=>j≤u.2.i∧i2≤j+1∧Go.Sort.scanDown (fun x=>!lt x u.2.d[a]!) u.2.d i2 j=Go.Sort.scanDown (fun x=>!lt x u.2.d[a]!) u.2.d i2 u.2.i) (fun j=>j) u.2.i sM oR ⟨Nat.le_refl _,by omega,rfl⟩ ?_
    intro j G hG hP
    obtain⟨hj1,hj2,hj3⟩:=hP
    have hvG:=hv5.mono hG
    have one:∀q,i2≤j→(fun x=>!lt x u.2.d[a]!) u.2.d[j]! = q→Go.Sort.scanDown (fun x=>!lt x u.2.d[a]!) u.2.d i2 j=if q=true then Go.Sort.scanDown (fun x=>!lt x u.2.d[a]!) u.2.d i2 (j-1) else j:=by
     intro q h1 h2
     cases j with
     | zero=>omega
     | succ k=>
      rw[Go.Sort.scanDown,Nat.add_sub_cancel]
      subst h2
      simp[h1]
    refine zC4 ?_
    refine WT.split 126 Z (fun h=>?_) (fun h=>?_)
    ·have h:i2≤j:=by simp at h;omega
     refine zC4 ?_
     refine WT.vidx hT hvG Z Z Z Z Z Z Z Z Z zo (fun bl1 hbl1=>?_)
     refine WT.vldS hT 0 hvG hbl1 (arr_at zo) Z Z Z Z Z Z Z Z Z (fun l1 hl1=>?_)
     refine zC4 ?_
     refine WT.vidx hT hvG Z Z Z Z Z Z Z Z Z zo (fun bl2 hbl2=>?_)
     refine WT.vldS hT 0 hvG hbl2 (arr_at zo) Z Z Z Z Z Z Z Z Z (fun l2 hl2=>?_)
     refine WT.callC hg hgb Z Z Z Z Z Z Z (hcmp G (hF5'.trans hG) l1 l2 _ _ hl1 hl2) (fun v hvz=>?_)
     obtain⟨z,rfl,hz⟩:=hvz
     refine zC4 ?_
     refine AW.cond Z (fun hc=>?_) (fun hc=>?_)
     ·have hlt:=(Bool.eq_false_iff.2 (fun hh=>absurd (hz.2 hh) (by simpa using hc)):lt u.2.d[j]! u.2.d[a]! = false)
      refine zC4 ?_
      refine AW.block ?_
      refine zC4 ?_
      refine⟨j-1,by omega,sM,OwnLe.refl _,by omega,by omega,?_⟩
      rw[←hj3,one true h (by simp[hlt]),if_pos rfl]
     ·have hlt:=hz.1 (by simpa using hc)
      refine AW.exit ?_
      refine⟨(),SubK.of_map (by rw[←hj3,one false h (by simp[hlt]),if_neg (by decide)];rfl),OwnLe.refl _,trivial⟩
    ·have h:¬i2≤j:=by simp at h;omega
     refine zC4 ?_
     refine AW.cond Z (fun h=>(by cases h)) (fun _=>?_)
     refine AW.exit ?_
     have e:Go.Sort.scanDown (fun x=>!lt x u.2.d[a]!) u.2.d i2 j=j:=by
      cases j with
      | zero=>rfl
      | succ k=>rw[Go.Sort.scanDown,if_neg (by simp;omega)]
     refine⟨(),SubK.of_map (by rw[←hj3,e];rfl),OwnLe.refl _,trivial⟩
   rw[hj2]
   have hv6:=hv5.mono hF6
   refine zC4 ?_
   refine AW.cond Z (fun h=>?_) (fun h=>?_)
   ·have h:j2<i2:=by simp at h;omega
    refine AW.exit ?_
    refine⟨(i2,⟨j2,u.2.d,u.2.B⟩),sM,OwnLe.refl _,hv6,by dsimp only;omega,by dsimp only;omega,?_⟩
    rw[hloop,if_pos h]
   ·have h:¬j2<i2:=by simp at h;omega
    have hlt2:i2<j2:=by
     rcases Nat.lt_or_ge i2 j2 with h1 | h1
     ·exact h1
     ·obtain rfl:i2=j2:=by omega
      have e1:=w4 zo
      have e2:=x4 (Nat.le_refl _) zo
      rw[e1] at e2
      cases e2
    refine zC4 ?_
    refine WT.vidx hT hv6 Z Z Z Z Z Z Z Z Z zo (fun bl5 hbl5=>?_)
    refine WT.vldS hT 0 hv6 hbl5 (arr_at zo) Z Z Z Z Z Z Z Z Z (fun l5 hl5=>?_)
    refine zC4 ?_
    refine WT.vidx hT hv6 Z Z Z Z Z Z Z Z Z zo (fun bl6 hbl6=>?_)
    refine WT.vldS hT 0 hv6 hbl6 (arr_at zo) Z Z Z Z Z Z Z Z Z (fun l6 hl6=>?_)
    refine WT.vidx hT hv6 Z Z Z Z Z Z Z Z Z zo (fun bl7 hbl7=>?_)
    refine WT.vst (y:=u.2.d[j2]!) hT 0 hv6 hbl7 (gE (by simp;omega)) Z Z Z Z Z hl5 Z (fun _=>rfl) Z (fun Bl7 hBl7=>?_)
    refine WT.vidx hT hBl7 Z Z Z Z Z Z Z Z Z zo (fun bl8 hbl8=>?_)
    refine WT.vst (y:=u.2.d[i2]!) hT 0 hBl7 hbl8 (gE (by simp;omega)) Z Z Z Z Z hl6 Z (fun _=>rfl) Z (fun Bl8 hBl8=>?_)
    rw[←swp_list] at hBl8
    refine zC4 ?_
    refine⟨(i2+1,⟨j2-1,Go.Sort.swp u.2.d i2 j2,Bl8⟩),by dsimp only;omega,sM,OwnLe.refl _,hBl8,by dsimp only;omega,by dsimp only;omega,by dsimp only;omega,?_⟩
    rw[hloop,if_neg h]
  ·obtain⟨hv3,ha3,hb3,heq3⟩:=hP
   have hsz3:m=s.2.d.size:=hv3.len
   rw[←heq3] at hpart
   refine zC4 ?_
   refine WT.vidx hT hv3 Z Z Z Z Z Z Z Z Z zo (fun bl5 hbl5=>?_)
   refine WT.vldS hT 0 hv3 hbl5 (arr_at zo) Z Z Z Z Z Z Z Z Z (fun l5 hl5=>?_)
   refine zC4 ?_
   refine WT.vidx hT hv3 Z Z Z Z Z Z Z Z Z zo (fun bl6 hbl6=>?_)
   refine WT.vldS hT 0 hv3 hbl6 (arr_at zo) Z Z Z Z Z Z Z Z Z (fun l6 hl6=>?_)
   refine WT.vidx hT hv3 Z Z Z Z Z Z Z Z Z zo (fun bl7 hbl7=>?_)
   refine WT.vst (y:=s.2.d[a]!) hT 0 hv3 hbl7 (gE (by simp;omega)) Z Z Z Z Z hl5 Z (fun _=>rfl) Z (fun Bl7 hBl7=>?_)
   refine WT.vidx hT hBl7 Z Z Z Z Z Z Z Z Z zo (fun bl8 hbl8=>?_)
   refine WT.vst (y:=s.2.d[s.2.i]!) hT 0 hBl7 hbl8 (gE (by simp;omega)) Z Z Z Z Z hl6 Z (fun _=>rfl) Z (fun Bl8 hBl8=>?_)
   rw[←swp_list] at hBl8
   refine zC4 ?_
   refine AW.ret ⟨_,[_],⟨_,_,rfl,⟨_,_,rfl,rfl,rfl⟩,rfl⟩,zsb,_,rfl,?_,?_⟩
   ·rw[hpart];rfl
   ·rw[hpart];exact hBl8
theorem kyPartEq_spec(F:Frz){lt:Key→Key→Bool}{g:Nat}{first capt:List Value}(hc:CmpOk tKey lt F g first capt){a0:Option Addr}{m c:Nat}{B:List (Nat×Blk)}{d:Array Key}(hv:Vec tKey F a0 m c B d.toList)(a b pivot:Nat)(hp1:a≤pivot)(hp2:pivot<b)(hb:b≤m)(hm:m≤1000000) :
  Abs.Spec CC 140 [.slice a0 m c,.int .i64 a,.int .i64 b,.int .i64 pivot,.func (.func g) ⟨first⟩ ⟨capt⟩] F [B] fun F' v o=>∃B',o=[B']∧v=.int .i64 ((Go.Sort.partitionEqual lt d a b pivot).1:Nat)∧Vec tKey F' a0 m c B' (Go.Sort.partitionEqual lt d a b pivot).2.toList:=by
 obtain⟨⟨fn,hg,hgb⟩,hcmp⟩:=hc
 have hsz:m=d.size:=hv.len
 refine Abs.Spec.fn (n:=90) Tryz.func140 rfl rfl fun own=>?_
 refine zC4 ?_
 refine WT.vidx hT hv Z Z Z Z Z Z Z Z Z zo (fun bl1 hbl1=>?_)
 refine WT.vldS hT 0 hv hbl1 (arr_at zo) Z Z Z Z Z Z Z Z Z (fun l1 hl1=>?_)
 refine zC4 ?_
 refine WT.vidx hT hv Z Z Z Z Z Z Z Z Z zo (fun bl2 hbl2=>?_)
 refine WT.vldS hT 0 hv hbl2 (arr_at zo) Z Z Z Z Z Z Z Z Z (fun l2 hl2=>?_)
 refine WT.vidx hT hv Z Z Z Z Z Z Z Z Z zo (fun bl3 hbl3=>?_)
 refine WT.vst (y:=d[pivot]!) hT 0 hv hbl3 (gE (by simp;omega)) Z Z Z Z Z hl1 Z (fun _=>rfl) Z (fun Bl3 hBl3=>?_)
 refine WT.vidx hT hBl3 Z Z Z Z Z Z Z Z Z zo (fun bl4 hbl4=>?_)
 refine WT.vst (y:=d[a]!) hT 0 hBl3 hbl4 (gE (by simp;omega)) Z Z Z Z Z hl2 Z (fun _=>rfl) Z (fun Bl4 hBl4=>?_)
 rw[←swp_list] at hBl4
 obtain⟨d1,hd1⟩:∃d1,Go.Sort.swp d a pivot=d1:=⟨_,rfl⟩
 rw[hd1] at hBl4
 have hpart:Go.Sort.partitionEqual lt d a b pivot=Go.Sort.partEqLoop lt a (a+1) (b-1) d1:=by rw[Go.Sort.partitionEqual,hd1]
 refine zC4 ?_
 refine AW.jnT (S:=Nat×VS Key) (fun s=>[(11,.int .i64 (s.1:Nat)),(12,.int .i64 (s.2.i:Nat))]) (fun s=>s.2.B::own) (fun s G=>Vec tKey G a0 m c s.2.B s.2.d.toList∧(s.1,s.2.d)=Go.Sort.partEqLoop lt a (a+1) (b-1) d1) ?_ (fun s F3 hF3 hP=>?_)
 ·refine AW.block ?_
  refine AW.loopR (S:=Nat×VS Key) (fun s=>[(11,.int .i64 (s.1:Nat)),(12,.int .i64 (s.2.i:Nat))]) (fun s=>s.2.B::own) (fun s G=>Vec tKey G a0 m c s.2.B s.2.d.toList∧a<s.1∧s.1≤s.2.i+1∧s.2.i<b∧Go.Sort.partEqLoop lt a s.1 s.2.i s.2.d=Go.Sort.partEqLoop lt a (a+1) (b-1) d1) (fun s=>s.2.i+1-s.1) (a+1,⟨b-1,d1,Bl4⟩)
   sM oR ⟨hBl4,by dsimp only;omega,by dsimp only;omega,by dsimp only;omega,rfl⟩ ?_
  intro u F4 hF4 hP4
  obtain⟨hv4,ha4,hij4,hb4,heq4⟩:=hP4
  have hsz4:m=u.2.d.size:=hv4.len
  obtain⟨i2,hi2⟩:∃i2,Go.Sort.scanUp (fun x=>!lt u.2.d[a]! x) u.2.d u.2.i u.1=i2:=⟨_,rfl⟩
  obtain⟨j2,hj2⟩:∃j2,Go.Sort.scanDown (fun x=>lt u.2.d[a]! x) u.2.d i2 u.2.i=j2:=⟨_,rfl⟩
  obtain⟨w1,w2,w3,w4⟩:=Go.Sort.scanUp_spec (fun x=>!lt u.2.d[a]! x) u.2.d u.2.i _ u.1 rfl
  obtain⟨x1,x2,x3,x4⟩:=Go.Sort.scanDown_spec (fun x=>lt u.2.d[a]! x) u.2.d i2 u.2.i
  rw[hi2] at w1 w2 w4
  rw[hj2] at x1 x2 x4
  have w2:=w2 hij4
  have x2:=x2 zo
  have hloop:=Go.Sort.partEqLoop_eq lt a u.1 u.2.i u.2.d
  rw[hi2,hj2,heq4] at hloop
  refine AW.block ?_
  refine AW.seq ?_
  refine AW.jnT (S:=Unit) (fun _=>[(11,.int .i64 (Go.Sort.scanUp (fun x=>!lt u.2.d[a]! x) u.2.d u.2.i u.1:Nat))]) (fun _=>(u.2.B::own)) (fun _ _=>True) ?_ (fun _ F5 hF5 _=>?_)
  ·refine AW.block ?_
   refine AW.loopR (S:=Nat) (fun i=>[(11,.int .i64 (i:Nat))]) (fun _=>(u.2.B::own)) (fun i _=>u.1≤i∧i≤u.2.i+1∧Go.Sort.scanUp (fun x=>!lt u.2.d[a]! x) u.2.d u.2.i i=Go.Sort.scanUp (fun x=>!lt u.2.d[a]! x) u.2.d u.2.i u.1) (fun i=>u.2.i+1-i) u.1 sM oR ⟨Nat.le_refl _,by omega,rfl⟩ ?_
   intro i G hG hP
   obtain⟨hi1,hi2,hi3⟩:=hP
   have hvG:=hv4.mono hG
   refine zC4 ?_
   refine WT.split 34 Z (fun h=>?_) (fun h=>?_)
   ·have h:i≤u.2.i:=by simp at h;omega
    refine zC4 ?_
    refine WT.vidx hT hvG Z Z Z Z Z Z Z Z Z zo (fun bl1 hbl1=>?_)
    refine WT.vldS hT 0 hvG hbl1 (arr_at zo) Z Z Z Z Z Z Z Z Z (fun l1 hl1=>?_)
    refine zC4 ?_
    refine WT.vidx hT hvG Z Z Z Z Z Z Z Z Z zo (fun bl2 hbl2=>?_)
    refine WT.vldS hT 0 hvG hbl2 (arr_at zo) Z Z Z Z Z Z Z Z Z (fun l2 hl2=>?_)
    refine WT.callC hg hgb Z Z Z Z Z Z Z (hcmp G (hF4.trans hG) l1 l2 _ _ hl1 hl2) (fun v hvz=>?_)
    obtain⟨z,rfl,hz⟩:=hvz
    refine zC4 ?_
    refine AW.cond Z (fun hc=>?_) (fun hc=>?_)
    ·have hlt:=(Bool.eq_false_iff.2 (fun hh=>absurd (hz.2 hh) (by simpa using hc)):lt u.2.d[a]! u.2.d[i]! = false)
     refine zC4 ?_
     refine AW.block ?_
     refine zC4 ?_
     refine⟨i+1,by omega,sM,OwnLe.refl _,by omega,by omega,?_⟩
     rw[←hi3]
     conv=>rhs;rw[Go.Sort.scanUp]
     rw[if_pos (by simp[h,hlt])]
    ·have hlt:=hz.1 (by simpa using hc)
     refine AW.exit ?_
     refine⟨(),SubK.of_map (by rw[←hi3,Go.Sort.scanUp,if_neg (by simp[hlt])];rfl),OwnLe.refl _,trivial⟩
   ·have h:¬i≤u.2.i:=by simp at h;omega
    refine zC4 ?_
    refine AW.cond Z (fun h=>(by cases h)) (fun _=>?_)
    refine AW.exit ?_
    refine⟨(),SubK.of_map (by rw[←hi3,Go.Sort.scanUp,if_neg (by simp[h])];rfl),OwnLe.refl _,trivial⟩
  rw[hi2]
  have hv5:=hv4.mono hF5
  have hF5':=hF4.trans hF5
  refine AW.seq ?_
  refine AW.jnT (S:=Unit) (fun _=>[(12,.int .i64 (Go.Sort.scanDown (fun x=>lt u.2.d[a]! x) u.2.d i2 u.2.i:Nat))]) (fun _=>(u.2.B::own)) (fun _ _=>True) ?_ (fun _ F6 hF6 _=>?_)
  ·refine AW.block ?_
   refine AW.loopR (S:=Nat) (fun j=>[(12,.int .i64 (j:Nat))]) (fun _=>(u.2.B::own)) (fun j _=>j≤u.2.i∧i2≤j+1∧Go.Sort.scanDown (fun x=>lt u.2.d[a]! x) u.2.d i2 j=Go.Sort.scanDown (fun x=>lt u.2.d[a]! x) u.2.d i2 u.2.i) (fun j=>j) u.2.i sM oR ⟨Nat.le_refl _,by omega,rfl⟩ ?_
   intro j G hG hP
   obtain⟨hj1,hj2,hj3⟩:=hP
   have hvG:=hv5.mono hG
   have one:∀q,i2≤j→(fun x=>lt u.2.d[a]! x) u.2.d[j]! = q→Go.Sort.scanDown (fun x=>lt u.2.d[a]! x) u.2.d i2 j=if q=true then Go.Sort.scanDown (fun x=>lt u.2.d[a]! x) u.2.d i2 (j-1) else j:=by
    intro q h1 h2
    cases j with
    | zero=>omega
    | succ k=>
     rw[Go.Sort.scanDown,Nat.add_sub_cancel]
     subst h2
     simp[h1]
   refine zC4 ?_
   refine WT.split 53 Z (fun h=>?_) (fun h=>?_)
   ·have h:i2≤j:=by simp at h;omega
    refine zC4 ?_
    refine WT.vidx hT hvG Z Z Z Z Z Z Z Z Z zo (fun bl1 hbl1=>?_)
    refine WT.vldS hT 0 hvG hbl1 (arr_at zo) Z Z Z Z Z Z Z Z Z (fun l1 hl1=>?_)
    refine zC4 ?_
    refine WT.vidx hT hvG Z Z Z Z Z Z Z Z Z zo (fun bl2 hbl2=>?_)
    refine WT.vldS hT 0 hvG hbl2 (arr_at zo) Z Z Z Z Z Z Z Z Z (fun l2 hl2=>?_)
    refine WT.callC hg hgb Z Z Z Z Z Z Z (hcmp G (hF5'.trans hG) l1 l2 _ _ hl1 hl2) (fun v hvz=>?_)
    obtain⟨z,rfl,hz⟩:=hvz
    refine zC4 ?_
    refine AW.cond Z (fun hc=>?_) (fun hc=>?_)
    ·have hlt:=hz.1 (by simpa using hc)
     refine zC4 ?_
     refine AW.block ?_
     refine zC4 ?_
     refine⟨j-1,by omega,sM,OwnLe.refl _,by omega,by omega,?_⟩
     rw[←hj3,one true h (by simp[hlt]),if_pos rfl]
    ·have hlt:=(Bool.eq_false_iff.2 (fun hh=>absurd (hz.2 hh) (by simpa using hc)):lt u.2.d[a]! u.2.d[j]! = false)
     refine AW.exit ?_
     refine⟨(),SubK.of_map (by rw[←hj3,one false h (by simp[hlt]),if_neg (by decide)];rfl),OwnLe.refl _,trivial⟩
   ·have h:¬i2≤j:=by simp at h;omega
    refine zC4 ?_
    refine AW.cond Z (fun h=>(by cases h)) (fun _=>?_)
    refine AW.exit ?_
    have e:Go.Sort.scanDown (fun x=>lt u.2.d[a]! x) u.2.d i2 j=j:=by
     cases j with
     | zero=>rfl
     | succ k=>rw[Go.Sort.scanDown,if_neg (by simp;omega)]
    refine⟨(),SubK.of_map (by rw[←hj3,e];rfl),OwnLe.refl _,trivial⟩
  rw[hj2]
  have hv6:=hv5.mono hF6
  refine zC4 ?_
  refine AW.cond Z (fun h=>?_) (fun h=>?_)
  ·have h:j2<i2:=by simp at h;omega
   refine AW.exit ?_
   refine⟨(i2,⟨j2,u.2.d,u.2.B⟩),sM,OwnLe.refl _,hv6,?_⟩
   rw[hloop,if_pos h]
  ·have h:¬j2<i2:=by simp at h;omega
   have hlt2:i2<j2:=by
    rcases Nat.lt_or_ge i2 j2 with h1 | h1
    ·exact h1
    ·obtain rfl:i2=j2:=by omega
     have e1:=w4 zo
     have e2:=x4 (Nat.le_refl _) zo
     rw[e2] at e1
     cases e1
   refine zC4 ?_
   refine WT.vidx hT hv6 Z Z Z Z Z Z Z Z Z zo (fun bl5 hbl5=>?_)
   refine WT.vldS hT 0 hv6 hbl5 (arr_at zo) Z Z Z Z Z Z Z Z Z (fun l5 hl5=>?_)
   refine zC4 ?_
   refine WT.vidx hT hv6 Z Z Z Z Z Z Z Z Z zo (fun bl6 hbl6=>?_)
   refine WT.vldS hT 0 hv6 hbl6 (arr_at zo) Z Z Z Z Z Z Z Z Z (fun l6 hl6=>?_)
   refine WT.vidx hT hv6 Z Z Z Z Z Z Z Z Z zo (fun bl7 hbl7=>?_)
   refine WT.vst (y:=u.2.d[j2]!) hT 0 hv6 hbl7 (gE (by simp;omega)) Z Z Z Z Z hl5 Z (fun _=>rfl) Z (fun Bl7 hBl7=>?_)
   refine WT.vidx hT hBl7 Z Z Z Z Z Z Z Z Z zo (fun bl8 hbl8=>?_)
   refine WT.vst (y:=u.2.d[i2]!) hT 0 hBl7 hbl8 (gE (by simp;omega)) Z Z Z Z Z hl6 Z (fun _=>rfl) Z (fun Bl8 hBl8=>?_)
   rw[←swp_list] at hBl8
   refine zC4 ?_
   refine⟨(i2+1,⟨j2-1,Go.Sort.swp u.2.d i2 j2,Bl8⟩),by dsimp only;omega,sM,OwnLe.refl _,hBl8,by dsimp only;omega,by dsimp only;omega,by dsimp only;omega,?_⟩
   rw[hloop,if_neg h]
 ·obtain⟨hv3,heq3⟩:=hP
  refine zC4 ?_
  refine AW.ret ⟨_,[_],⟨_,_,rfl,rfl,rfl⟩,zsb,_,rfl,?_,?_⟩
  ·rw[hpart,←heq3];rfl
  ·rw[hpart,←heq3];exact hv3
theorem kyOrder2_spec(F:Frz){lt:Key→Key→Bool}{g:Nat}{first capt:List Value}(hc:CmpOk tKey lt F g first capt){a0:Option Addr}{m c:Nat}{d:Array Key}(hv:Arr tKey F a0 m c d.toList)(a b:Nat)(ha:a<m)(hb:b<m)(hm:m≤1000000){ip sw:Nat}(hsw:sw≤1000) :
  Abs.Spec CC 164 [.slice a0 m c,.int .i64 a,.int .i64 b,.pointer (some ⟨ip,0,none⟩),.func (.func g) ⟨first⟩ ⟨capt⟩] F [[(ip,.cells false [.int .i64 sw])]] fun F' v o=>∃B',o=[B']∧v=.tuple ⟨[.int .i64 ((Go.Sort.order2 lt d a b sw).1:Nat),.int .i64 ((Go.Sort.order2 lt d a b sw).2.1:Nat)]⟩∧B'=[(ip,.cells false [.int .i64 ((Go.Sort.order2 lt d a b sw).2.2:Nat)])]:=by
 obtain⟨⟨fn,hg,hgb⟩,hcmp⟩:=hc
 have hsz:m=d.size:=hv.len
 refine Abs.Spec.fn (n:=32) Tryz.func164 rfl rfl fun own=>?_
 refine zC4 ?_
 refine WT.idxL hT hv Z Z Z Z Z Z Z Z Z (by simp;omega) (fun x1 hx1 b1 off1 ro1 cs1 l1 hb1 hp1 hl1=>?_)
 obtain rfl:x1=d[b]!:=by rw[arr_at zo] at hx1;exact(Option.some.inj hx1).symm
 refine WT.loadS hT hb1 hp1 Z Z Z Z Z Z Z Z ?_
 refine zC4 ?_
 refine WT.idxL hT hv Z Z Z Z Z Z Z Z Z (by simp;omega) (fun x2 hx2 b2 off2 ro2 cs2 l2 hb2 hp2 hl2=>?_)
 obtain rfl:x2=d[a]!:=by rw[arr_at zo] at hx2;exact(Option.some.inj hx2).symm
 refine WT.loadS hT hb2 hp2 Z Z Z Z Z Z Z Z ?_
 refine WT.callC hg hgb Z Z Z Z Z Z Z (hcmp F (Frz.le.refl F) l1 l2 _ _ hl1 hl2) (fun v hvz=>?_)
 obtain⟨z,rfl,hz⟩:=hvz
 refine zC4 ?_
 refine AW.cond Z (fun hc=>?_) (fun hc=>?_)
 ·have hlt:=hz.1 (by simpa using hc)
  have e:Go.Sort.order2 lt d a b sw=(b,a,sw+1):=by rw[Go.Sort.order2,if_pos hlt]
  refine zC4 ?_
  exact AW.ret ⟨_,[_],⟨_,_,rfl,⟨_,_,rfl,rfl,rfl⟩,rfl⟩,zsb,_,rfl,(by rw[e];first | done | rfl),(by rw[e];first | done | rfl)⟩
 ·have hlt:lt d[b]! d[a]! = false:=Bool.eq_false_iff.2 (fun hh=>absurd (hz.2 hh) (by simpa using hc))
  have e:Go.Sort.order2 lt d a b sw=(a,b,sw):=by rw[Go.Sort.order2,if_neg (by rw[hlt];decide)]
  refine zC4 ?_
  exact AW.ret ⟨_,[_],⟨_,_,rfl,⟨_,_,rfl,rfl,rfl⟩,rfl⟩,zsb,_,rfl,(by rw[e];first | done | rfl),(by rw[e];first | done | rfl)⟩
theorem kyMedian_spec(F:Frz){lt:Key→Key→Bool}{g:Nat}{first capt:List Value}(hc:CmpOk tKey lt F g first capt){a0:Option Addr}{m c0:Nat}{d:Array Key}(hv:Arr tKey F a0 m c0 d.toList)(a b c:Nat)(ha:a<m)(hb:b<m)(hcm:c<m)(hm:m≤1000000){ip sw:Nat}(hsw:sw≤900) :
  Abs.Spec CC 159 [.slice a0 m c0,.int .i64 a,.int .i64 b,.int .i64 c,.pointer (some ⟨ip,0,none⟩),.func (.func g) ⟨first⟩ ⟨capt⟩] F [[(ip,.cells false [.int .i64 sw])]] fun F' v o=>∃B',o=[B']∧v=.int .i64 ((Go.Sort.median lt d a b c sw).1:Nat)∧B'=[(ip,.cells false [.int .i64 ((Go.Sort.median lt d a b c sw).2:Nat)])]:=by
 obtain⟨r1,hr1⟩:∃r,Go.Sort.order2 lt d a b sw=r:=⟨_,rfl⟩
 obtain⟨r2,hr2⟩:∃r,Go.Sort.order2 lt d r1.2.1 c r1.2.2=r:=⟨_,rfl⟩
 obtain⟨r3,hr3⟩:∃r,Go.Sort.order2 lt d r1.1 r2.1 r2.2.2=r:=⟨_,rfl⟩
 have hmed:Go.Sort.median lt d a b c sw=(r3.2.1,r3.2.2):=by simp only[Go.Sort.median,hr1,hr2,hr3]
 have m1:=Go.Sort.order2_mem lt d a b sw
 have m2:=Go.Sort.order2_mem lt d r1.2.1 c r1.2.2
 have n1:=Go.Sort.order2_count lt d a b sw
 have n2:=Go.Sort.order2_count lt d r1.2.1 c r1.2.2
 rw[hr1] at m1 n1
 rw[hr2] at m2 n2
 have b1:r1.1<m∧r1.2.1<m:=by omega
 have b2:r2.1<m∧r2.2.1<m:=by omega
 refine Abs.Spec.fn (n:=41) Tryz.func159 rfl rfl fun own=>?_
 refine zC4 ?_
 refine WT.call1F 0 Tryz.func164 Z Z Z Z Z Z Z (fun _=>rfl) (kyOrder2_spec _ hc hv a b ha hb hm zo) (fun F1 v B1 hF1 hv1=>?_)
 obtain⟨rfl,rfl⟩:=hv1
 rw[hr1]
 refine zC4 ?_
 refine WT.call1F 0 Tryz.func164 Z Z Z Z Z Z Z (fun _=>rfl) (kyOrder2_spec _ (hc.mono hF1) (hv.mono hF1) r1.2.1 c b1.2 hcm hm (sw:=r1.2.2) zo) (fun F2 v B2 hF2 hv2=>?_)
 obtain⟨rfl,rfl⟩:=hv2
 rw[hr2]
 refine zC4 ?_
 refine WT.call1F 0 Tryz.func164 Z Z Z Z Z Z Z (fun _=>rfl) (kyOrder2_spec _ ((hc.mono hF1).mono hF2) ((hv.mono hF1).mono hF2) r1.1 r2.1 b1.1 b2.1 hm (sw:=r2.2.2) zo) (fun F3 v B3 hF3 hv3=>?_)
 obtain⟨rfl,rfl⟩:=hv3
 rw[hr3]
 refine zC4 ?_
 exact AW.ret ⟨_,[_],⟨_,_,rfl,rfl,rfl⟩,zsb,_,rfl,(by rw[hmed];first | done | rfl),(by rw[hmed])⟩
theorem kyMedAdj_spec(F:Frz){lt:Key→Key→Bool}{g:Nat}{first capt:List Value}(hc:CmpOk tKey lt F g first capt){a0:Option Addr}{m c0:Nat}{d:Array Key}(hv:Arr tKey F a0 m c0 d.toList)(a:Nat)(ha:1≤a)(hb:a+1<m)(hm:m≤1000000){ip sw:Nat}(hsw:sw≤900) :
  Abs.Spec CC 158 [.slice a0 m c0,.int .i64 a,.pointer (some ⟨ip,0,none⟩),.func (.func g) ⟨first⟩ ⟨capt⟩] F [[(ip,.cells false [.int .i64 sw])]] fun F' v o=>∃B',o=[B']∧v=.int .i64 ((Go.Sort.medianAdjacent lt d a sw).1:Nat)∧B'=[(ip,.cells false [.int .i64 ((Go.Sort.medianAdjacent lt d a sw).2:Nat)])]:=by
 refine Abs.Spec.fn (n:=18) Tryz.func158 rfl rfl fun own=>?_
 refine zC4 ?_
 refine WT.call1F 0 Tryz.func159 Z Z Z Z Z Z Z (fun _=>rfl) (kyMedian_spec _ hc hv (a-1) a (a+1) zo zo zo hm hsw) (fun F1 v B1 hF1 hv1=>?_)
 obtain⟨rfl,rfl⟩:=hv1
 refine zC4 ?_
 exact AW.ret ⟨_,[_],⟨_,_,rfl,rfl,rfl⟩,zsb,_,rfl,rfl,rfl⟩
theorem kyPivot_spec(F:Frz){lt:Key→Key→Bool}{g:Nat}{first capt:List Value}(hc:CmpOk tKey lt F g first capt){a0:Option Addr}{m c0:Nat}{d:Array Key}(hv:Arr tKey F a0 m c0 d.toList)(a b:Nat)(hab:a+13≤b)(hb:b≤m)(hm:m≤1000000) :
  Abs.Spec CC 137 [.slice a0 m c0,.int .i64 a,.int .i64 b,.func (.func g) ⟨first⟩ ⟨capt⟩] F [] fun F' v o=>o=[]∧v=.tuple ⟨[.int .i64 ((Go.Sort.choosePivot lt d a b).1:Nat),.int .i64 (Go.Sort.hintCode (Go.Sort.choosePivot lt d a b).2)]⟩:=by
 have hd4:(b-a) / 4*4≤b-a:=Nat.div_mul_le_self _ _
 have hd3:3≤(b-a) / 4:=by omega
 obtain⟨e,he⟩:∃e,(b-a) / 4=e:=⟨_,rfl⟩
 rw[he] at hd4 hd3
 refine Abs.Spec.fn (n:=63) Tryz.func137 rfl rfl fun own=>?_
 refine zC4 ?_
 refine WT.allocT hT Z Z Z Z Z Z (fun i11 hi11=>?_)
 refine zC4 ?_
 refine WT.quoL 4 Z Z Z Z Z Z (by decide) zo ?_
 refine WT.mulL 1 Z Z Z Z Z Z zo ?_
 rw[he]
 refine zC4 ?_
 refine WT.quoL 4 Z Z Z Z Z Z (by decide) zo ?_
 refine WT.mulL 2 Z Z Z Z Z Z zo ?_
 rw[he]
 refine zC4 ?_
 refine WT.quoL 4 Z Z Z Z Z Z (by decide) zo ?_
 refine WT.mulL 3 Z Z Z Z Z Z zo ?_
 rw[he]
 refine zC4 ?_
 refine AW.cond Z (fun _=>?_) (fun h=>(by simp at h;omega))
 refine AW.jn (S:=Nat×Nat×Nat×Nat) (fun s=>[(12,.int .i64 (s.1:Nat)),(13,.int .i64 (s.2.1:Nat)),(14,.int .i64 (s.2.2.1:Nat))]) (fun s=>[(i11,.cells false [.int .i64 (s.2.2.2:Nat)])]::own) (fun s _=>s.1<m∧s.2.1<m∧s.2.2.1<m∧s.2.2.2≤9∧Go.Sort.rawPivot lt d a b=Go.Sort.median lt d s.1 s.2.1 s.2.2.1 s.2.2.2) ?_ (fun s F5 hF5 hP=>?_)
 ·refine zC4 ?_
  refine AW.cond Z (fun h=>?_) (fun h=>?_)
  ·have h:50≤b-a:=by simp at h;omega
   have h12:12≤e:=by omega
   obtain⟨r1,hr1⟩:∃r,Go.Sort.medianAdjacent lt d (a+e*1) 0=r:=⟨_,rfl⟩
   obtain⟨r2,hr2⟩:∃r,Go.Sort.medianAdjacent lt d (a+e*2) r1.2=r:=⟨_,rfl⟩
   obtain⟨r3,hr3⟩:∃r,Go.Sort.medianAdjacent lt d (a+e*3) r2.2=r:=⟨_,rfl⟩
   have m1:=Go.Sort.medianAdjacent_mem lt d (a+e*1) 0
   have m2:=Go.Sort.medianAdjacent_mem lt d (a+e*2) r1.2
   have m3:=Go.Sort.medianAdjacent_mem lt d (a+e*3) r2.2
   have n1:=Go.Sort.medianAdjacent_count lt d (a+e*1) 0
   have n2:=Go.Sort.medianAdjacent_count lt d (a+e*2) r1.2
   have n3:=Go.Sort.medianAdjacent_count lt d (a+e*3) r2.2
   rw[hr1] at m1 n1
   rw[hr2] at m2 n2
   rw[hr3] at m3 n3
   refine zC4 ?_
   refine WT.call1F 0 Tryz.func158 Z Z Z Z Z Z Z (fun _=>rfl) (kyMedAdj_spec _ hc hv (a+e*1) zo zo hm (sw:=0) zo) (fun F1 v B1 hF1 hv1=>?_)
   obtain⟨rfl,rfl⟩:=hv1
   rw[hr1]
   refine zC4 ?_
   refine WT.call1F 0 Tryz.func158 Z Z Z Z Z Z Z (fun _=>rfl) (kyMedAdj_spec _ (hc.mono hF1) (hv.mono hF1) (a+e*2) zo zo hm (sw:=r1.2) zo) (fun F2 v B2 hF2 hv2=>?_)
   obtain⟨rfl,rfl⟩:=hv2
   rw[hr2]
   refine zC4 ?_
   refine WT.call1F 0 Tryz.func158 Z Z Z Z Z Z Z (fun _=>rfl) (kyMedAdj_spec _ ((hc.mono hF1).mono hF2) ((hv.mono hF1).mono hF2) (a+e*3) zo zo hm (sw:=r2.2) zo) (fun F3 v B3 hF3 hv3=>?_)
   obtain⟨rfl,rfl⟩:=hv3
   rw[hr3]
   refine zC4 ?_
   refine⟨(r1.1,r2.1,r3.1,r3.2),sM,OwnLe.refl _,by dsimp only;omega,by dsimp only;omega,by dsimp only;omega,by dsimp only;omega,?_⟩
   rw[Go.Sort.rawPivot,if_pos zo,if_pos h,he,hr1,hr2,hr3]
  ·have h:¬50≤b-a:=by simp at h;omega
   refine AW.skip ?_
   refine⟨(a+e*1,a+e*2,a+e*3,0),sM,OwnLe.refl _,by dsimp only;omega,by dsimp only;omega,by dsimp only;omega,by dsimp only;omega,?_⟩
   rw[Go.Sort.rawPivot,if_pos zo,if_neg zo,he]
 ·obtain⟨q1,q2,q3,q4,q5⟩:=hP
  obtain⟨r,hr⟩:∃r,Go.Sort.median lt d s.1 s.2.1 s.2.2.1 s.2.2.2=r:=⟨_,rfl⟩
  have n1:=Go.Sort.median_count lt d s.1 s.2.1 s.2.2.1 s.2.2.2
  rw[hr] at n1 q5
  have hch:Go.Sort.choosePivot lt d a b=(r.1,Go.Sort.hintOf r.2):=by rw[Go.Sort.choosePivot_eq,q5]
  refine zC4 ?_
  refine WT.call1F 0 Tryz.func159 Z Z Z Z Z Z Z (fun _=>rfl) (kyMedian_spec _ (hc.mono hF5) (hv.mono hF5) s.1 s.2.1 s.2.2.1 q1 q2 q3 hm (sw:=s.2.2.2) zo) (fun F6 v B6 hF6 hv6=>?_)
  obtain⟨rfl,rfl⟩:=hv6
  rw[hr]
  refine zC4 ?_
  refine AW.block ?_
  refine zC4 ?_
  refine AW.cond Z (fun h=>?_) (fun h=>?_)
  ·have h:r.2=0:=by simp at h;omega
   refine zC4 ?_
   refine AW.ret ⟨_,[],⟨_,_,rfl,⟨_,_,rfl,rfl,rfl⟩,rfl⟩,zsb,rfl,?_⟩
   rw[hch,h];rfl
  ·have h:r.2≠0:=by simp at h;omega
   refine zC4 ?_
   refine AW.cond Z (fun h2=>?_) (fun h2=>?_)
   ·have h2:r.2=12:=by simp at h2;omega
    refine zC4 ?_
    refine AW.ret ⟨_,[],⟨_,_,rfl,⟨_,_,rfl,rfl,rfl⟩,rfl⟩,zsb,rfl,?_⟩
    rw[hch,h2];rfl
   ·have h2:r.2≠12:=by simp at h2;omega
    refine zC4 ?_
    refine AW.ret ⟨_,[],⟨_,_,rfl,⟨_,_,rfl,rfl,rfl⟩,rfl⟩,zsb,rfl,?_⟩
    rw[hch,show Go.Sort.hintOf r.2=.unknown by rw[Go.Sort.hintOf,if_neg h,if_neg h2]];rfl
theorem kyPIns_spec(F:Frz){lt:Key→Key→Bool}{g:Nat}{first capt:List Value}(hc:CmpOk tKey lt F g first capt){a0:Option Addr}{m c:Nat}{B:List (Nat×Blk)}{d:Array Key}(hv:Vec tKey F a0 m c B d.toList)(a b:Nat)(hab:a<b)(hb:b≤m)(hm:m≤1000000) :
  Abs.Spec CC 139 [.slice a0 m c,.int .i64 a,.int .i64 b,.func (.func g) ⟨first⟩ ⟨capt⟩] F [B] fun F' v o=>∃B',o=[B']∧v=.bool (Go.Sort.partialInsertionSort lt d a b).2∧Vec tKey F' a0 m c B' (Go.Sort.partialInsertionSort lt d a b).1.toList:=by
 obtain⟨⟨fn,hg,hgb⟩,hcmp⟩:=hc
 refine Abs.Spec.fn (n:=141) Tryz.func139 rfl rfl fun own=>?_
 refine zC4 ?_
 refine AW.block ?_
 refine AW.loopR (S:=Nat×VS Key) (fun s=>[(10,.int .i64 (s.1:Nat)),(9,.int .i64 (s.2.i:Nat))]) (fun s=>s.2.B::own) (fun s G=>Vec tKey G a0 m c s.2.B s.2.d.toList∧s.1≤5∧a+1≤s.2.i∧s.2.i≤b∧Go.Sort.partialIns lt a b (5-s.1) s.2.i s.2.d=Go.Sort.partialInsertionSort lt d a b) (fun s=>5-s.1) (0,⟨a+1,d,B⟩)
  sM oR ⟨hv,Nat.zero_le _,Nat.le_refl _,hab,rfl⟩ ?_
 intro u F1 hF1 hP
 obtain⟨hv1,hk,hi1,hi2,heq⟩:=hP
 refine zC4 ?_
 refine AW.cond Z (fun h=>?_) (fun h=>?_)
 ·have h:u.1<5:=by simp at h;omega
  obtain⟨i2,hsc⟩:∃i2,Go.Sort.scanSorted lt u.2.d b u.2.i=i2:=⟨_,rfl⟩
  rw[show 5-u.1=(5-(u.1+1))+1 by omega,Go.Sort.partialIns_succ,hsc] at heq
  refine AW.skip ?_
  refine AW.seq ?_
  refine AW.block ?_
  refine AW.jn (S:=Unit) (fun _=>[(9,.int .i64 (i2:Nat))]) (fun _=>u.2.B::own) (fun _ _=>u.2.i≤i2∧i2≤b) ?_ (fun _ F2 hF2 hi2'=>?_)
  ·refine AW.block ?_
   refine AW.loopR (S:=Nat) (fun i=>[(9,.int .i64 (i:Nat))]) (fun _=>u.2.B::own) (fun i _=>u.2.i≤i∧i≤b∧Go.Sort.scanSorted lt u.2.d b i=i2) (fun i=>b-i) u.2.i sM oR ⟨Nat.le_refl _,hi2,hsc⟩ ?_
   intro i G hG hP
   obtain⟨j1,j2,j3⟩:=hP
   have hvG:=hv1.mono hG
   have hsz:m=u.2.d.size:=hv1.len
   refine zC4 ?_
   refine WT.split 22 Z (fun h=>?_) (fun h=>?_)
   ·have h:i<b:=by simp at h;omega
    refine zC4 ?_
    refine WT.vidx hT hvG Z Z Z Z Z Z Z Z Z zo (fun bl1 hbl1=>?_)
    refine WT.vldS hT 0 hvG hbl1 (arr_at zo) Z Z Z Z Z Z Z Z Z (fun l1 hl1=>?_)
    refine zC4 ?_
    refine WT.vidx hT hvG Z Z Z Z Z Z Z Z Z zo (fun bl2 hbl2=>?_)
    refine WT.vldS hT 0 hvG hbl2 (arr_at zo) Z Z Z Z Z Z Z Z Z (fun l2 hl2=>?_)
    refine WT.callC hg hgb Z Z Z Z Z Z Z (hcmp G (hF1.trans hG) l1 l2 _ _ hl1 hl2) (fun v hvz=>?_)
    obtain⟨z,rfl,hz⟩:=hvz
    refine zC4 ?_
    refine AW.cond Z (fun hc=>?_) (fun hc=>?_)
    ·have hlt:lt u.2.d[i]! u.2.d[i-1]! = false:=Bool.eq_false_iff.2 (fun hh=>absurd (hz.2 hh) (by simpa using hc))
     refine zC4 ?_
     refine AW.block ?_
     refine zC4 ?_
     refine⟨i+1,by omega,sM,OwnLe.refl _,by omega,by omega,?_⟩
     rw[←j3]
     conv=>rhs;rw[Go.Sort.scanSorted]
     rw[if_pos (by simp[h,hlt])]
    ·have hlt:=hz.1 (by simpa using hc)
     refine AW.exit ?_
     have e:i=i2:=by rw[←j3,Go.Sort.scanSorted,if_neg (by simp[hlt])]
     exact⟨(),SubK.of_map (by rw[e];rfl),OwnLe.refl _,by omega,by omega⟩
   ·have h:¬i<b:=by simp at h;omega
    refine zC4 ?_
    refine AW.cond Z (fun h=>(by cases h)) (fun _=>?_)
    refine AW.exit ?_
    have e:i=i2:=by rw[←j3,Go.Sort.scanSorted,if_neg (by simp[h])]
    exact⟨(),SubK.of_map (by rw[e];rfl),OwnLe.refl _,by omega,by omega⟩
  ·obtain⟨j1,j2⟩:=hi2'
   have hv2:=hv1.mono hF2
   have hsz:m=u.2.d.size:=hv1.len
   have hF2':=hF1.trans hF2
   refine zC4 ?_
   refine AW.cond Z (fun h=>?_) (fun h=>?_)
   ·have h:i2=b:=by simp at h;omega
    refine zC4 ?_
    refine AW.ret ⟨_,[_],⟨_,_,rfl,rfl,rfl⟩,zsb,_,rfl,?_,?_⟩
    ·rw[←heq,if_pos h];rfl
    ·rw[←heq,if_pos h];exact hv2
   ·have h:i2≠b:=by simp at h;omega
    rw[if_neg h] at heq
    refine zC4 ?_
    refine AW.cond Z (fun h5=>?_) (fun h5=>?_)
    ·have h5:b-a<50:=by simp at h5;omega
     refine zC4 ?_
     refine AW.ret ⟨_,[_],⟨_,_,rfl,rfl,rfl⟩,zsb,_,rfl,?_,?_⟩
     ·rw[←heq,if_pos h5];rfl
     ·rw[←heq,if_pos h5];exact hv2
    ·have h5:¬b-a<50:=by simp at h5;omega
     rw[if_neg h5] at heq
     refine zC4 ?_
     refine AW.draw (ps:=[(4,15)]) Z Z ?_
     refine zC4 ?_
     refine WT.vidx hT hv2 Z Z Z Z Z Z Z Z Z zo (fun bl3 hbl3=>?_)
     refine WT.vldS hT 0 hv2 hbl3 (arr_at zo) Z Z Z Z Z Z Z Z Z (fun l3 hl3=>?_)
     refine zC4 ?_
     refine WT.vidx hT hv2 Z Z Z Z Z Z Z Z Z zo (fun bl4 hbl4=>?_)
     refine WT.vldS hT 0 hv2 hbl4 (arr_at zo) Z Z Z Z Z Z Z Z Z (fun l4 hl4=>?_)
     refine WT.vidx hT hv2 Z Z Z Z Z Z Z Z Z zo (fun bl5 hbl5=>?_)
     refine WT.vst (y:=u.2.d[i2-1]!) hT 0 hv2 hbl5 (gE (by simp;omega)) Z Z Z Z Z hl3 Z (fun _=>rfl) Z (fun Bl5 hBl5=>?_)
     refine WT.vidx hT hBl5 Z Z Z Z Z Z Z Z Z zo (fun bl6 hbl6=>?_)
     refine WT.vst (y:=u.2.d[i2]!) hT 0 hBl5 hbl6 (gE (by simp;omega)) Z Z Z Z Z hl4 Z (fun _=>rfl) Z (fun Bl6 hBl6=>?_)
     rw[←swp_list] at hBl6
     obtain⟨d1,hd1⟩:∃d1,Go.Sort.swp u.2.d i2 (i2-1)=d1:=⟨_,rfl⟩
     rw[hd1] at heq hBl6
     refine zC4 ?_
     refine⟨zrC,?_⟩
     refine AW.jn (S:=VS Key) (fun _=>[]) (fun s=>s.B::own) (fun s G=>Vec tKey G a0 m c s.B s.d.toList∧s.d=Go.Sort.fixDown lt a i2 d1) ?_ (fun s F3 hF3 hP3=>?_)
     ·refine zC4 ?_
      refine AW.cond Z (fun h2=>?_) (fun h2=>?_)
      ·have h2:2≤i2-a:=by simp at h2;omega
       rw[Go.Sort.fixDown,if_pos h2]
       refine zC4 ?_
       refine AW.block ?_
       refine AW.loopR (S:=VS Key) (fun s=>[(11,.int .i64 (s.i:Nat))]) (fun s=>s.B::own) (fun s G=>Vec tKey G a0 m c s.B s.d.toList∧s.i<m∧Go.Sort.shiftDown lt s.i s.d=Go.Sort.shiftDown lt (i2-1) d1) (fun s=>s.i) ⟨i2-1,d1,Bl6⟩ sM oR ⟨hBl6,by dsimp only;omega,rfl⟩ ?_
       intro w G hG hP4
       obtain⟨hw,hwi,hwe⟩:=hP4
       have hszw:m=w.d.size:=hw.len
       refine zC4 ?_
       refine AW.cond Z (fun h3=>?_) (fun h3=>?_)
       ·have h3:1≤w.i:=by simp at h3;omega
        have one:Go.Sort.shiftDown lt w.i w.d=if lt w.d[w.i]! w.d[w.i-1]! = true then Go.Sort.shiftDown lt (w.i-1) (Go.Sort.swp w.d w.i (w.i-1)) else w.d:=by
         cases hi:w.i with
         | zero=>omega
         | succ k=>
          rw[Go.Sort.shiftDown,Nat.add_sub_cancel]
          cases lt w.d[k+1]! w.d[k]!<;>simp
        refine zC4 ?_
        refine AW.block ?_
        refine zC4 ?_
        refine WT.vidx hT hw Z Z Z Z Z Z Z Z Z zo (fun bl7 hbl7=>?_)
        refine WT.vldS hT 0 hw hbl7 (arr_at zo) Z Z Z Z Z Z Z Z Z (fun l7 hl7=>?_)
        refine zC4 ?_
        refine WT.vidx hT hw Z Z Z Z Z Z Z Z Z zo (fun bl8 hbl8=>?_)
        refine WT.vldS hT 0 hw hbl8 (arr_at zo) Z Z Z Z Z Z Z Z Z (fun l8 hl8=>?_)
        refine WT.callC hg hgb Z Z Z Z Z Z Z (hcmp G (hF2'.trans hG) l7 l8 _ _ hl7 hl8) (fun v hvz=>?_)
        obtain⟨z,rfl,hz⟩:=hvz
        refine zC4 ?_
        refine AW.cond Z (fun hc=>?_) (fun hc=>?_)
        ·have hlt:lt w.d[w.i]! w.d[w.i-1]! = false:=Bool.eq_false_iff.2 (fun hh=>absurd (hz.2 hh) (by simpa using hc))
         refine AW.exit ?_
         refine⟨⟨0,w.d,w.B⟩,sM,OwnLe.refl _,hw,?_⟩
         rw[←hwe,one,if_neg (by rw[hlt];decide)]
        ·have hlt:=hz.1 (by simpa using hc)
         refine zC4 ?_
         refine AW.draw (ps:=[(4,15)]) Z Z ?_
         refine zC4 ?_
         refine WT.vidx hT hw Z Z Z Z Z Z Z Z Z zo (fun bl9 hbl9=>?_)
         refine WT.vldS hT 0 hw hbl9 (arr_at zo) Z Z Z Z Z Z Z Z Z (fun l9 hl9=>?_)
         refine zC4 ?_
         refine WT.vidx hT hw Z Z Z Z Z Z Z Z Z zo (fun bl10 hbl10=>?_)
         refine WT.vldS hT 0 hw hbl10 (arr_at zo) Z Z Z Z Z Z Z Z Z (fun l10 hl10=>?_)
         refine WT.vidx hT hw Z Z Z Z Z Z Z Z Z zo (fun bl11 hbl11=>?_)
         refine WT.vst (y:=w.d[w.i-1]!) hT 0 hw hbl11 (gE (by simp;omega)) Z Z Z Z Z hl9 Z (fun _=>rfl) Z (fun Bl11 hBl11=>?_)
         refine WT.vidx hT hBl11 Z Z Z Z Z Z Z Z Z zo (fun bl12 hbl12=>?_)
         refine WT.vst (y:=w.d[w.i]!) hT 0 hBl11 hbl12 (gE (by simp;omega)) Z Z Z Z Z hl10 Z (fun _=>rfl) Z (fun Bl12 hBl12=>?_)
         rw[←swp_list] at hBl12
         refine zC4 ?_
         refine⟨zrC,?_⟩
         refine zC4 ?_
         refine⟨⟨w.i-1,Go.Sort.swp w.d w.i (w.i-1),Bl12⟩,by dsimp only;omega,sM,OwnLe.refl _,hBl12,by dsimp only;omega,?_⟩
         rw[←hwe,one,if_pos hlt]
       ·have h3:w.i=0:=by simp at h3;omega
        refine AW.exit ?_
        refine⟨⟨0,w.d,w.B⟩,sM,OwnLe.refl _,hw,?_⟩
        rw[←hwe,h3];rfl
      ·have h2:¬2≤i2-a:=by simp at h2;omega
       rw[Go.Sort.fixDown,if_neg h2]
       refine AW.skip ?_
       exact⟨⟨0,d1,Bl6⟩,sM,OwnLe.refl _,hBl6,rfl⟩
     ·obtain⟨hs,hsd⟩:=hP3
      have hszs:m=s.d.size:=hs.len
      have hF3':=hF2'.trans hF3
      rw[←hsd] at heq
      refine zC4 ?_
      refine AW.cond Z (fun h2=>?_) (fun h2=>?_)
      ·have h2:2≤b-i2:=by simp at h2;omega
       rw[Go.Sort.fixUp,if_pos h2] at heq
       refine zC4 ?_
       refine AW.block ?_
       refine AW.loopR (S:=VS Key) (fun s=>[(12,.int .i64 (s.i:Nat))]) (fun s=>s.B::own) (fun w G=>Vec tKey G a0 m c w.B w.d.toList∧i2+1≤w.i∧Go.Sort.shiftUp lt b w.i w.d=Go.Sort.shiftUp lt b (i2+1) s.d) (fun s=>b-s.i) ⟨i2+1,s.d,s.B⟩ sM oR ⟨hs,Nat.le_refl _,rfl⟩ ?_
       intro w G hG hP4
       obtain⟨hw,hwi,hwe⟩:=hP4
       have hszw:m=w.d.size:=hw.len
       refine zC4 ?_
       refine AW.cond Z (fun h3=>?_) (fun h3=>?_)
       ·have h3:w.i<b:=by simp at h3;omega
        have one:Go.Sort.shiftUp lt b w.i w.d=if lt w.d[w.i]! w.d[w.i-1]! = true then Go.Sort.shiftUp lt b (w.i+1) (Go.Sort.swp w.d w.i (w.i-1)) else w.d:=by
         conv=>lhs;rw[Go.Sort.shiftUp]
         rw[if_pos h3]
         cases lt w.d[w.i]! w.d[w.i-1]!<;>simp
        refine zC4 ?_
        refine AW.block ?_
        refine zC4 ?_
        refine WT.vidx hT hw Z Z Z Z Z Z Z Z Z zo (fun bl7 hbl7=>?_)
        refine WT.vldS hT 0 hw hbl7 (arr_at zo) Z Z Z Z Z Z Z Z Z (fun l7 hl7=>?_)
        refine zC4 ?_
        refine WT.vidx hT hw Z Z Z Z Z Z Z Z Z zo (fun bl8 hbl8=>?_)
        refine WT.vldS hT 0 hw hbl8 (arr_at zo) Z Z Z Z Z Z Z Z Z (fun l8 hl8=>?_)
        refine WT.callC hg hgb Z Z Z Z Z Z Z (hcmp G (hF3'.trans hG) l7 l8 _ _ hl7 hl8) (fun v hvz=>?_)
        obtain⟨z,rfl,hz⟩:=hvz
        refine zC4 ?_
        refine AW.cond Z (fun hc=>?_) (fun hc=>?_)
        ·have hlt:lt w.d[w.i]! w.d[w.i-1]! = false:=Bool.eq_false_iff.2 (fun hh=>absurd (hz.2 hh) (by simpa using hc))
         refine AW.exit ?_
         refine zC4 ?_
         refine⟨(u.1+1,⟨i2,w.d,w.B⟩),by dsimp only;omega,sM,OwnLe.refl _,hw,by dsimp only;omega,by dsimp only;omega,j2,?_⟩
         rw[←heq,←hwe,one,if_neg (by rw[hlt];decide)]
        ·have hlt:=hz.1 (by simpa using hc)
         refine zC4 ?_
         refine AW.draw (ps:=[(4,15)]) Z Z ?_
         refine zC4 ?_
         refine WT.vidx hT hw Z Z Z Z Z Z Z Z Z zo (fun bl9 hbl9=>?_)
         refine WT.vldS hT 0 hw hbl9 (arr_at zo) Z Z Z Z Z Z Z Z Z (fun l9 hl9=>?_)
         refine zC4 ?_
         refine WT.vidx hT hw Z Z Z Z Z Z Z Z Z zo (fun bl10 hbl10=>?_)
         refine WT.vldS hT 0 hw hbl10 (arr_at zo) Z Z Z Z Z Z Z Z Z (fun l10 hl10=>?_)
         refine WT.vidx hT hw Z Z Z Z Z Z Z Z Z zo (fun bl11 hbl11=>?_)
         refine WT.vst (y:=w.d[w.i-1]!) hT 0 hw hbl11 (gE (by simp;omega)) Z Z Z Z Z hl9 Z (fun _=>rfl) Z (fun Bl11 hBl11=>?_)
         refine WT.vidx hT hBl11 Z Z Z Z Z Z Z Z Z zo (fun bl12 hbl12=>?_)
         refine WT.vst (y:=w.d[w.i]!) hT 0 hBl11 hbl12 (gE (by simp;omega)) Z Z Z Z Z hl10 Z (fun _=>rfl) Z (fun Bl12 hBl12=>?_)
         rw[←swp_list] at hBl12
         refine zC4 ?_
         refine⟨zrC,?_⟩
         refine zC4 ?_
         refine⟨⟨w.i+1,Go.Sort.swp w.d w.i (w.i-1),Bl12⟩,by dsimp only;omega,sM,OwnLe.refl _,hBl12,by dsimp only;omega,?_⟩
         rw[←hwe,one,if_pos hlt]
       ·have h3:¬w.i<b:=by simp at h3;omega
        refine AW.exit ?_
        refine zC4 ?_
        refine⟨(u.1+1,⟨i2,w.d,w.B⟩),by dsimp only;omega,sM,OwnLe.refl _,hw,by dsimp only;omega,by dsimp only;omega,j2,?_⟩
        rw[←heq,←hwe,Go.Sort.shiftUp,if_neg h3]
      ·have h2:¬2≤b-i2:=by simp at h2;omega
       rw[Go.Sort.fixUp,if_neg h2] at heq
       refine zC4 ?_
       exact⟨(u.1+1,⟨i2,s.d,s.B⟩),by dsimp only;omega,sM,OwnLe.refl _,hs,by dsimp only;omega,by dsimp only;omega,j2,heq⟩
 ·have h:u.1=5:=by simp at h;omega
  refine AW.exit ?_
  refine zC4 ?_
  rw[h] at heq
  refine AW.ret ⟨_,[_],⟨_,_,rfl,rfl,rfl⟩,zsb,_,rfl,?_,?_⟩
  ·rw[←heq];rfl
  ·rw[←heq];exact hv1
theorem kyBreak_spec(F:Frz){cv:Value}{a0:Option Addr}{m c:Nat}{B:List (Nat×Blk)}{d:Array Key}(hv:Vec tKey F a0 m c B d.toList)(a b:Nat)(hab:a+13≤b)(hb:b≤m)(hm:m≤1000000) :
  Abs.Spec CC 136 [.slice a0 m c,.int .i64 a,.int .i64 b,cv] F [B] fun F' v o=>∃B',o=[B']∧Vec tKey F' a0 m c B' (Go.Sort.breakPatterns d a b).toList:=by
 obtain⟨l,hl⟩:∃l,b-a=l:=⟨_,rfl⟩
 obtain⟨e,he⟩:∃e,l / 4=e:=⟨_,rfl⟩
 obtain⟨p2,hp2⟩:∃p,2 ^ Go.Sort.bitsLen l=p:=⟨_,rfl⟩
 have h1p:=Go.Sort.two_pow_bitsLen_le (n:=l) zo
 have h2p:=Go.Sort.lt_two_pow_bitsLen l
 rw[hp2] at h1p h2p
 have hbr:Go.Sort.breakPatterns d a b=(bsN a l p2 (a+e*2-1) (UInt64.ofNat l,d) 3).2:=by
  unfold Go.Sort.breakPatterns
  simp only[hl]
  rw[if_pos zo,he,Nat.one_shiftLeft,hp2]
  rfl
 refine Abs.Spec.fn (n:=67) Tryz.func136 rfl rfl fun own=>?_
 refine zC4 ?_
 rw[hl]
 refine AW.cond Z (fun _=>?_) (fun h=>(by simp at h;omega))
 refine zC4 ?_
 refine WT.conv hT (k2:=.u64) Z Z Z Z Z Z Z Z (wrapU64 zo) ?_
 refine WT.allocT hT Z Z Z Z Z Z (fun i9 hi9=>?_)
 refine zC4 ?_
 refine WT.callV Tryz.func156 Z Z Z Z Z Z (npow_spec _ l zo) (fun v hv'=>?_)
 rw[hp2] at hv'
 subst hv'
 refine zC4 ?_
 refine WT.quoL 4 Z Z Z Z Z Z (by decide) zo ?_
 rw[he]
 refine WT.mulL 2 Z Z Z Z Z Z zo ?_
 refine zC4 ?_
 refine AW.block ?_
 refine AW.loopR (S:=VS Key) (fun s=>[(11,.int .i64 ((a+e*2-1+s.i:Nat):Int))]) (fun s=>[(i9,.cells false [.int .u64 ((bsN a l p2 (a+e*2-1) (UInt64.ofNat l,d) s.i).1.toNat:Nat)])]::s.B::own) (fun s G=>Vec tKey G a0 m c s.B s.d.toList∧s.i≤3∧s.d=(bsN a l p2 (a+e*2-1) (UInt64.ofNat l,d) s.i).2) (fun s=>3-s.i) ⟨0,d,B⟩
  sM (OwnLe.flat (List.Perm.of_eq ?_)) ⟨hv,Nat.zero_le _,rfl⟩ ?_
 ·rw[show (bsN a l p2 (a+e*2-1) (UInt64.ofNat l,d) 0).1.toNat=l from by
   show (UInt64.ofNat l).toNat=l
   rw[UInt64.toNat_ofNat']
   exact Nat.mod_eq_of_lt (by have : 2 ^ 64 = 18446744073709551616 := rfl
                              omega)]
  rfl
 intro u F2 hF2 hP2
 obtain⟨hv2,hi,heq⟩:=hP2
 have hsz:m=u.d.size:=hv2.len
 have hr64:=(bsN a l p2 (a+e*2-1) (UInt64.ofNat l,d) u.i).1.toNat_lt
 rw[show (2:Nat) ^ 64=18446744073709551616 from rfl] at hr64
 obtain⟨r,hr⟩:∃r,(bsN a l p2 (a+e*2-1) (UInt64.ofNat l,d) u.i).1.toNat=r:=⟨_,rfl⟩
 have hnext:(bsN a l p2 (a+e*2-1) (UInt64.ofNat l,d) (u.i+1)).1.toNat=Go.Sort.xorNextN r:=by
  rw[←hr,←Go.Sort.xorNext_toNat];rfl
 rw[hr] at hr64
 rw[hr]
 have hx64:=Go.Sort.xorNextN_lt r hr64
 obtain⟨o0,ho0⟩:∃o0,Go.Sort.xorNextN r &&& (p2-1)=o0:=⟨_,rfl⟩
 have ho1:o0≤p2-1:=by rw[←ho0];exact Nat.and_le_right
 have hswap:(bsN a l p2 (a+e*2-1) (UInt64.ofNat l,d) (u.i+1)).2=Go.Sort.swp u.d (a+e*2-1+u.i) (a+(if o0≥l then o0-l else o0)):=by
  show (Go.Sort.breakStep a l p2 (bsN a l p2 (a+e*2-1) (UInt64.ofNat l,d) u.i) (a+e*2-1+u.i)).2=_
  unfold Go.Sort.breakStep
  simp only[Go.Sort.xorNext_toNat,hr,ho0,←heq]
 have hel:e*4≤l:=by rw[←he];exact Nat.div_mul_le_self _ _
 have he3:3≤e:=by rw[←he];omega
 refine zC4 ?_
 refine WT.quoL 4 Z Z Z Z Z Z (by decide) zo ?_
 rw[he]
 refine WT.mulL 2 Z Z Z Z Z Z zo ?_
 refine zC4 ?_
 refine AW.cond Z (fun h=>?_) (fun h=>?_)
 ·have h:u.i<3:=by simp at h;omega
  refine zC4 ?_
  refine AW.block ?_
  refine zC4 ?_
  refine WT.call1F 0 Tryz.func157 Z Z Z Z Z Z Z (fun _=>rfl) (xorn_spec _ i9 r hr64) (fun F3 v B3 hF3 hv3=>?_)
  obtain⟨rfl,rfl⟩:=hv3
  have hv3:=hv2.mono hF3
  refine zC4 ?_
  refine WT.binV Z Z Z Z Z Z (by decide) (sub64 (x:=p2) (y:=1) zo zo) ?_
  refine WT.binV Z Z Z Z Z Z (by decide) (and64 hx64 zo) ?_
  rw[ho0]
  refine WT.conv hT (k2:=.i64) Z Z Z Z Z Z Z Z (wrap64 zo) ?_
  refine zC4 ?_
  refine AW.jnT (S:=Unit) (fun _=>[(12,.int .i64 ((if o0≥l then o0-l else o0:Nat):Int))]) (fun _=>[(i9,.cells false [.int .u64 (Go.Sort.xorNextN r:Nat)])]::u.B::own) (fun _ _=>True) ?_ (fun _ F4 hF4 _=>?_)
  ·refine AW.cond Z (fun h=>?_) (fun h=>?_)
   ·have h:l≤o0:=by simp at h;omega
    refine zC4 ?_
    refine⟨(),SubK.of_map (by rw[if_pos h];rfl),OwnLe.refl _,trivial⟩
   ·have h:¬l≤o0:=by simp at h;omega
    refine AW.skip ?_
    refine⟨(),SubK.of_map (by rw[if_neg h];rfl),OwnLe.refl _,trivial⟩
  ·obtain⟨o1,ho2⟩:∃o1,(if o0≥l then o0-l else o0)=o1:=⟨_,rfl⟩
   have ho3:o1<l:=by rw[←ho2];split<;>omega
   rw[ho2] at hswap ⊢
   have hv4:=hv3.mono hF4
   skip
   refine AW.draw (ps:=[(5,17)]) Z Z ?_
   refine zC4 ?_
   refine WT.vidx hT hv4 Z Z Z Z Z Z Z Z Z zo (fun bl3 hbl3=>?_)
   refine WT.vldS hT 1 hv4 hbl3 (arr_at zo) Z Z Z Z Z Z Z Z Z (fun l3 hl3=>?_)
   refine zC4 ?_
   refine WT.vidx hT hv4 Z Z Z Z Z Z Z Z Z zo (fun bl4 hbl4=>?_)
   refine WT.vldS hT 1 hv4 hbl4 (arr_at zo) Z Z Z Z Z Z Z Z Z (fun l4 hl4=>?_)
   refine WT.vidx hT hv4 Z Z Z Z Z Z Z Z Z zo (fun bl5 hbl5=>?_)
   refine WT.vst (y:=u.d[a+o1]!) hT 1 hv4 hbl5 (gE (by simp;omega)) Z Z Z Z Z hl3 Z (fun _=>rfl) Z (fun Bl5 hBl5=>?_)
   refine WT.vidx hT hBl5 Z Z Z Z Z Z Z Z Z zo (fun bl6 hbl6=>?_)
   refine WT.vst (y:=u.d[a+e*2-1+u.i]!) hT 1 hBl5 hbl6 (gE (by simp;omega)) Z Z Z Z Z hl4 Z (fun _=>rfl) Z (fun Bl6 hBl6=>?_)
   rw[←swp_list] at hBl6
   refine zC4 ?_
   refine⟨zrC,?_⟩
   refine zC4 ?_
   refine⟨⟨u.i+1,_,Bl6⟩,by dsimp only;omega,sM,OwnLe.flat (List.Perm.of_eq (by rw[hnext])),hBl6,by dsimp only;omega,hswap.symm⟩
 ·have h:u.i=3:=by simp at h;omega
  refine AW.exit ?_
  skip
  refine⟨_,[_],rfl,zsb,_,rfl,?_⟩
  rw[hbr,←h,←heq]
  exact hv2
theorem kyPdqR_spec{lt:Key→Key→Bool}{g:Nat}{first capt:List Value}:∀(N:Nat) (F:Frz) (hc:CmpOk tKey lt F g first capt) {a0:Option Addr} {m c:Nat} {B:List (Nat×Blk)} {d:Array Key} (hv:Vec tKey F a0 m c B d.toList) (a b limit:Nat) (hN:b-a<N) (hab:a≤b) (hb:b≤m) (hm:m≤1000000) (hlim:limit≤1000000),
  Abs.Spec CC 123 [.slice a0 m c,.int .i64 a,.int .i64 b,.int .i64 limit,.func (.func g) ⟨first⟩ ⟨capt⟩] F [B] fun F' v o=>∃B',o=[B']∧Vec tKey F' a0 m c B' (Go.Sort.pdq lt d a b limit true true).toList
 | 0,_,_,_,_,_,_,_,_,_,_,_,h,_,_,_,_=>absurd h (Nat.not_lt_zero _)
 | N+1,F,hc,a0,m,c,B,d,hv,a,b,limit,hN,hab,hb,hm,hlim=>by
  obtain⟨⟨fn,hg,hgb⟩,hcmp⟩:=id hc
  refine Abs.Spec.fn (n:=148) Tryz.func123 rfl rfl fun own=>?_
  refine zC4 ?_
  refine AW.block ?_
  refine AW.loopR (S:=PS Key) (fun s=>[(1,.int .i64 (s.a:Nat)),(2,.int .i64 (s.b:Nat)),(3,.int .i64 (s.lim:Nat)),(10,.bool s.wb),(11,.bool s.wp)]) (fun s=>s.B::own)
   (fun s G=>Vec tKey G a0 m c s.B s.d.toList∧s.a≤s.b∧s.b≤m∧s.b-s.a≤b-a∧s.lim≤1000000∧Go.Sort.pdq lt s.d s.a s.b s.lim s.wb s.wp=Go.Sort.pdq lt d a b limit true true) (fun s=>s.b-s.a) ⟨a,b,limit,true,true,d,B⟩
   sM oR ⟨hv,hab,hb,Nat.le_refl _,hlim,rfl⟩ ?_
  intro s F1 hF1 hP
  obtain⟨hv1,hab1,hb1,hle1,hlim1,heq⟩:=hP
  have hc1:=hc.mono hF1
  refine AW.block ?_
  refine zC4 ?_
  refine AW.cond Z (fun h=>?_) (fun h=>?_)
  ·have h:s.b-s.a≤12:=by simp at h;omega
   refine zC4 ?_
   refine WT.call1F 0 Tryz.func134 Z Z Z Z Z Z Z (fun _=>rfl) (kyIns_spec _ hc1 hv1 s.a s.b zo hb1 hm) (fun F2 v B2 hF2 hv2=>?_)
   refine zC4 ?_
   refine AW.ret ⟨_,[_],rfl,zsb,_,rfl,?_⟩
   rw[←heq,Go.Sort.pdq_small h];exact hv2
  ·have h:¬s.b-s.a≤12:=by simp at h;omega
   refine zC4 ?_
   refine AW.cond Z (fun h0=>?_) (fun h0=>?_)
   ·have h0:s.lim=0:=by simp at h0;omega
    refine zC4 ?_
    refine WT.call1F 0 Tryz.func135 Z Z Z Z Z Z Z (fun _=>rfl) (kyHeap_spec _ hc1 hv1 s.a s.b zo hb1 hm) (fun F2 v B2 hF2 hv2=>?_)
    refine zC4 ?_
    refine AW.ret ⟨_,[_],rfl,zsb,_,rfl,?_⟩
    rw[←heq,Go.Sort.pdq_heap h h0];exact hv2
   ·have h0:¬s.lim=0:=by simp at h0;omega
    obtain⟨R,hR⟩:∃R,Go.Sort.rd lt s.d s.a s.b s.lim s.wb s.wp=R:=⟨_,rfl⟩
    refine AW.skip ?_
    refine AW.jn (S:=VS Key) (fun t=>[(3,.int .i64 (t.i:Nat))]) (fun t=>t.B::own) (fun t G=>Vec tKey G a0 m c t.B t.d.toList∧t.i=R.lim∧t.d=R.d1) ?_ (fun t F2 hF2 hP2=>?_)
    ·refine zC4 ?_
     cases hwb:s.wb with
     | true=>
      refine AW.cond Z (fun h=>(by cases h)) (fun _=>?_)
      refine AW.skip ?_
      exact⟨⟨s.lim,s.d,s.B⟩,sM,OwnLe.refl _,hv1,by rw[←hR,hwb];rfl,by rw[←hR,hwb];rfl⟩
     | false=>
      refine AW.cond Z (fun _=>?_) (fun h=>(by cases h))
      refine zC4 ?_
      refine WT.call1F 0 Tryz.func136 Z Z Z Z Z Z Z (fun _=>rfl) (kyBreak_spec _ hv1 s.a s.b zo hb1 hm) (fun F2 v B2 hF2 hv2=>?_)
      refine zC4 ?_
      exact⟨⟨s.lim-1,_,B2⟩,sM,OwnLe.refl _,hv2,by rw[←hR,hwb];rfl,by rw[←hR,hwb];rfl⟩
    ·obtain⟨hv2,hlm,hd1⟩:=hP2
     have hc2:=hc1.mono hF2
     have hsz2:m=t.d.size:=hv2.len
     have hcc:Go.Sort.choosePivot lt t.d s.a s.b=R.c:=by rw[hd1,←hR];rfl
     have hcr:=Go.Sort.choosePivot_holds lt t.d s.a s.b zo
     rw[hcc] at hcr
     have hlim2:R.lim≤s.lim:=by rw[←hR];exact Go.Sort.rd_lim_le
     refine zC4 ?_
     refine WT.callLend 0 Tryz.func137 Z Z Z Z Z Z Z (fun G hG hBG=>kyPivot_spec G (hc2.mono hG) (hv2.arr hG hBG) s.a s.b zo hb1 hm) (fun v hv'=>?_)
     rw[hcc] at hv'
     subst hv'
     (iterate 5 (refine WT.easy hT Z Z Z Z Z ?_))
     refine WT.nil ?_
     refine AW.jn (S:=Nat×Go.Sort.Hint×VS Key) (fun u=>[(13,.int .i64 (u.1:Nat)),(14,.int .i64 (Go.Sort.hintCode u.2.1))]) (fun u=>u.2.2.B::own) (fun u G=>Vec tKey G a0 m c u.2.2.B u.2.2.d.toList∧u.1=R.pivot∧u.2.1=R.hint∧u.2.2.d=R.d2∧s.a≤u.1∧u.1<s.b) ?_ (fun u F3 hF3 hP3=>?_)
     ·refine zC4 ?_
      refine AW.cond Z (fun hh=>?_) (fun hh=>?_)
      ·have hdec:R.c.2=.decreasing:=by
        cases e:R.c.2 with
        | decreasing=>rfl
        | increasing=>rw[e] at hh;cases hh
        | unknown=>rw[e] at hh;cases hh
       obtain⟨q1,q2,q3⟩:=Go.Sort.rd_dec (lt:=lt) (d:=s.d) (a:=s.a) (b:=s.b) (limit:=s.lim) (wb:=s.wb) (wp:=s.wp) (by rw[hR];exact hdec)
       rw[hR] at q1 q2 q3
       refine zC4 ?_
       refine WT.call1F 0 Tryz.func138 Z Z Z Z Z Z Z (fun _=>rfl) (kyRev_spec _ hv2 s.a s.b zo hb1 hm) (fun F3 v B3 hF3 hv3=>?_)
       refine zC4 ?_
       refine⟨(s.b-1-(R.c.1-s.a),.increasing,⟨0,_,B3⟩),sM,OwnLe.refl _,hv3,q2.symm,q3.symm,(by rw[q1,hd1];rfl),by dsimp only;omega,by dsimp only;omega⟩
      ·have hdec:R.c.2≠.decreasing:=by intro e;rw[e] at hh;cases hh
       obtain⟨q1,q2,q3⟩:=Go.Sort.rd_not (lt:=lt) (d:=s.d) (a:=s.a) (b:=s.b) (limit:=s.lim) (wb:=s.wb) (wp:=s.wp) (by rw[hR];exact hdec)
       rw[hR] at q1 q2 q3
       refine AW.skip ?_
       exact⟨(R.c.1,R.c.2,⟨0,t.d,t.B⟩),sM,OwnLe.refl _,hv2,q2.symm,q3.symm,by rw[q1,hd1],hcr.1,hcr.2⟩
     ·obtain⟨hv3,hpv,hhint,hd2,hpa,hpb⟩:=hP3
      have hc3:=hc2.mono hF3
      have hno:(s.wb&&s.wp&&decide (R.hint=.increasing))=false→R.pi=(R.d2,false):=fun h=>by
       have:=Go.Sort.rd_pi_no (lt:=lt) (d:=s.d) (a:=s.a) (b:=s.b) (limit:=s.lim) (wb:=s.wb) (wp:=s.wp) (by rw[hR];exact h)
       rw[hR] at this;exact this
      have hyes:(s.wb&&s.wp&&decide (R.hint=.increasing))=true→R.pi=Go.Sort.partialInsertionSort lt R.d2 s.a s.b:=fun h=>by
       have:=Go.Sort.rd_pi_yes (lt:=lt) (d:=s.d) (a:=s.a) (b:=s.b) (limit:=s.lim) (wb:=s.wb) (wp:=s.wp) (by rw[hR];exact h)
       rw[hR] at this;exact this
      refine AW.jn (S:=VS Key) (fun _=>[]) (fun w=>w.B::own) (fun w G=>Vec tKey G a0 m c w.B w.d.toList∧R.pi=(w.d,false)) ?_ (fun w F4 hF4 hP4=>?_)
      ·refine AW.split 10 Z (fun hwb=>?_) (fun hwb=>?_)
       ·refine AW.split 11 Z (fun hwp=>?_) (fun hwp=>?_)
        ·refine zC4 ?_
         refine AW.cond Z (fun hh=>?_) (fun hh=>?_)
         ·have hinc:R.hint=.increasing:=by
           rw[←hhint]
           cases e:u.2.1 with
           | increasing=>rfl
           | decreasing=>rw[e] at hh;cases hh
           | unknown=>rw[e] at hh;cases hh
          have hpi:=hyes (by rw[hwb,hwp,hinc];rfl)
          refine zC4 ?_
          refine WT.call1F 0 Tryz.func139 Z Z Z Z Z Z Z (fun _=>rfl) (kyPIns_spec _ hc3 hv3 s.a s.b zo hb1 hm) (fun F4 v B4 hF4 hv4=>?_)
          obtain⟨rfl,hv4⟩:=hv4
          rw[hd2,←hpi] at hv4 ⊢
          refine zC4 ?_
          refine AW.cond Z (fun hp2=>?_) (fun hp2=>?_)
          ·have hp2:R.pi.2=true:=hp2
           refine AW.ret ⟨_,[_],rfl,zsb,_,rfl,?_⟩
           rw[←heq,Go.Sort.pdq_done h h0 (by rw[hR];exact hp2),hR];exact hv4
          ·have hp2:R.pi.2=false:=hp2
           refine AW.skip ?_
           exact⟨⟨0,R.pi.1,B4⟩,SubK.of_map (by rw[hwb,hwp];rfl),OwnLe.refl _,hv4,by rw[←hp2]⟩
         ·have hinc:R.hint≠.increasing:=by intro e;rw[←hhint] at e;rw[e] at hh;cases hh
          refine AW.skip ?_
          exact⟨⟨0,u.2.2.d,u.2.2.B⟩,SubK.of_map (by rw[hwb,hwp];rfl),OwnLe.refl _,hv3,by rw[hno (by simp[hinc]),hd2]⟩
        ·refine zC4 ?_
         refine AW.cond Z (fun hh=>(by cases hh)) (fun hh=>?_)
         refine AW.skip ?_
         exact⟨⟨0,u.2.2.d,u.2.2.B⟩,SubK.of_map (by rw[hwb,hwp];rfl),OwnLe.refl _,hv3,by rw[hno (by simp[hwp]),hd2]⟩
       ·refine zC4 ?_
        refine AW.cond Z (fun hh=>(by cases hh)) (fun hh=>?_)
        refine AW.skip ?_
        exact⟨⟨0,u.2.2.d,u.2.2.B⟩,SubK.of_map (by rw[hwb];rfl),OwnLe.refl _,hv3,by rw[hno (by simp[hwb]),hd2]⟩
      ·obtain⟨hv4,hpi⟩:=hP4
       have hc4:=hc3.mono hF4
       have hsz4:m=w.d.size:=hv4.len
       have hp2:(Go.Sort.rd lt s.d s.a s.b s.lim s.wb s.wp).pi.2=false:=by rw[hR,hpi]
       have hcm:=hc4.2
       refine AW.jn (S:=Unit) (fun _=>[]) (fun _=>w.B::own) (fun _ _=>(decide (s.a > 0)&&!lt w.d[s.a-1]! w.d[u.1]!)=false) ?_ (fun _ F5 hF5 hx=>?_)
       ·refine zC4 ?_
        refine WT.split 83 Z (fun ha0=>?_) (fun ha0=>?_)
        ·have ha0:0<s.a:=by simp at ha0;omega
         refine zC4 ?_
         refine WT.vidx hT hv4 Z Z Z Z Z Z Z Z Z zo (fun bl1 hbl1=>?_)
         refine WT.vldS hT 0 hv4 hbl1 (arr_at zo) Z Z Z Z Z Z Z Z Z (fun l1 hl1=>?_)
         refine zC4 ?_
         refine WT.vidx hT hv4 Z Z Z Z Z Z Z Z Z zo (fun bl2 hbl2=>?_)
         refine WT.vldS hT 0 hv4 hbl2 (arr_at zo) Z Z Z Z Z Z Z Z Z (fun l2 hl2=>?_)
         refine WT.callC hg hgb Z Z Z Z Z Z Z (hcm F4 (Frz.le.refl F4) l1 l2 _ _ hl1 hl2) (fun v hvz=>?_)
         obtain⟨z,rfl,hz⟩:=hvz
         refine zC4 ?_
         refine AW.cond Z (fun hq=>?_) (fun hq=>?_)
         ·have hlt:lt w.d[s.a-1]! w.d[u.1]! = false:=Bool.eq_false_iff.2 (fun hh=>absurd (hz.2 hh) (by simpa using hq))
          have hrange:=partEq_range lt w.d (a:=s.a) (b:=s.b) (p:=u.1) hpa hpb zo
          have e:=Go.Sort.pdq_eq (lt:=lt) h h0 hp2 (by rw[hR,hpi,←hpv];simp[ha0,hlt]) (by rw[hR,hpi,←hpv];exact hrange)
          rw[hR,hpi,←hpv,←hlm] at e
          obtain⟨pe,hpe⟩:∃pe,Go.Sort.partitionEqual lt w.d s.a s.b u.1=pe:=⟨_,rfl⟩
          rw[hpe] at hrange
          refine zC4 ?_
          refine WT.call1F 0 Tryz.func140 Z Z Z Z Z Z Z (fun _=>rfl) (kyPartEq_spec _ hc4 hv4 s.a s.b u.1 hpa hpb hb1 hm) (fun F5 v B5 hF5 hv5=>?_)
          obtain⟨rfl,hv5⟩:=hv5
          rw[hpe] at hv5 ⊢
          refine zC4 ?_
          refine AW.exit ?_
          refine⟨⟨pe.1,s.b,t.i,s.wb,s.wp,pe.2,B5⟩,by dsimp only;omega,sM,OwnLe.refl _,hv5,hrange.2,hb1,by dsimp only;omega,by dsimp only;omega,?_⟩
          rw[←heq,e,hpe]
         ·have hlt:=hz.1 (by simpa using hq)
          refine AW.skip ?_
          exact⟨(),sM,OwnLe.refl _,by rw[hlt];simp⟩
        ·have ha0:¬0<s.a:=by simp at ha0;omega
         refine zC4 ?_
         refine AW.cond Z (fun hq=>(by cases hq)) (fun hq=>?_)
         refine AW.skip ?_
         exact⟨(),sM,OwnLe.refl _,by simp[ha0]⟩
       ·have hv5:=hv4.mono hF5
        have hc5:=hc4.mono hF5
        have hrange:=part_range lt w.d (a:=s.a) (b:=s.b) (p:=u.1) hpa hpb zo
        have hx':(decide (s.a > 0)&&!lt (Go.Sort.rd lt s.d s.a s.b s.lim s.wb s.wp).pi.1[s.a-1]! (Go.Sort.rd lt s.d s.a s.b s.lim s.wb s.wp).pi.1[(Go.Sort.rd lt s.d s.a s.b s.lim s.wb s.wp).pivot]!)=false:=by rw[hR,hpi,←hpv];exact hx
        have hr':s.a≤(Go.Sort.partition lt (Go.Sort.rd lt s.d s.a s.b s.lim s.wb s.wp).pi.1 s.a s.b (Go.Sort.rd lt s.d s.a s.b s.lim s.wb s.wp).pivot).1∧(Go.Sort.partition lt (Go.Sort.rd lt s.d s.a s.b s.lim s.wb s.wp).pi.1 s.a s.b (Go.Sort.rd lt s.d s.a s.b s.lim s.wb s.wp).pivot).1<s.b:=by rw[hR,hpi,←hpv];exact hrange
        have eL:=Go.Sort.pdq_left (lt:=lt) h h0 hp2 hx' hr'
        have eR:=Go.Sort.pdq_right (lt:=lt) h h0 hp2 hx' hr'
        rw[hR,hpi,←hpv,←hlm] at eL eR
        obtain⟨pp,hpp⟩:∃pp,Go.Sort.partition lt w.d s.a s.b u.1=pp:=⟨_,rfl⟩
        simp only[hpp] at hrange eL eR
        refine zC4 ?_
        refine WT.call1F 0 Tryz.func141 Z Z Z Z Z Z Z (fun _=>rfl) (kyPart_spec _ hc5 hv5 s.a s.b u.1 hpa hpb hb1 hm) (fun F6 v B6 hF6 hv6=>?_)
        obtain⟨rfl,hv6⟩:=hv6
        rw[hpp] at hv6 ⊢
        have hc6:=hc5.mono hF6
        refine zC4 ?_
        refine WT.quoL 8 Z Z Z Z Z Z (by decide) zo ?_
        refine zC4 ?_
        refine AW.cond Z (fun hl=>?_) (fun hl=>?_)
        ·have hl:pp.1-s.a<s.b-pp.1:=by simp at hl;omega
         refine zC4 ?_
         refine WT.know (v':=.bool (decide (pp.1-s.a≥(s.b-s.a) / 8))) 10 Z (by congr 1;rw[decide_eq_decide];omega) ?_
         refine WT.call1F 0 Tryz.func123 Z Z Z Z Z Z Z (fun _=>rfl) (kyPdqR_spec N _ hc6 hv6 s.a pp.1 t.i zo hrange.1 zo hm zo) (fun F7 v B7 hF7 hv7=>?_)
         refine zC4 ?_
         refine⟨⟨pp.1+1,s.b,t.i,decide (pp.1-s.a≥(s.b-s.a) / 8),pp.2.1,_,B7⟩,by dsimp only;omega,sM,OwnLe.refl _,hv7,by dsimp only;omega,hb1,by dsimp only;omega,by dsimp only;omega,?_⟩
         rw[←heq,eL hl]
        ·have hl:¬pp.1-s.a<s.b-pp.1:=by simp at hl;omega
         refine zC4 ?_
         refine WT.know (v':=.bool (decide (s.b-pp.1≥(s.b-s.a) / 8))) 10 Z (by congr 1;rw[decide_eq_decide];omega) ?_
         refine WT.call1F 0 Tryz.func123 Z Z Z Z Z Z Z (fun _=>rfl) (kyPdqR_spec N _ hc6 hv6 (pp.1+1) s.b t.i zo zo hb1 hm zo) (fun F7 v B7 hF7 hv7=>?_)
         refine zC4 ?_
         refine⟨⟨s.a,pp.1,t.i,decide (s.b-pp.1≥(s.b-s.a) / 8),pp.2.1,_,B7⟩,by dsimp only;omega,sM,OwnLe.refl _,hv7,by dsimp only;omega,by dsimp only;omega,by dsimp only;omega,by dsimp only;omega,?_⟩
         rw[←heq,eR hl]
theorem kySort_spec(F:Frz){lt:Key→Key→Bool}{g:Nat}{first capt:List Value}(hc:CmpOk tKey lt F g first capt){a0:Option Addr}{m c:Nat}{B:List (Nat×Blk)}{xs:List Key}(hv:Vec tKey F a0 m c B xs)(hm:m≤1000000) :
  Abs.Spec CC 104 [.slice a0 m c,.func (.func g) ⟨first⟩ ⟨capt⟩] F [B] fun F' v o=>∃B',o=[B']∧Vec tKey F' a0 m c B' (Go.Sort.sort lt xs.toArray).toList:=by
 have hl:=hv.len
 have hb : Go.Sort.bitsLen m ≤ 20 := (Go.Sort.bitsLen_le_iff _ _).2 (by have : 2 ^ 20 = 1048576 := rfl
                                                                        omega)
 refine Abs.Spec.fn (n:=14) Tryz.func104 rfl rfl fun own=>?_
 refine zC4 ?_
 refine WT.conv hT (k2:=.u64) Z Z Z Z Z Z Z Z (wrapU64 zo) ?_
 refine WT.callV Tryz.func124 Z Z Z Z Z Z (blen_spec _ m zo) (fun v hv'=>?_)
 subst hv'
 refine zC4 ?_
 refine WT.call1F 0 Tryz.func123 Z Z Z Z Z Z Z (fun _=>rfl) (kyPdqR_spec (m+1) _ hc (d:=xs.toArray) hv 0 m (Go.Sort.bitsLen m) zo (Nat.zero_le _) (Nat.le_refl _) hm zo) (fun F7 v B7 hF7 hv7=>?_)
 refine zC4 ?_
 refine⟨_,[_],rfl,zsb,_,rfl,?_⟩
 rw[Go.Sort.sort,show xs.toArray.size=m from by simp[hl]]
 exact hv7
def ltKey(x y:Key):Bool:=decide (x.frm<y.frm∨(x.frm=y.frm∧(x.to<y.to∨(x.to=y.to∧cmpSym x.sym y.sym<0))))
theorem ltKey_iff{x y:Key}:ltKey x y=true↔(x.frm<y.frm∨(x.frm=y.frm∧(x.to<y.to∨(x.to=y.to∧cmpSym x.sym y.sym<0)))):=by unfold ltKey;exact decide_eq_true_iff
theorem ltKey_not{x y:Key}:ltKey x y=false↔¬(x.frm<y.frm∨(x.frm=y.frm∧(x.to<y.to∨(x.to=y.to∧cmpSym x.sym y.sym<0)))):=by unfold ltKey;exact decide_eq_false_iff_not
theorem cmpSym_lt(a b:Sym):cmpSym a b<0↔((a.term=true∧b.term=false)∨(a.term=b.term∧a.n<b.n)):=by
 obtain⟨at_,an⟩:=a
 obtain⟨bt,bn⟩:=b
 unfold cmpSym cmpInt
 cases at_<;>cases bt<;>simp<;>(repeat' split)<;>omega
theorem ltKey_swo:Go.Sort.SWO ltKey where
 irrefl:=fun x=>by rw[ltKey_not,cmpSym_lt];cases x.sym.term<;>simp
 trans:=fun x y z h1 h2=>by
  rw[ltKey_iff,cmpSym_lt] at *
  cases hx:x.sym.term<;>cases hy:y.sym.term<;>cases hz:z.sym.term<;>simp[hx,hy,hz] at h1 h2 ⊢<;>omega
 ntrans:=fun x y z h1 h2=>by
  rw[ltKey_not,cmpSym_lt] at *
  cases hx:x.sym.term<;>cases hy:y.sym.term<;>cases hz:z.sym.term<;>simp[hx,hy,hz] at h1 h2 ⊢<;>omega
theorem ltKey_anti(x y:Key)(h1:ltKey x y=false)(h2:ltKey y x=false):x=y:=by
 rw[ltKey_not,cmpSym_lt] at *
 obtain⟨⟨xt,xn⟩,xf,xo⟩:=x
 obtain⟨⟨yt,yn⟩,yf,yo⟩:=y
 simp only at h1 h2
 simp only[Key.mk.injEq,Sym.mk.injEq]
 cases xt<;>cases yt<;>simp at h1 h2 ⊢<;>omega
theorem cmpKey_lt(x y:Key):orInt [cmpInt x.frm y.frm,cmpInt x.to y.to,cmpSym x.sym y.sym]<0↔ltKey x y=true:=by
 rw[ltKey_iff]
 simp only[orInt]
 generalize cmpSym x.sym y.sym=z
 unfold cmpInt
 repeat' split
 all_goals omega
theorem keyOrder_spec(F:Frz)(x y:Key):Abs.Spec CC 105 [.agg ⟨[.bool x.sym.term,.int .i64 x.sym.n,.int .i64 x.frm,.int .i64 x.to]⟩,.agg ⟨[.bool y.sym.term,.int .i64 y.sym.n,.int .i64 y.frm,.int .i64 y.to]⟩] F [] fun _ v o=>o=[]∧v=.int .i64 (orInt [cmpInt x.frm y.frm,cmpInt x.to y.to,cmpSym x.sym y.sym]):=by
 refine Abs.Spec.fn (n:=22) Tryz.func105 rfl rfl fun own=>?_
 refine AW.seq (AW.reg ?_)
 refine WT.boxT Z Z Z Z Z Z (fun i2 hi2=>?_)
 refine WT.boxT Z Z Z Z Z Z (fun i3 hi3=>?_)
 refine zB4 ?_
 refine AW.draw (ps:=[(6,4),(8,4),(11,4),(11,9),(13,4),(13,9)]) Z Z ?_
 refine zB4 ?_
 refine WT.callV Tryz.func48 Z Z Z Z Z Z (compare_spec _ _ _) (fun v hv=>?_)
 subst hv
 refine zB4 ?_
 refine WT.callV Tryz.func48 Z Z Z Z Z Z (compare_spec _ _ _) (fun v hv=>?_)
 subst hv
 refine zB4 ?_
 refine WT.callV Tryz.func121 Z Z Z Z Z Z (order_spec _ x.sym y.sym) (fun v hv=>?_)
 subst hv
 skip
 refine WT.buildT hT Z Z Z Z Z Z Z Z Z Z Z Z Z Z (fun i9 hi9=>?_)
 refine WT.callLend 0 Tryz.func108 Z Z Z Z Z Z Z (fun G hG hBG=>or_spec G (l:=[cmpInt x.frm y.frm,cmpInt x.to y.to,cmpSym x.sym y.sym]) (Bld.frozen (F:=F) (B:=[(i9,.cells false [.int .i64 (cmpInt x.frm y.frm),.int .i64 (cmpInt x.to y.to),.int .i64 (cmpSym x.sym y.sym)])]) ⟨rfl,.inr ⟨i9,_,rfl,rfl,rfl,Cells.cons (l:=[_]) Z (Cells.cons (l:=[_]) Z (Cells.single (x:=cmpSym x.sym y.sym) rfl)),by decide⟩⟩ hG hBG) (by decide)) (fun v hv=>?_)
 subst hv
 refine zB4 ?_
 refine⟨zrC,?_⟩
 skip
 exact AW.ret ⟨_,[],⟨_,_,rfl,rfl,rfl⟩,zsb,rfl,rfl⟩
theorem keyOrder_cmp(F:Frz):CmpOk tKey ltKey F 105 [] []:=
 ⟨⟨_,Tryz.func105,rfl⟩,fun G _ lx ly x y hx hy=>by
  obtain rfl:lx=_:=hx
  obtain rfl:ly=_:=hy
  exact Spec.mono (keyOrder_spec G x y) (fun F' v o _ h=>⟨h.1,_,h.2,cmpKey_lt x y⟩)⟩
def cmpNats:List Nat→List Nat→Int
 | [],[]=>0
 | [],_::_=>-1
 | _::_,[]=>1
 | a::l,b::m=>if cmpInt a b=0 then cmpNats l m else cmpInt a b
theorem cmpNats_take:∀(j:Nat) (l m:List Nat),j≤l.length→j≤m.length→(∀i (h1:i<l.length) (h2:i<m.length),i<j→cmpInt l[i] m[i]=0)→cmpNats l m=cmpNats (l.drop j) (m.drop j)
 | 0,l,m,_,_,_=>by simp
 | j+1,[],m,h,_,_=>by simp at h
 | j+1,_::_,[],_,h,_=>by simp at h
 | j+1,a::l,b::m,h1,h2,h=>by
  have h0:=h 0 (by simp) (by simp) zo
  simp only[List.getElem_cons_zero] at h0
  simp only[cmpNats,h0,if_true,List.drop_succ_cons]
  exact cmpNats_take j l m (by simpa using h1) (by simpa using h2) (fun i h3 h4 h5=>h (i+1) (by simpa using h3) (by simpa using h4) zo)
theorem numCompare_spec(F:Frz){a b:Option Addr}{m n c d:Nat}{xs ys:List Nat}(hx:Arr tNat F a m c xs)(hy:Arr tNat F b n d ys)(hm:m≤1000000)(hn:n≤1000000) :
  Abs.Spec CC 12 [.slice a m c,.slice b n d] F [] fun _ v o=>o=[]∧v=.int .i64 (cmpNats xs ys):=by
 refine Abs.Spec.fn (n:=36) Tryz.func12 rfl rfl fun own=>?_
 have hxlen:=hx.len
 have hylen:=hy.len
 refine zB4 ?_
 refine AW.range (S:=Unit) (fun _=>[]) (fun _=>_) (fun j _ _=>j≤n∧∀i (h1:i<xs.length) (h2:i<ys.length),i<j→cmpInt xs[i] ys[i]=0) m () Z Z Z Z Z Z Z Z Z zo Z Z (fun _=>rfl) (fun _=>rfl) sM oR ⟨by omega,by omega⟩ ?_ ?_
 ·intro j _ F1 hF1 hj hP
  obtain⟨hjn,hP⟩:=hP
  have hx1:=hx.mono hF1
  have hy1:=hy.mono hF1
  refine zB4 ?_
  refine WT.idxL hT hx1 Z Z Z Z Z Z Z Z Z zo (fun x hxj b1 off ro cs lx hb hp hrel=>?_)
  obtain rfl:lx=_:=hrel
  refine zB4 ?_
  refine AW.cond Z (fun hc=>?_) (fun hc=>?_)
  ·have hc:n≤j:=by simp at hc;omega
   refine zB4 ?_
   refine AW.ret ⟨_,[],⟨_,_,rfl,rfl,rfl⟩,zsb,rfl,?_⟩
   rw[cmpNats_take j xs ys zo zo hP,List.drop_of_length_le (show ys.length≤j by omega),List.drop_eq_getElem_cons (show j<xs.length by omega)]
   rfl
  ·have hc:j<n:=by simp at hc;omega
   refine zB4 ?_
   refine WT.idxL hT hy1 Z Z Z Z Z Z Z Z Z zo (fun y hyj b2 off2 ro2 cs2 ly hb2 hp2 hrel2=>?_)
   obtain rfl:ly=_:=hrel2
   refine zB4 ?_
   refine WT.callV Tryz.func48 Z Z Z Z Z Z (compare_spec _ x y) (fun v hv=>?_)
   subst hv
   have ex:xs[j]'zo=x:=by rw[gE zo] at hxj;simpa using hxj
   have ey:ys[j]'zo=y:=by rw[gE zo] at hyj;simpa using hyj
   refine zB4 ?_
   refine AW.cond Z (fun hc2=>?_) (fun hc2=>?_)
   ·have hc2:cmpInt x y≠0:=by simpa using hc2
    refine zB4 ?_
    refine AW.ret ⟨_,[],⟨_,_,rfl,rfl,rfl⟩,zsb,rfl,?_⟩
    rw[cmpNats_take j xs ys zo zo hP,List.drop_eq_getElem_cons (show j<xs.length by omega),List.drop_eq_getElem_cons (show j<ys.length by omega)]
    simp[cmpNats,ex,ey,hc2,tupleA]
   ·have hc2:cmpInt x y=0:=by simpa using hc2
    refine zB4 ?_
    refine⟨(),sM,zow,by omega,fun i h1 h2 h3=>?_⟩
    rcases Nat.lt_or_ge i j with h4 | h4
    ·exact hP i h1 h2 h4
    ·have:i=j:=by omega
     subst this
     rw[ex,ey];exact hc2
 ·intro _ F1 hF1 hP
  obtain⟨hjn,hP⟩:=hP
  refine zB4 ?_
  have e:=cmpNats_take m xs ys zo zo hP
  rw[List.drop_of_length_le (show xs.length≤m by omega)] at e
  refine AW.cond Z (fun hc=>?_) (fun hc=>?_)
  ·have hc:m<n:=by simp at hc;omega
   refine zB4 ?_
   refine AW.ret ⟨_,[],⟨_,_,rfl,rfl,rfl⟩,zsb,rfl,?_⟩
   rw[e,List.drop_eq_getElem_cons (show m<ys.length by omega)];rfl
  ·have hc:m=n:=by simp at hc;omega
   refine zB4 ?_
   refine AW.ret ⟨_,[],⟨_,_,rfl,rfl,rfl⟩,zsb,rfl,?_⟩
   rw[e,List.drop_of_length_le (show ys.length≤m by omega)];rfl
end Go.Proofs.D