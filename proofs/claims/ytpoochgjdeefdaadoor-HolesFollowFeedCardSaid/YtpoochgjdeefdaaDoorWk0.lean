/-
  Walks: what functions of the program do, over the abstract machine.
-/
import Derived.Test.YtpoochgjdeefdaaDoorCtx
set_option linter.unusedVariables false
set_option maxRecDepth 20000
set_option maxHeartbeats 0
open Go Go.Abs Go.Proofs Go.Proofs.D
namespace Go.Proofs.D
theorem tmod_below(x m:Int)(hm:0<m):x % m=if x.tmod m<0 then x.tmod m+m else x.tmod m:=by
 rcases Int.le_total 0 x with h | h
 ·rw[Int.tmod_eq_emod_of_nonneg h,if_neg];have:=Int.emod_nonneg x (show m≠0 by omega);omega
 ·have h1:=Int.tmod_add_mul_tdiv x m
  have h2:x.tmod m≤0:=by have:=Int.tmod_nonneg m (show 0≤-x by omega);rw[Int.neg_tmod] at this;omega
  have h3:-m<x.tmod m:=by have:=Int.lt_tmod_of_pos x hm;omega
  split
  ·rename_i h4
   have:x=(x.tmod m+m)+m*(x.tdiv m-1):=by rw[Int.mul_sub];omega
   rw[show x % m=((x.tmod m+m)+m*(x.tdiv m-1)) % m by rw[←this],Int.add_mul_emod_self_left]
   exact Int.emod_eq_of_lt zo zo
  ·have h5:x.tmod m=0:=by omega
   rw[h5];exact Int.emod_eq_zero_of_dvd (Int.dvd_of_tmod_eq_zero h5)
def below(x:Int)(m:Nat):Nat:=(x % (m:Int)).toNat
theorem below_lt(x:Int){m:Nat}(h:0<m):below x m<m:=by
 unfold below
 have h1:=Int.emod_nonneg x (show (m:Int)≠0 by omega)
 have h2:=Int.emod_lt_of_pos x (show 0<(m:Int) by omega)
 omega
theorem below_spec(F:Frz)(x:Int)(m:Nat)(hm:0<m)(hm2:m≤9223372036854775807):Abs.Spec CC 29 [.int .i64 x,.int .i64 m] F [] fun _ v o=>o=[]∧v=.int .i64 (below x m:Nat):=by
 have e1:=tmod_below x m zo
 have e2:-(m:Int)<x.tmod m:=Int.lt_tmod_of_pos x zo
 have e3:(below x m:Int)=x % (m:Int):=by
  unfold below;exact Int.toNat_of_nonneg (Int.emod_nonneg x (show (m:Int)≠0 by omega))
 refine Abs.Spec.fn (n:=14) Tryd.func29 rfl rfl fun own=>?_
 refine zB4 ?_
 refine WT.remT Z Z Z Z Z Z zo ?_
 refine zB4 ?_
 refine AW.cond Z (fun hc=>?_) (fun hc=>?_)
 ·have hc:=of_decide_eq_true hc
  refine zB4 ?_
  refine AW.ret ⟨_,[],⟨_,_,rfl,rfl,rfl⟩,List.Sublist.refl _,rfl,?_⟩
  show Value.int .i64 _=_
  rw[e3,e1,if_pos hc]
 ·have hc:=of_decide_eq_false hc
  refine zB4 ?_
  refine AW.ret ⟨_,[],⟨_,_,rfl,rfl,rfl⟩,List.Sublist.refl _,rfl,?_⟩
  show Value.int .i64 _=_
  rw[e3,e1,if_neg hc]
def StreamB(F:Frz)(i:Nat)(B:List (Nat×Blk))(l:List Int):Prop:=∃a n c,B=[(i,.cells false [.slice a n c])]∧Arr tInt F a n c l
theorem StreamB.mono{F G:Frz}{i:Nat}{B:List (Nat×Blk)}{l:List Int}(h:StreamB F i B l)(hF:Frz.le F G):StreamB G i B l:=by
 obtain⟨a,n,c,e,h⟩:=h;exact⟨a,n,c,e,h.mono hF⟩
theorem next_spec(F:Frz)(i:Nat){B:List (Nat×Blk)}{l:List Int}(hl:StreamB F i B l)(m:Nat)(hm:0<m)(hm2:m≤9223372036854775807) :
  Abs.Spec CC 27 [.pointer (some ⟨i,0,none⟩),.int .i64 m] F [B] fun _ v o=>∃B',o=[B']∧∃r l',v=.int .i64 (r:Nat)∧r<m∧StreamB F i B' l':=by
 obtain⟨a,len,c,rfl,hl⟩:=hl
 refine Abs.Spec.fn (n:=29) Tryd.func27 rfl rfl fun own=>?_
 have hlen:=hl.len
 refine zB4 ?_
 refine AW.cond Z (fun hc=>?_) (fun hc=>?_)
 ·have h0:len=0:=by simpa using hc
  refine zB4 ?_
  exact AW.ret ⟨_,[_],⟨_,_,rfl,rfl,rfl⟩,List.Sublist.refl _,_,rfl,0,l,rfl,hm,a,len,c,rfl,hl⟩
 ·have h0:len≠0:=by simpa using hc
  have hlt:0<l.length:=by omega
  refine zB4 ?_
  refine WT.idxL (j:=0) hT hl Z Z Z Z Z Z Z Z Z hlt (fun x hx b off ro cs lx hb hp hrel=>?_)
  obtain rfl:lx=[.int .i64 x]:=hrel
  refine zB4 ?_
  obtain⟨a',c',hs,ha'⟩:=hl.slice (C:=CC) (lo:=1) (hi:=len) zo (Nat.le_refl _) hT (t:=22) Z Z Z (some (.int .i64 1)) none rfl rfl
  refine WT.slice Z Z Z Z Z Z Z Z hs ?_
  refine zB4 ?_
  refine WT.callV Tryd.func29 Z Z Z Z Z Z (below_spec _ x m hm hm2) (fun v hv=>?_)
  subst hv
  refine zB4 ?_
  exact AW.ret ⟨_,[_],⟨_,_,rfl,rfl,rfl⟩,List.Sublist.refl _,_,rfl,below x m,_,rfl,below_lt x hm,a',len-1,c',rfl,ha'⟩
theorem take_all{α:Type}{p:α→Prop}{l:List α}{j:Nat}{x:α}(hx:l[j]?=some x)(h:∀y∈l.take j,p y)(h1:p x):∀y∈l.take (j+1),p y:=by
 intro y hy
 rw[List.take_add_one,hx] at hy
 simp at hy
 rcases hy with hy | rfl
 ·exact h y hy
 ·exact h1
theorem has_spec(F:Frz){a:Option Addr}{m c:Nat}{rs:List Rule}(h:Arr tRule F a m c rs)(hm:m≤1000000){left:Nat}{b:Option Addr}{n d:Nat}{right:List Sym}(hr:Arr tSym F b n d right)(hn:n≤1000000) :
  Abs.Spec CC 28 [.slice a m c,.agg ⟨[.int .i64 left,.slice b n d]⟩] F [] fun F' v o=>o=[]∧v=.bool (decide (⟨left,right⟩∈rs)):=by
 refine Abs.Spec.fn (n:=52) Tryd.func28 rfl rfl fun own=>?_
 have hlen:=h.len
 have hrlen:=hr.len
 refine AW.seq (AW.reg ?_)
 refine WT.boxT Z Z Z Z Z Z (fun i0 hi0=>?_)
 refine zB4 ?_
 refine AW.range (S:=Unit) (fun _=>[]) (fun _=>_) (fun j _ _=>∀x∈rs.take j,x≠⟨left,right⟩) m () Z Z Z Z Z Z Z Z Z zo Z Z (fun _=>rfl) (fun _=>rfl) sM oR (by simp) ?_ ?_
 ·intro j _ F' hF hj hP
  have h:=h.mono hF
  have hr:=hr.mono hF
  refine zB4 ?_
  refine WT.idxL hT h Z Z Z Z Z Z Z Z Z zo (fun x hx b1 off ro cs lx hb hp hrel=>?_)
  obtain⟨b2,n2,d2,rfl,hx2⟩:=hrel
  have hx2len:=hx2.len
  refine zB4 ?_
  refine WT.allocT hT Z Z Z Z Z Z (fun i1 hi1=>?_)
  refine zB4 ?_
  have fin:x≠⟨left,right⟩→∀y∈rs.take (j+1),y≠⟨left,right⟩:=take_all hx hP
  refine WT.split 20 Z (fun hne=>?_) (fun hne=>?_)
  ·refine zB4 ?_
   refine AW.cond Z (fun _=>?_) (fun hc=>(by cases hc))
   refine AW.exit ⟨(),sM,zow,fin ?_⟩
   intro e;subst e;simp at hne
  ·refine zB4 ?_
   refine AW.cond Z (fun hc=>?_) (fun hc=>?_)
   ·refine AW.exit ⟨(),sM,zow,fin ?_⟩
    simp at hc;intro e;rw[e] at hx2len;simp at hx2len;omega
   ·have hc:n2=n:=by simp at hc;omega
    have hne:x.left=left:=by simp at hne;omega
    refine zB4 ?_
    refine AW.range (S:=Bool) (fun s=>[(7,.bool s)]) (fun _=>_) (fun j s _=>s=decide (x.right.take j=right.take j)) n2 true Z Z Z Z Z Z Z Z Z zo Z Z (fun _=>rfl) (fun _=>rfl) sM oR (by simp) ?_ ?_
    ·intro q s F'' hF2 hq hP2
     have hx2:=hx2.mono hF2
     have hr:=hr.mono hF2
     have hlt1:q<x.right.length:=by omega
     have hlt2:q<right.length:=by omega
     have tk:(x.right.take (q+1)=right.take (q+1))↔(x.right.take q=right.take q∧x.right[q]=right[q]):=by
      rw[List.take_add_one,List.take_add_one,gE hlt1,gE hlt2]
      constructor
      ·intro he
       have:=List.append_inj' he rfl
       simpa using this
      ·rintro⟨e1,e2⟩;rw[e1,e2]
     refine zB4 ?_
     refine WT.split 36 Z (fun hs=>?_) (fun hs=>?_)
     ·refine zB4 ?_
      refine WT.idxL hT hx2 Z Z Z Z Z Z Z Z Z hlt1 (fun y hy b3 off3 ro3 cs3 l3 hb3 hp3 hrel3=>?_)
      obtain rfl:=hrel3
      refine zB4 ?_
      refine WT.idxL hT hr Z Z Z Z Z Z Z Z Z hlt2 (fun z hz b4 off4 ro4 cs4 l4 hb4 hp4 hrel4=>?_)
      obtain rfl:=hrel4
      refine zB4 ?_
      refine⟨_,sM,zow,?_⟩
      rw[gE hlt1] at hy
      rw[gE hlt2] at hz
      cases hy;cases hz
      rw[hs] at hP2
      have:=sym_eq x.right[q] right[q]
      refine this.trans ?_
      have h1:=of_decide_eq_true hP2.symm
      simp[tk,h1]
     ·refine zB4 ?_
      refine⟨_,sM,zow,?_⟩
      rw[hs] at hP2
      have h1:=of_decide_eq_false hP2.symm
      simp[tk,h1]
    ·intro s F'' hF2 hs
     rw[List.take_of_length_le zo,List.take_of_length_le zo] at hs
     refine zB4 ?_
     refine AW.cond Z (fun hc=>?_) (fun hc=>?_)
     ·refine zB4 ?_
      refine AW.ret ⟨_,[],⟨_,_,rfl,rfl,rfl⟩,(List.sublist_cons_self ..).trans (List.sublist_cons_self ..),rfl,?_⟩
      rw[hc] at hs
      have e:=of_decide_eq_true hs.symm
      have:(⟨left,right⟩:Rule)∈rs:=by
       have:x=⟨left,right⟩:=by cases x;simp at hne e;simp[hne,e]
       rw[←this];exact gM hx
      simp[this,tupleA]
     ·refine zB4 ?_
      refine⟨(),sM,zow,fin ?_⟩
      rintro rfl
      rw[hc] at hs
      simp at hs
 ·intro _ F' hF hP
  refine zB4 ?_
  refine AW.ret ⟨_,[],⟨_,_,rfl,rfl,rfl⟩,List.sublist_cons_self ..,rfl,?_⟩
  rw[List.take_of_length_le zo] at hP
  have:(⟨left,right⟩:Rule)∉rs:=fun hm=>hP _ hm rfl
  simp[this,tupleA]
def SymOk(t n:Nat)(y:Sym):Prop:=if y.term=true then y.n<t else y.n<n
def RuleOk(t n:Nat)(r:Rule):Prop:=r.left<n∧r.right.length≤3∧∀y∈r.right,SymOk t n y
structure Small(g:Gram):Prop where
 terms:1≤g.terms∧g.terms≤3
 nons:1≤g.nons∧g.nons≤4
 start:g.start<g.nons
 rules:1≤g.rules.length∧g.rules.length≤8
 nodup:g.rules.Nodup
 ok:∀r∈g.rules,RuleOk g.terms g.nons r
structure GS where
 xs:List Rule
 a:Option Addr
 m:Nat
 c:Nat
 B:List (Nat×Blk)
 Bs:List (Nat×Blk)
structure GI where
 ys:List Sym
 a:Option Addr
 m:Nat
 c:Nat
 B:List (Nat×Blk)
 Bs:List (Nat×Blk)
theorem grammar_spec(F:Frz){a:Option Addr}{n c:Nat}{l:List Int}(hl:Arr tInt F a n c l) :
  Abs.Spec CC 7 [.slice a n c] F [] fun F' v o=>o=[]∧∃g,GramV F' v g∧Small g:=by
 refine Abs.Spec.fn (n:=72) Tryd.func7 rfl rfl fun own=>?_
 refine AW.seq (AW.reg ?_)
 refine WT.allocT hT Z Z Z Z Z Z (fun i2 hi2=>?_)
 refine zB4 ?_
 refine WT.boxT Z Z Z Z Z Z (fun i8 hi8=>?_)
 refine zB4 ?_
 refine WT.call1 (B:=[(i8,.cells false [.slice a n c])]) 0 Tryd.func27 Z Z Z Z Z Z Z (fun _=>rfl) (next_spec F i8 ⟨a,n,c,rfl,hl⟩ 3 (by decide) (by decide)) (fun v B1 hv=>?_)
 obtain⟨r1,l1,rfl,hr1,hs1⟩:=hv
 refine zB4 ?_
 refine WT.call1 0 Tryd.func27 Z Z Z Z Z Z Z (fun _=>rfl) (next_spec F i8 hs1 4 (by decide) (by decide)) (fun v B2 hv=>?_)
 obtain⟨r2,l2,rfl,hr2,hs2⟩:=hv
 refine zB4 ?_
 refine WT.allocT hT Z Z Z Z Z Z (fun i4 hi4=>?_)
 refine zB4 ?_
 refine WT.call1 1 Tryd.func27 Z Z Z Z Z Z Z (fun _=>rfl) (next_spec F i8 hs2 (1+r2) zo zo) (fun v B3 hv=>?_)
 obtain⟨r3,l3,rfl,hr3,hs3⟩:=hv
 refine zB4 ?_
 refine WT.call1 1 Tryd.func27 Z Z Z Z Z Z Z (fun _=>rfl) (next_spec F i8 hs3 8 (by decide) (by decide)) (fun v B4 hv=>?_)
 obtain⟨r4,l4,rfl,hr4,hs4⟩:=hv
 refine zB4 ?_
 refine AW.range (S:=GS) (fun _=>[]) (fun s=>[(i4,.cells false [.int .i64 (1+r1:Nat),.int .i64 (1+r2:Nat),.int .i64 r3,.slice s.a s.m s.c])]::s.B::s.Bs::[(i2,.cells false [.int .i64 0,.int .i64 0,.int .i64 0,.slice none 0 0])]::own)
  (fun j s G=>Bld tRule G s.a s.m s.c s.B s.xs∧(∃l,StreamB G i8 s.Bs l)∧(∀r∈s.xs,RuleOk (1+r1) (1+r2) r)∧s.xs.Nodup∧s.xs.length≤j∧(0<j→1≤s.xs.length)) (1+r4) ⟨[],none,0,0,[],B4⟩
  Z Z Z Z Z Z Z Z Z zo rfl rfl (fun _=>rfl) (fun _=>rfl) sM (OwnLe.flat (List.Perm.refl _)) ⟨Bld.nil_ _ _,⟨_,hs4⟩,by simp,by simp,by simp,by simp⟩ ?_ ?_
 ·intro j s F1 hF1 hj hP
  obtain⟨hb,⟨ls,hst⟩,hok,hnd,hlen,hpos⟩:=hP
  have hm1:=hb.len
  refine zB4 ?_
  refine WT.call1 2 Tryd.func27 Z Z Z Z Z Z Z (fun _=>rfl) (next_spec F1 i8 hst (1+r2) zo zo) (fun v B5 hv=>?_)
  obtain⟨r5,l5,rfl,hr5,hs5⟩:=hv
  refine zB4 ?_
  refine WT.allocT hT Z Z Z Z Z Z (fun i5 hi5=>?_)
  refine zB4 ?_
  refine WT.call1 3 Tryd.func27 Z Z Z Z Z Z Z (fun _=>rfl) (next_spec F1 i8 hs5 4 (by decide) (by decide)) (fun v B6 hv=>?_)
  obtain⟨r6,l6,rfl,hr6,hs6⟩:=hv
  refine zB4 ?_
  refine AW.range (S:=GI) (fun _=>[]) (fun s2=>[(i5,.cells false [.int .i64 r5,.slice s2.a s2.m s2.c])]::s2.B::[(i4,.cells false [.int .i64 (1+r1:Nat),.int .i64 (1+r2:Nat),.int .i64 r3,.slice s.a s.m s.c])]::s.B::s2.Bs::[(i2,.cells false [.int .i64 0,.int .i64 0,.int .i64 0,.slice none 0 0])]::own)
   (fun j s G=>Bld tSym G s.a s.m s.c s.B s.ys∧(∃l,StreamB G i8 s.Bs l)∧(∀y∈s.ys,SymOk (1+r1) (1+r2) y)∧s.ys.length=j) r6 ⟨[],none,0,0,[],B6⟩
   Z Z Z Z Z Z Z Z Z zo rfl rfl (fun _=>rfl) (fun _=>rfl) sM (OwnLe.flat (List.Perm.refl _)) ⟨Bld.nil_ _ _,⟨_,hs6⟩,by simp,by simp⟩ ?_ ?_
  ·intro q s2 F2 hF2 hq hP2
   obtain⟨hb2,⟨ls2,hst2⟩,hok2,hlen2⟩:=hP2
   have hm2:=hb2.len
   refine zB4 ?_
   refine WT.call1 4 Tryd.func27 Z Z Z Z Z Z Z (fun _=>rfl) (next_spec F2 i8 hst2 2 (by decide) (by decide)) (fun v B7 hv=>?_)
   obtain⟨r7,l7,rfl,hr7,hs7⟩:=hv
   refine zB4 ?_
   refine AW.cond Z (fun hc=>?_) (fun hc=>?_)
   ·refine AW.draw (ps:=[(1,5),(1,7)]) Z Z ?_
    refine zB4 ?_
    refine WT.call1 4 Tryd.func27 Z Z Z Z Z Z Z (fun _=>rfl) (next_spec F2 i8 hs7 (1+r1) zo zo) (fun v B8 hv=>?_)
    obtain⟨r8,l8,rfl,hr8,hs8⟩:=hv
    refine zB4 ?_
    refine WT.buildT hT Z Z Z Z Z Z Z Z Z Z Z Z Z Z (fun i9 hi9=>?_)
    refine WT.appendT (ys:=[⟨true,r8⟩]) hT 2 hb2 Z (fun _=>rfl) Z Z Z Z Z Z Z Z Z Z Z (fun h0 s0=>news_own hT s0 0 Z Z Z Z) (Cells.single (x:=(⟨true,r8⟩:Sym)) rfl) Z (by decide) zom (fun a3 c3 B3 hB3=>?_)
    refine zB4 ?_
    refine⟨zrC,?_⟩
    refine⟨⟨s2.ys++[⟨true,r8⟩],a3,s2.m+1,c3,B3,B8⟩,sM,zow,hB3,⟨_,hs8⟩,?_,by simp[hlen2]⟩
    intro y hy
    rcases List.mem_append.1 hy with hy | hy
    ·exact hok2 y hy
    ·obtain rfl:=List.mem_singleton.1 hy;exact hr8
   ·refine AW.draw (ps:=[(1,5),(1,7)]) Z Z ?_
    refine zB4 ?_
    refine WT.call1 4 Tryd.func27 Z Z Z Z Z Z Z (fun _=>rfl) (next_spec F2 i8 hs7 (1+r2) zo zo) (fun v B8 hv=>?_)
    obtain⟨r8,l8,rfl,hr8,hs8⟩:=hv
    refine zB4 ?_
    refine WT.buildT hT Z Z Z Z Z Z Z Z Z Z Z Z Z Z (fun i9 hi9=>?_)
    refine WT.appendT (ys:=[⟨false,r8⟩]) hT 2 hb2 Z (fun _=>rfl) Z Z Z Z Z Z Z Z Z Z Z (fun h0 s0=>news_own hT s0 0 Z Z Z Z) (Cells.single (x:=(⟨false,r8⟩:Sym)) rfl) Z (by decide) zom (fun a3 c3 B3 hB3=>?_)
    refine zB4 ?_
    refine⟨zrC,?_⟩
    refine⟨⟨s2.ys++[⟨false,r8⟩],a3,s2.m+1,c3,B3,B8⟩,sM,zow,hB3,⟨_,hs8⟩,?_,by simp[hlen2]⟩
    intro y hy
    rcases List.mem_append.1 hy with hy | hy
    ·exact hok2 y hy
    ·obtain rfl:=List.mem_singleton.1 hy;exact hr8
  ·intro s2 F2 hF2 hP2
   obtain⟨hb2,⟨ls2,hst2⟩,hok2,hlen2⟩:=hP2
   have hm2:=hb2.len
   refine AW.freezeAll 1 Z Z (fun F3 hF3 hB3=>?_)
   have hy:=hb2.frozen hF3 hB3
   have hb:=(hb.mono hF2).mono hF3
   have hst2:=hst2.mono hF3
   refine zB4 ?_
   refine WT.callLend 3 Tryd.func28 Z Z Z Z Z Z Z (fun G hG hBG=>has_spec G (left:=r5) (hb.frozen hG hBG) zom (hy.mono hG) zom) (fun v hv=>?_)
   subst hv
   refine zB4 ?_
   refine AW.cond Z (fun hc=>?_) (fun hc=>?_)
   ·refine zB4 ?_
    refine WT.buildT hT Z Z Z Z Z Z Z Z Z Z Z Z Z Z (fun i9 hi9=>?_)
    refine WT.appendT (ys:=[⟨r5,s2.ys⟩]) hT 4 hb Z (fun _=>rfl) Z Z Z Z Z Z Z Z Z Z Z (fun h0 s0=>news_own hT s0 0 Z Z Z Z) (Cells.single (R:=tRule) (x:=(⟨r5,s2.ys⟩:Rule)) ⟨_,_,_,rfl,hy⟩) Z (by decide) zom (fun a3 c3 B3 hB3=>?_)
    refine zB5 ?_
    refine⟨⟨s.xs++[⟨r5,s2.ys⟩],a3,s.m+1,c3,B3,s2.Bs⟩,sM,zow,hB3,⟨_,hst2⟩,?_,?_,?_,?_⟩
    ·intro r hr
     rcases List.mem_append.1 hr with hr | hr
     ·exact hok r hr
     ·obtain rfl:=List.mem_singleton.1 hr
      exact⟨by simp;omega,by simp;omega,hok2⟩
    ·rw[List.nodup_append]
     refine⟨hnd,by simp,fun x hx y hy=>?_⟩
     obtain rfl:=List.mem_singleton.1 hy
     rintro rfl
     simp[hx] at hc
    ·simp;omega
    ·simp
   ·refine zB4 ?_
    have hin:(⟨r5,s2.ys⟩:Rule)∈s.xs:=by simpa using hc
    refine⟨{ s with Bs:=s2.Bs },sM,zow,hb,⟨_,hst2⟩,hok,hnd,by dsimp only;omega,fun _=>List.length_pos_of_mem hin⟩
 ·intro s F1 hF1 hP
  obtain⟨hb,⟨ls,hst⟩,hok,hnd,hlen,hpos⟩:=hP
  refine AW.freezeAll 1 Z Z (fun F3 hF3 hB3=>?_)
  have hx:=hb.frozen hF3 hB3
  refine zB4 ?_
  have hx3:=hb.len
  refine AW.ret ⟨_,[],⟨_,_,⟨_,rfl,fun G h0 s0=>loadA_cells (s0.has (p:=3) Z me) (readT_ok hT rfl)⟩,rfl,rfl⟩,zsb,rfl,⟨1+r1,1+r2,r3,s.xs⟩,⟨_,_,_,rfl,hx⟩,?_⟩
  exact⟨by dsimp only;omega,by dsimp only;omega,hr3,by dsimp only;omega,hnd,hok⟩
theorem isNaN_spec(F:Frz)(x:Int):Abs.Spec CC 68 [.int .i64 x] F [] fun _ v o=>o=[]∧v=.bool false:=by
 refine Abs.Spec.fn (n:=6) Tryd.func68 rfl rfl fun own=>?_
 refine zB4 ?_
 exact AW.ret ⟨_,[],⟨_,_,rfl,rfl,rfl⟩,List.Sublist.refl _,rfl,by simp[tupleA]⟩
def cmpInt(x y:Int):Int:=if x<y then -1 else if x > y then 1 else 0
theorem compare_spec(F:Frz)(x y:Int):Abs.Spec CC 32 [.int .i64 x,.int .i64 y] F [] fun _ v o=>o=[]∧v=.int .i64 (cmpInt x y):=by
 refine Abs.Spec.fn (n:=20) Tryd.func32 rfl rfl fun own=>?_
 refine zB4 ?_
 refine WT.callV Tryd.func68 Z Z Z Z Z Z (isNaN_spec _ x) (fun v hv=>?_)
 subst hv
 refine zB4 ?_
 refine WT.callV Tryd.func68 Z Z Z Z Z Z (isNaN_spec _ y) (fun v hv=>?_)
 subst hv
 refine zB4 ?_
 refine AW.cond Z (fun hc=>(by cases hc)) (fun _=>?_)
 refine zB4 ?_
 refine AW.cond Z (fun hc=>(by cases hc)) (fun _=>?_)
 refine zB4 ?_
 refine AW.cond Z (fun hc=>?_) (fun hc=>?_)
 ·refine zB4 ?_
  exact AW.ret ⟨_,[],⟨_,_,rfl,rfl,rfl⟩,List.Sublist.refl _,rfl,by simp at hc;simp[tupleA,cmpInt,hc]⟩
 ·refine zB4 ?_
  refine AW.cond Z (fun hc2=>?_) (fun hc2=>?_)
  ·refine zB4 ?_
   exact AW.ret ⟨_,[],⟨_,_,rfl,rfl,rfl⟩,List.Sublist.refl _,rfl,by simp at hc hc2;simp[tupleA,cmpInt];omega⟩
  ·refine zB4 ?_
   exact AW.ret ⟨_,[],⟨_,_,rfl,rfl,rfl⟩,List.Sublist.refl _,rfl,by simp at hc hc2;simp[tupleA,cmpInt];omega⟩
def orInt:List Int→Int
 | []=>0
 | x::l=>if x=0 then orInt l else x
theorem orInt_take{l:List Int}{j:Nat}(h:∀y∈l.take j,y=0):orInt l=orInt (l.drop j):=by
 induction j generalizing l with
 | zero=>simp
 | succ j ih=>
  cases l with
  | nil=>simp
  | cons x l=>
   have hx:x=0:=h x (by simp)
   simp only[orInt,hx,if_true,List.drop_succ_cons]
   exact ih (fun y hy=>h y (by simp[hy]))
theorem or_spec(F:Frz){a:Option Addr}{m c:Nat}{l:List Int}(hl:Arr tInt F a m c l)(hm:m≤1000000):Abs.Spec CC 66 [.slice a m c] F [] fun _ v o=>o=[]∧v=.int .i64 (orInt l):=by
 refine Abs.Spec.fn (n:=18) Tryd.func66 rfl rfl fun own=>?_
 have hlen:=hl.len
 refine zB4 ?_
 refine AW.range (S:=Unit) (fun _=>[]) (fun _=>_) (fun j _ _=>∀y∈l.take j,y=0) m () Z Z Z Z Z Z Z Z Z zo Z Z (fun _=>rfl) (fun _=>rfl) sM oR (by simp) ?_ ?_
 ·intro j _ F1 hF1 hj hP
  have hl1:=hl.mono hF1
  refine zB4 ?_
  refine WT.idxL hT hl1 Z Z Z Z Z Z Z Z Z zo (fun x hx b1 off ro cs lx hb hp hrel=>?_)
  obtain rfl:lx=_:=hrel
  refine zB4 ?_
  refine AW.cond Z (fun hc=>?_) (fun hc=>?_)
  ·refine zB4 ?_
   refine AW.ret ⟨_,[],⟨_,_,rfl,rfl,rfl⟩,List.Sublist.refl _,rfl,?_⟩
   have hc:x≠0:=by simpa using hc
   rw[orInt_take hP,List.drop_eq_getElem_cons (show j<l.length by omega)]
   have:l[j]=x:=by rw[gE zo] at hx;simpa using hx
   simp[orInt,this,hc,tupleA]
  ·refine zB4 ?_
   have hc:x=0:=by simpa using hc
   exact⟨(),sM,zow,take_all hx hP hc⟩
 ·intro _ F1 hF1 hP
  refine zB4 ?_
  refine AW.ret ⟨_,[],⟨_,_,rfl,rfl,rfl⟩,List.Sublist.refl _,rfl,?_⟩
  rw[orInt_take hP,List.drop_of_length_le zo]
  rfl
def cmpSym(a b:Sym):Int:=if a.term=b.term then cmpInt a.n b.n else if a.term=true then -1 else 1
theorem order_spec(F:Frz)(a b:Sym):Abs.Spec CC 88 [.agg ⟨[.bool a.term,.int .i64 a.n]⟩,.agg ⟨[.bool b.term,.int .i64 b.n]⟩] F [] fun _ v o=>o=[]∧v=.int .i64 (cmpSym a b):=by
 refine Abs.Spec.fn (n:=17) Tryd.func88 rfl rfl fun own=>?_
 refine AW.seq (AW.reg ?_)
 refine WT.boxT Z Z Z Z Z Z (fun i1 hi1=>?_)
 refine WT.boxT Z Z Z Z Z Z (fun i2 hi2=>?_)
 refine zB4 ?_
 refine AW.cond Z (fun hc=>?_) (fun hc=>?_)
 ·have hc:a.term≠b.term:=by simpa using hc
  refine zB4 ?_
  refine AW.cond Z (fun hc2=>?_) (fun hc2=>?_)
  ·refine zB4 ?_
   refine AW.ret ⟨_,[],⟨_,_,rfl,rfl,rfl⟩,zsb,rfl,?_⟩
   rw[cmpSym,if_neg hc,if_pos hc2];rfl
  ·refine zB4 ?_
   refine AW.ret ⟨_,[],⟨_,_,rfl,rfl,rfl⟩,zsb,rfl,?_⟩
   rw[cmpSym,if_neg hc,if_neg (by simp[hc2])];rfl
 ·have hc:a.term=b.term:=by simpa using hc
  refine zB4 ?_
  refine WT.callV Tryd.func32 Z Z Z Z Z Z (compare_spec _ _ _) (fun v hv=>?_)
  subst hv
  refine zB4 ?_
  refine AW.ret ⟨_,[],⟨_,_,rfl,rfl,rfl⟩,zsb,rfl,?_⟩
  simp[cmpSym,hc,tupleA]
def cmpSyms:List Sym→List Sym→Int
 | [],[]=>0
 | [],_::_=>-1
 | _::_,[]=>1
 | a::l,b::m=>if cmpSym a b=0 then cmpSyms l m else cmpSym a b
theorem cmpSyms_take:∀(j:Nat) (l m:List Sym),j≤l.length→j≤m.length→(∀i (h1:i<l.length) (h2:i<m.length),i<j→cmpSym l[i] m[i]=0)→cmpSyms l m=cmpSyms (l.drop j) (m.drop j)
 | 0,l,m,_,_,_=>by simp
 | j+1,[],m,h,_,_=>by simp at h
 | j+1,_::_,[],_,h,_=>by simp at h
 | j+1,a::l,b::m,h1,h2,h=>by
  have h0:=h 0 (by simp) (by simp) zo
  simp only[List.getElem_cons_zero] at h0
  simp only[cmpSyms,h0,if_true,List.drop_succ_cons]
  exact cmpSyms_take j l m (by simpa using h1) (by simpa using h2) (fun i h3 h4 h5=>h (i+1) (by simpa using h3) (by simpa using h4) zo)
theorem compareFunc_spec(F:Frz){a b:Option Addr}{m n c d:Nat}{xs ys:List Sym}(hx:Arr tSym F a m c xs)(hy:Arr tSym F b n d ys)(hm:m≤1000000)(hn:n≤1000000) :
  Abs.Spec CC 87 [.slice a m c,.slice b n d,.func (.func 88) ⟨[]⟩ ⟨[]⟩] F [] fun _ v o=>o=[]∧v=.int .i64 (cmpSyms xs ys):=by
 refine Abs.Spec.fn (n:=39) Tryd.func87 rfl rfl fun own=>?_
 have hxlen:=hx.len
 have hylen:=hy.len
 refine zB4 ?_
 refine AW.range (S:=Unit) (fun _=>[]) (fun _=>_) (fun j _ _=>j≤n∧∀i (h1:i<xs.length) (h2:i<ys.length),i<j→cmpSym xs[i] ys[i]=0) m () Z Z Z Z Z Z Z Z Z zo Z Z (fun _=>rfl) (fun _=>rfl) sM oR ⟨by omega,by omega⟩ ?_ ?_
 ·intro j _ F1 hF1 hj hP
  obtain⟨hjn,hP⟩:=hP
  have hx1:=hx.mono hF1
  have hy1:=hy.mono hF1
  refine zB4 ?_
  refine WT.idxL hT hx1 Z Z Z Z Z Z Z Z Z zo (fun x hxj b1 off ro cs lx hb hp hrel=>?_)
  obtain rfl:lx=_:=hrel
  refine zB4 ?_
  refine WT.allocT hT Z Z Z Z Z Z (fun i1 hi1=>?_)
  refine zB4 ?_
  refine AW.cond Z (fun hc=>?_) (fun hc=>?_)
  ·have hc:n≤j:=by simp at hc;omega
   refine zB4 ?_
   refine AW.ret ⟨_,[],⟨_,_,rfl,rfl,rfl⟩,zsb,rfl,?_⟩
   rw[cmpSyms_take j xs ys zo zo hP,List.drop_of_length_le (show ys.length≤j by omega),List.drop_eq_getElem_cons (show j<xs.length by omega)]
   rfl
  ·have hc:j<n:=by simp at hc;omega
   refine zB4 ?_
   refine WT.idxL hT hy1 Z Z Z Z Z Z Z Z Z zo (fun y hyj b2 off2 ro2 cs2 ly hb2 hp2 hrel2=>?_)
   obtain rfl:ly=_:=hrel2
   refine zB4 ?_
   refine WT.allocT hT Z Z Z Z Z Z (fun i2 hi2=>?_)
   refine zB4 ?_
   refine WT.callC Tryd.func88 Z Z Z Z Z Z Z Z (order_spec _ x y) (fun v hv=>?_)
   subst hv
   have ex:xs[j]'zo=x:=by rw[gE zo] at hxj;simpa using hxj
   have ey:ys[j]'zo=y:=by rw[gE zo] at hyj;simpa using hyj
   refine zB4 ?_
   refine AW.cond Z (fun hc2=>?_) (fun hc2=>?_)
   ·have hc2:cmpSym x y≠0:=by simpa using hc2
    refine zB4 ?_
    refine AW.ret ⟨_,[],⟨_,_,rfl,rfl,rfl⟩,zsb,rfl,?_⟩
    rw[cmpSyms_take j xs ys zo zo hP,List.drop_eq_getElem_cons (show j<xs.length by omega),List.drop_eq_getElem_cons (show j<ys.length by omega)]
    simp[cmpSyms,ex,ey,hc2,tupleA]
   ·have hc2:cmpSym x y=0:=by simpa using hc2
    refine zB4 ?_
    refine⟨(),sM,zow,by omega,fun i h1 h2 h3=>?_⟩
    rcases Nat.lt_or_ge i j with h4 | h4
    ·exact hP i h1 h2 h4
    ·have:i=j:=by omega
     subst this
     rw[ex,ey];exact hc2
 ·intro _ F1 hF1 hP
  obtain⟨hjn,hP⟩:=hP
  refine zB4 ?_
  have e:=cmpSyms_take m xs ys zo zo hP
  rw[List.drop_of_length_le (show xs.length≤m by omega)] at e
  refine AW.cond Z (fun hc=>?_) (fun hc=>?_)
  ·have hc:m<n:=by simp at hc;omega
   refine zB4 ?_
   refine AW.ret ⟨_,[],⟨_,_,rfl,rfl,rfl⟩,zsb,rfl,?_⟩
   rw[e,List.drop_eq_getElem_cons (show m<ys.length by omega)];rfl
  ·have hc:m=n:=by simp at hc;omega
   refine zB4 ?_
   refine AW.ret ⟨_,[],⟨_,_,rfl,rfl,rfl⟩,zsb,rfl,?_⟩
   rw[e,List.drop_of_length_le (show ys.length≤m by omega)];rfl
def cmpRule(a b:Rule):Int:=orInt [cmpInt a.left b.left,cmpSyms a.right b.right]
theorem cmpInt_zero{x y:Int}:cmpInt x y=0↔x=y:=by unfold cmpInt;split<;>(try split)<;>omega
theorem cmpSym_zero{a b:Sym}:cmpSym a b=0↔a=b:=by
 obtain⟨s,n⟩:=a;obtain⟨t,m⟩:=b
 unfold cmpSym
 simp only[Sym.mk.injEq]
 by_cases h:s=t
 ·simp[h,cmpInt_zero];omega
 ·simp only[h,if_false,false_and,iff_false];split<;>decide
theorem cmpSyms_zero:∀(l m:List Sym),cmpSyms l m=0↔l=m
 | [],[]=>by simp[cmpSyms]
 | [],_::_=>by simp[cmpSyms]
 | _::_,[]=>by simp[cmpSyms]
 | a::l,b::m=>by
  simp only[cmpSyms,List.cons.injEq]
  by_cases h:cmpSym a b=0
  ·simp only[h,if_true,cmpSyms_zero l m];simp[cmpSym_zero.1 h]
  ·rw[if_neg h]
   constructor
   ·intro h2;exact absurd h2 h
   ·rintro⟨h2,_⟩;exact absurd (cmpSym_zero.2 h2) h
theorem cmpRule_zero{a b:Rule}:cmpRule a b=0↔a=b:=by
 obtain⟨x,l⟩:=a;obtain⟨y,m⟩:=b
 simp only[cmpRule,orInt,Rule.mk.injEq]
 by_cases h:cmpInt x y=0
 ·simp only[h,if_true]
  have h3:=cmpInt_zero.1 h
  have:x=y:=by omega
  simp only[this,true_and]
  have h2:=cmpSyms_zero l m
  split
  ·rename_i h4;simp[h2.1 h4]
  ·rename_i h4
   constructor
   ·intro h5;exact absurd h5 h4
   ·intro h5;exact absurd (h2.2 h5) h4
 ·rw[if_neg h]
  constructor
  ·intro h2;exact absurd h2 h
  ·rintro⟨h2,_⟩
   exact absurd (cmpInt_zero.2 (by rw[h2])) h
theorem compareRule_spec(F:Frz)(x y:Rule){a b:Option Addr}{m n c d:Nat}(hx:Arr tSym F a m c x.right)(hy:Arr tSym F b n d y.right)(hm:m≤1000000)(hn:n≤1000000) :
  Abs.Spec CC 60 [.agg ⟨[.int .i64 x.left,.slice a m c]⟩,.agg ⟨[.int .i64 y.left,.slice b n d]⟩] F [] fun _ v o=>o=[]∧v=.int .i64 (cmpRule x y):=by
 refine Abs.Spec.fn (n:=17) Tryd.func60 rfl rfl fun own=>?_
 refine AW.seq (AW.reg ?_)
 refine WT.boxT Z Z Z Z Z Z (fun i1 hi1=>?_)
 refine WT.boxT Z Z Z Z Z Z (fun i2 hi2=>?_)
 refine zB4 ?_
 refine AW.draw (ps:=[(6,4),(8,4)]) Z Z ?_
 refine zB4 ?_
 refine WT.callV Tryd.func32 Z Z Z Z Z Z (compare_spec _ _ _) (fun v hv=>?_)
 subst hv
 refine zB4 ?_
 refine WT.callV Tryd.func87 Z Z Z Z Z Z (compareFunc_spec _ hx hy hm hn) (fun v hv=>?_)
 subst hv
 skip
 refine WT.buildT hT Z Z Z Z Z Z Z Z Z Z Z Z Z Z (fun i9 hi9=>?_)
 refine WT.callLend 0 Tryd.func66 Z Z Z Z Z Z Z (fun G hG hBG=>or_spec G (l:=[cmpInt x.left y.left,cmpSyms x.right y.right]) (Bld.frozen (F:=F) (B:=[(i9,.cells false [.int .i64 (cmpInt x.left y.left),.int .i64 (cmpSyms x.right y.right)])]) ⟨rfl,.inr ⟨i9,_,rfl,rfl,rfl,Cells.cons (l:=[_]) Z (Cells.single (x:=cmpSyms x.right y.right) rfl),by decide⟩⟩ hG hBG) (by decide)) (fun v hv=>?_)
 subst hv
 refine zB4 ?_
 refine⟨zrC,?_⟩
 skip
 exact AW.ret ⟨_,[],⟨_,_,rfl,rfl,rfl⟩,zsb,rfl,rfl⟩
def idxOf{α:Type}(p:α→Bool):List α→Int
 | []=>-1
 | x::l=>if p x=true then 0 else if idxOf p l=-1 then -1 else idxOf p l+1
theorem idxOf_ge{α:Type}(p:α→Bool):∀l:List α,-1≤idxOf p l
 | []=>by simp[idxOf]
 | x::l=>by have:=idxOf_ge p l;simp only[idxOf];split<;>(try split)<;>omega
theorem idxOf_take{α:Type}{p:α→Bool}:∀{l:List α} {j:Nat},j≤l.length→(∀y∈l.take j,p y=false)→idxOf p l=if idxOf p (l.drop j)=-1 then -1 else idxOf p (l.drop j)+j
 | l,0,_,_=>by simp
 | [],j+1,h,_=>by simp at h
 | x::l,j+1,h,h2=>by
  have hx:p x=false:=h2 x (by simp)
  have ih:=@idxOf_take α p l j (by simpa using h) (fun y hy=>h2 y (by simp[hy]))
  have:=idxOf_ge p (l.drop j)
  simp only[idxOf,hx,List.drop_succ_cons]
  rw[ih]
  by_cases h3:idxOf p (l.drop j)=-1
  ·simp[h3]
  ·simp only[h3,if_false]
   rw[if_neg (by simp),if_neg zo]
   omega
theorem idxOf_nonneg'{α:Type}{p:α→Bool}:∀{l:List α},0≤idxOf p l↔l.any p=true
 | []=>by simp[idxOf]
 | x::l=>by
  have ih:=@idxOf_nonneg' α p l
  have:=idxOf_ge p l
  simp only[idxOf,List.any_cons,Bool.or_eq_true,←ih]
  by_cases hx:p x=true
  ·simp[hx]
  ·rw[if_neg hx]
   constructor
   ·intro h
    right
    split at h<;>omega
   ·intro h
    rcases h with h | h
    ·exact absurd h hx
    ·rw[if_neg zo];omega
theorem idxOf_nonneg{α:Type}{p:α→Bool}{l:List α}:decide (idxOf p l≥0)=l.any p:=by
 rw[Bool.eq_iff_iff,decide_eq_true_eq];exact idxOf_nonneg'
theorem idxOf_at{α:Type}{p:α→Bool}{l:List α}{j:Nat}{x:α}(hx:l[j]?=some x)(hp:p x=true)(h:∀y∈l.take j,p y=false):idxOf p l=j:=by
 have hj:j<l.length:=(gS hx).1
 rw[idxOf_take zo h,List.drop_eq_getElem_cons hj]
 have:l[j]=x:=by rw[gE hj] at hx;simpa using hx
 simp[idxOf,this,hp]
theorem idxOf_none{α:Type}{p:α→Bool}{l:List α}(h:∀y∈l,p y=false):idxOf p l=-1:=by
 rw[idxOf_take (j:=l.length) (Nat.le_refl _) (by simpa using h)]
 simp[idxOf]
theorem symIndex_spec(F:Frz){a:Option Addr}{m c:Nat}{xs:List Sym}(hx:Arr tSym F a m c xs)(hm:m≤1000000)(p:Sym→Bool){g:Nat}{fn:Func}{first capt:List Value}(hg:CC.func g=some fn)(hgb:fn.body.isSome=true)
  (hp:∀x∈xs,  Abs.Spec CC g (first++[.agg ⟨[.bool x.term,.int .i64 x.n]⟩]++capt) F [] fun _ v o=>o=[]∧v=.bool (p x)) :
  Abs.Spec CC 74 [.slice a m c,.func (.func g) ⟨first⟩ ⟨capt⟩] F [] fun _ v o=>o=[]∧v=.int .i64 (idxOf p xs):=by
 refine Abs.Spec.fn (n:=19) Tryd.func74 rfl rfl fun own=>?_
 have hxlen:=hx.len
 refine zB4 ?_
 refine AW.range (S:=Unit) (fun _=>[]) (fun _=>_) (fun j _ G=>G=F∧∀y∈xs.take j,p y=false) m () Z Z Z Z Z Z Z Z Z zo Z Z (fun _=>rfl) (fun _=>rfl) sM oR ⟨rfl,by simp⟩ ?_ ?_
 ·intro j _ F1 hF1 hj hP
  obtain⟨rfl,hP⟩:=hP
  refine zB4 ?_
  refine WT.idxL hT hx Z Z Z Z Z Z Z Z Z zo (fun x hxj b1 off ro cs lx hb hp1 hrel=>?_)
  obtain rfl:lx=_:=hrel
  refine zB4 ?_
  refine WT.callC hg hgb Z Z Z Z Z Z Z (hp x (gM hxj) ) (fun v hv=>?_)
  subst hv
  refine zB4 ?_
  refine AW.cond Z (fun hc=>?_) (fun hc=>?_)
  ·refine zB4 ?_
   refine AW.ret ⟨_,[],⟨_,_,rfl,rfl,rfl⟩,zsb,rfl,?_⟩
   rw[idxOf_at hxj hc hP];rfl
  ·refine zB4 ?_
   exact⟨(),sM,zow,rfl,take_all hxj hP hc⟩
 ·intro _ F1 hF1 hP
  obtain⟨rfl,hP⟩:=hP
  rw[List.take_of_length_le zo] at hP
  refine zB4 ?_
  refine AW.ret ⟨_,[],⟨_,_,rfl,rfl,rfl⟩,zsb,rfl,?_⟩
  rw[idxOf_none hP];rfl
theorem symAny_spec(F:Frz){a:Option Addr}{m c:Nat}{xs:List Sym}(hx:Arr tSym F a m c xs)(hm:m≤1000000)(p:Sym→Bool){g:Nat}{fn:Func}{first capt:List Value}(hg:CC.func g=some fn)(hgb:fn.body.isSome=true)
  (hp:∀x∈xs,  Abs.Spec CC g (first++[.agg ⟨[.bool x.term,.int .i64 x.n]⟩]++capt) F [] fun _ v o=>o=[]∧v=.bool (p x)) :
  Abs.Spec CC 41 [.slice a m c,.func (.func g) ⟨first⟩ ⟨capt⟩] F [] fun _ v o=>o=[]∧v=.bool (xs.any p):=by
 refine Abs.Spec.fn (n:=9) Tryd.func41 rfl rfl fun own=>?_
 refine zB4 ?_
 refine WT.callV Tryd.func74 Z Z Z Z Z Z (symIndex_spec _ hx hm p hg hgb hp) (fun v hv=>?_)
 subst hv
 refine zB4 ?_
 refine AW.ret ⟨_,[],⟨_,_,rfl,rfl,rfl⟩,zsb,rfl,?_⟩
 rw[←idxOf_nonneg];rfl
theorem ruleIndex_spec(F:Frz){a:Option Addr}{m c:Nat}{xs:List Rule}(hx:Arr tRule F a m c xs)(hm:m≤1000000)(p:Rule→Bool){g:Nat}{fn:Func}{first capt:List Value}(hg:CC.func g=some fn)(hgb:fn.body.isSome=true)
  (hp:∀x∈xs,∀b n d,Arr tSym F b n d x.right→Abs.Spec CC g (first++[.agg ⟨[.int .i64 x.left,.slice b n d]⟩]++capt) F [] fun _ v o=>o=[]∧v=.bool (p x)) :
  Abs.Spec CC 73 [.slice a m c,.func (.func g) ⟨first⟩ ⟨capt⟩] F [] fun _ v o=>o=[]∧v=.int .i64 (idxOf p xs):=by
 refine Abs.Spec.fn (n:=19) Tryd.func73 rfl rfl fun own=>?_
 have hxlen:=hx.len
 refine zB4 ?_
 refine AW.range (S:=Unit) (fun _=>[]) (fun _=>_) (fun j _ G=>G=F∧∀y∈xs.take j,p y=false) m () Z Z Z Z Z Z Z Z Z zo Z Z (fun _=>rfl) (fun _=>rfl) sM oR ⟨rfl,by simp⟩ ?_ ?_
 ·intro j _ F1 hF1 hj hP
  obtain⟨rfl,hP⟩:=hP
  refine zB4 ?_
  refine WT.idxL hT hx Z Z Z Z Z Z Z Z Z zo (fun x hxj b1 off ro cs lx hb hp1 hrel=>?_)
  obtain⟨b2,n2,d2,rfl,hx2⟩:=hrel
  refine zB4 ?_
  refine WT.callC hg hgb Z Z Z Z Z Z Z (hp x (gM hxj) _ _ _ hx2) (fun v hv=>?_)
  subst hv
  refine zB4 ?_
  refine AW.cond Z (fun hc=>?_) (fun hc=>?_)
  ·refine zB4 ?_
   refine AW.ret ⟨_,[],⟨_,_,rfl,rfl,rfl⟩,zsb,rfl,?_⟩
   rw[idxOf_at hxj hc hP];rfl
  ·refine zB4 ?_
   exact⟨(),sM,zow,rfl,take_all hxj hP hc⟩
 ·intro _ F1 hF1 hP
  obtain⟨rfl,hP⟩:=hP
  rw[List.take_of_length_le zo] at hP
  refine zB4 ?_
  refine AW.ret ⟨_,[],⟨_,_,rfl,rfl,rfl⟩,zsb,rfl,?_⟩
  rw[idxOf_none hP];rfl
theorem ruleAny_spec(F:Frz){a:Option Addr}{m c:Nat}{xs:List Rule}(hx:Arr tRule F a m c xs)(hm:m≤1000000)(p:Rule→Bool){g:Nat}{fn:Func}{first capt:List Value}(hg:CC.func g=some fn)(hgb:fn.body.isSome=true)
  (hp:∀x∈xs,∀b n d,Arr tSym F b n d x.right→Abs.Spec CC g (first++[.agg ⟨[.int .i64 x.left,.slice b n d]⟩]++capt) F [] fun _ v o=>o=[]∧v=.bool (p x)) :
  Abs.Spec CC 58 [.slice a m c,.func (.func g) ⟨first⟩ ⟨capt⟩] F [] fun _ v o=>o=[]∧v=.bool (xs.any p):=by
 refine Abs.Spec.fn (n:=9) Tryd.func58 rfl rfl fun own=>?_
 refine zB4 ?_
 refine WT.callV Tryd.func73 Z Z Z Z Z Z (ruleIndex_spec _ hx hm p hg hgb hp) (fun v hv=>?_)
 subst hv
 refine zB4 ?_
 refine AW.ret ⟨_,[],⟨_,_,rfl,rfl,rfl⟩,zsb,rfl,?_⟩
 rw[←idxOf_nonneg];rfl
def hasSym(g:Gram)(y:Sym):Bool:=if y.term=true then decide (y.n<g.terms) else decide (y.n<g.nons)
theorem has2_spec(F:Frz)(g:Gram){a:Option Addr}{m c:Nat}(y:Sym) :
  Abs.Spec CC 57 [.agg ⟨[.int .i64 g.terms,.int .i64 g.nons,.int .i64 g.start,.slice a m c]⟩,.agg ⟨[.bool y.term,.int .i64 y.n]⟩] F [] fun _ v o=>o=[]∧v=.bool (hasSym g y):=by
 refine Abs.Spec.fn (n:=31) Tryd.func57 rfl rfl fun own=>?_
 refine AW.seq (AW.reg ?_)
 refine WT.boxT Z Z Z Z Z Z (fun i1 hi1=>?_)
 refine WT.boxT Z Z Z Z Z Z (fun i2 hi2=>?_)
 refine zB4 ?_
 have e1:decide ((y.n:Int)≥0)=true:=by simp
 refine WT.split 8 Z (fun _=>?_) (fun h=>(by rw[e1] at h;cases h))
 skip
 have e2:∀m:Nat,decide ((y.n:Int)<(m:Int))=decide (y.n<m):=fun m=>by rw[decide_eq_decide];omega
 cases ht:y.term with
 | true=>
  refine zB4 ?_
  refine WT.split 18 Z (fun h=>?_) (fun h=>?_)
  ·refine zB4 ?_
   refine AW.ret ⟨_,[],⟨_,_,rfl,rfl,rfl⟩,zsb,rfl,?_⟩
   rw[e2] at h
   simp only[hasSym,ht,if_true,h];rfl
  ·refine zB4 ?_
   refine AW.ret ⟨_,[],⟨_,_,rfl,rfl,rfl⟩,zsb,rfl,?_⟩
   rw[e2] at h
   simp only[hasSym,ht,if_true,h];rfl
 | false=>
  refine zB4 ?_
  refine AW.ret ⟨_,[],⟨_,_,rfl,rfl,rfl⟩,zsb,rfl,?_⟩
  simp only[hasSym,ht,←e2];rfl
def gramCells(g:Gram)(a:Option Addr)(m c:Nat):List Value:=[.int .i64 g.terms,.int .i64 g.nons,.int .i64 g.start,.slice a m c]
theorem check1_spec(F:Frz)(g:Gram){a:Option Addr}{m c:Nat}{i:Nat}{ro:Bool}(hi:F i=some (.cells ro (gramCells g a m c)))(y:Sym) :
  Abs.Spec CC 56 [.agg ⟨[.bool y.term,.int .i64 y.n]⟩,.pointer (some ⟨i,0,none⟩)] F [] fun _ v o=>o=[]∧v=.bool (!hasSym g y):=by
 unfold gramCells at hi
 refine Abs.Spec.fn (n:=8) Tryd.func56 rfl rfl fun own=>?_
 refine AW.seq (AW.reg ?_)
 refine WT.boxT Z Z Z Z Z Z (fun i2 hi2=>?_)
 refine zB4 ?_
 refine WT.callV Tryd.func57 Z Z Z Z Z Z (has2_spec _ g y) (fun v hv=>?_)
 subst hv
 refine zB4 ?_
 exact AW.ret ⟨_,[],⟨_,_,rfl,rfl,rfl⟩,zsb,rfl,rfl⟩
theorem check2_spec(F:Frz)(r:Rule){a:Option Addr}{m c:Nat}{i:Nat}{ro:Bool}(hi:F i=some (.cells ro [.int .i64 r.left,.slice a m c]))(hr:Arr tSym F a m c r.right)(hm:m≤1000000)(x:Rule)
  {b:Option Addr} {n d:Nat} (hx:Arr tSym F b n d x.right) (hn:n≤1000000) :
  Abs.Spec CC 59 [.agg ⟨[.int .i64 x.left,.slice b n d]⟩,.pointer (some ⟨i,0,none⟩)] F [] fun _ v o=>o=[]∧v=.bool (decide (x=r)):=by
 refine Abs.Spec.fn (n:=8) Tryd.func59 rfl rfl fun own=>?_
 refine AW.seq (AW.reg ?_)
 refine WT.boxT Z Z Z Z Z Z (fun i2 hi2=>?_)
 refine zB4 ?_
 refine WT.callV Tryd.func60 Z Z Z Z Z Z (compareRule_spec _ x r hx hr hn hm) (fun v hv=>?_)
 subst hv
 refine zB4 ?_
 refine AW.ret ⟨_,[],⟨_,_,rfl,rfl,rfl⟩,zsb,rfl,?_⟩
 have:(cmpRule x r==0)=decide (x=r):=by
  rw[Bool.eq_iff_iff];simp[cmpRule_zero]
 rw[←this];rfl
def ruleErr(g:Gram)(pre:List Rule)(r:Rule):Nat:=
 if g.nons≤r.left then 3 else if 4<r.right.length then 2 else if r.right.any (fun y=>!hasSym g y)=true then 3 else if pre.any (fun x=>decide (x=r))=true then 6 else 0
def rulesErr(g:Gram):List Rule→List Rule→Nat
 | _,[]=>0
 | pre,r::l=>if ruleErr g pre r=0 then rulesErr g (pre++[r]) l else ruleErr g pre r
structure InRange(g:Gram):Prop where
 terms:1≤g.terms∧g.terms≤8
 nons:1≤g.nons∧g.nons≤10
 start:g.start<g.nons
 rules:g.rules.length≤32
 right:∀r∈g.rules,r.right.length≤1000000
theorem rulesErr_split(g:Gram):∀(j:Nat) (pre l:List Rule),j≤l.length→(∀i (h:i<l.length),i<j→ruleErr g (pre++l.take i) l[i]=0)→rulesErr g pre l=rulesErr g (pre++l.take j) (l.drop j)
 | 0,pre,l,_,_=>by simp
 | j+1,pre,[],h,_=>by simp at h
 | j+1,pre,r::l,h,h2=>by
  have h0:=h2 0 (by simp) zo
  simp only[List.take_zero,List.append_nil,List.getElem_cons_zero] at h0
  simp only[rulesErr,h0,if_true]
  rw[rulesErr_split g j (pre++[r]) l (by simpa using h) (fun i h3 h4=>by
   have:=h2 (i+1) (by simpa using h3) zo
   simpa using this)]
  simp
theorem check_spec(F:Frz)(g:Gram)(hg:InRange g){a:Option Addr}{m c:Nat}(hr:Arr tRule F a m c g.rules) :
  Abs.Spec CC 20 [.agg ⟨gramCells g a m c⟩] F [] fun _ v o=>o=[]∧v=.int .i64 (rulesErr g [] g.rules:Nat):=by
 unfold gramCells
 have hlen:=hr.len
 obtain⟨⟨ht1,ht2⟩,⟨hn1,hn2⟩,hst,hrl,hrr⟩:=hg
 refine Abs.Spec.fn (n:=76) Tryd.func20 rfl rfl fun own=>?_
 refine AW.seq (AW.reg ?_)
 refine WT.boxT Z Z Z Z Z Z (fun i1 hi1=>?_)
 refine WT.freezeAll 0 Z Z (fun F1 hF1 hB1=>?_)
 have hi1:=hB1 i1 _ me
 have hr:=hr.mono hF1
 refine zB4 ?_
 refine WT.split 8 Z (fun h=>(by simp at h;omega)) (fun _=>?_)
 refine zB4 ?_
 refine WT.split 13 Z (fun h=>(by simp at h;omega)) (fun _=>?_)
 refine zB4 ?_
 refine WT.split 18 Z (fun h=>(by simp at h;omega)) (fun _=>?_)
 refine zB4 ?_
 refine WT.split 23 Z (fun h=>(by simp at h;omega)) (fun _=>?_)
 refine zB4 ?_
 refine AW.cond Z (fun h=>(by simp at h;omega)) (fun _=>?_)
 refine zB4 ?_
 refine AW.cond Z (fun h=>(by simp at h;omega)) (fun _=>?_)
 refine zB4 ?_
 refine AW.range (S:=Unit) (fun _=>[]) (fun _=>_) (fun j _ _=>rulesErr g [] g.rules=rulesErr g (g.rules.take j) (g.rules.drop j)) m () Z Z Z Z Z Z Z Z Z zo Z Z (fun _=>rfl) (fun _=>rfl) sM oR (by simp) ?_ ?_
 ·intro j _ F2 hF2 hj hP
  have hr2:=hr.mono hF2
  refine zB4 ?_
  refine WT.idxL hT hr2 Z Z Z Z Z Z Z Z Z zo (fun x hxj b1 off ro cs lx hb hp1 hrel=>?_)
  obtain⟨b2,n2,d2,rfl,hx2⟩:=hrel
  have hx2len:=hx2.len
  have hxr:=hrr x (gM hxj)
  have hxj':g.rules.drop j=x::g.rules.drop (j+1):=by
   rw[List.drop_eq_getElem_cons (show j<g.rules.length by omega)]
   rw[gE zo] at hxj
   have:=Option.some.inj hxj
   rw[this]
  have next:ruleErr g (g.rules.take j) x=0→rulesErr g [] g.rules=rulesErr g (g.rules.take (j+1)) (g.rules.drop (j+1)):=by
   intro h0
   rw[hP,hxj']
   simp only[rulesErr,h0,if_true]
   rw[List.take_add_one,hxj];rfl
  have stop:∀e,e≠0→ruleErr g (g.rules.take j) x=e→rulesErr g [] g.rules=e:=by
   intro e h1 h2
   rw[hP,hxj']
   simp only[rulesErr,h2,h1,if_false]
  refine zB4 ?_
  refine WT.allocT hT Z Z Z Z Z Z (fun i4 hi4=>?_)
  refine zB4 ?_
  refine AW.freezeAll 0 Z Z (fun F3 hF3 hB3=>?_)
  have hi4:=hB3 i4 _ me
  have hi1:=hF3 _ _ (hF2 _ _ hi1)
  have hr3:=hr2.mono hF3
  have hx3:=hx2.mono hF3
  refine AW.block ?_
  refine zB4 ?_
  refine AW.cond Z (fun h=>?_) (fun h=>?_)
  ·have h:g.nons≤x.left:=by simp at h;omega
   refine zB4 ?_
   refine AW.ret ⟨_,[],⟨_,_,rfl,rfl,rfl⟩,zsb,rfl,?_⟩
   rw[stop 3 (by decide) (by simp[ruleErr,h])];rfl
  ·have h1:¬g.nons≤x.left:=by simp at h;omega
   refine zB4 ?_
   refine AW.cond Z (fun h=>?_) (fun h=>?_)
   ·have h2:4<x.right.length:=by simp at h;omega
    refine zB4 ?_
    refine AW.ret ⟨_,[],⟨_,_,rfl,rfl,rfl⟩,zsb,rfl,?_⟩
    rw[stop 2 (by decide) (by simp[ruleErr,h1,h2])];rfl
   ·have h2:¬4<x.right.length:=by simp at h;omega
    refine zB4 ?_
    refine WT.callV Tryd.func41 Z Z Z Z Z Z (symAny_spec _ hx3 zo (fun y=>!hasSym g y) Tryd.func56 Z (fun y _=>check1_spec _ g hi1 y)) (fun v hv=>?_)
    subst hv
    refine zB4 ?_
    refine AW.cond Z (fun h=>?_) (fun h3=>?_)
    ·refine zB4 ?_
     refine AW.ret ⟨_,[],⟨_,_,rfl,rfl,rfl⟩,zsb,rfl,?_⟩
     rw[stop 3 (by decide) (by rw[ruleErr,if_neg h1,if_neg h2,if_pos h])];rfl
    ·have h3':¬(x.right.any fun y=>!hasSym g y)=true:=by rw[h3];decide
     refine zB4 ?_
     obtain⟨a',c',hs,ha'⟩:=hr3.slice (C:=CC) (lo:=0) (hi:=j) zo zo hT (t:=26) Z Z Z none (some (.int .i64 (j:Nat))) rfl rfl
     refine WT.slice Z Z Z Z Z Z Z Z hs ?_
     refine zB4 ?_
     refine WT.callV Tryd.func58 Z Z Z Z Z Z (ruleAny_spec _ ha' zo (fun y=>decide (y=x)) Tryd.func59 Z (fun y hy b n d hb=>check2_spec _ x hi4 hx3 zo y hb ?_)) (fun v hv=>?_)
     ·rw[hb.len];exact hrr y (by simpa using List.mem_of_mem_take hy)
     subst hv
     refine zB4 ?_
     rw[List.drop_zero]
     refine AW.cond Z (fun h=>?_) (fun h4=>?_)
     ·refine zB4 ?_
      refine AW.ret ⟨_,[],⟨_,_,rfl,rfl,rfl⟩,zsb,rfl,?_⟩
      rw[stop 6 (by decide) (by rw[ruleErr,if_neg h1,if_neg h2,if_neg h3',if_pos h])];rfl
     ·have h4':¬((g.rules.take j).any fun y=>decide (y=x))=true:=by rw[h4];decide
      refine zB4 ?_
      exact⟨(),sM,zow,next (by rw[ruleErr,if_neg h1,if_neg h2,if_neg h3',if_neg h4'])⟩
 ·intro _ F2 hF2 hP
  refine zB4 ?_
  refine AW.ret ⟨_,[],⟨_,_,rfl,rfl,rfl⟩,zsb,rfl,?_⟩
  rw[hP,List.drop_of_length_le zo];rfl
structure Valid(g:Gram):Prop where
 range:InRange g
 right:∀r∈g.rules,r.left<g.nons∧r.right.length≤4∧∀y∈r.right,SymOk g.terms g.nons y
 nodup:g.rules.Nodup
theorem Valid.no_err{g:Gram}(h:Valid g):rulesErr g [] g.rules=0:=by
 rw[rulesErr_split g g.rules.length [] g.rules (Nat.le_refl _) (fun i h1 _=>?_)]
 ·simp[rulesErr]
 ·obtain⟨h2,h3,h4⟩:=h.right g.rules[i] (List.getElem_mem h1)
  rw[ruleErr,if_neg zo,if_neg zo,if_neg,if_neg]
  ·intro h5
   simp only[List.nil_append,List.any_eq_true,decide_eq_true_eq] at h5
   obtain⟨x,hx,rfl⟩:=h5
   have hn:=h.nodup
   rw[←List.take_append_drop i g.rules,List.nodup_append] at hn
   refine hn.2.2 _ hx _ ?_ rfl
   rw[List.drop_eq_getElem_cons h1];exact List.mem_cons_self ..
  ·intro h5
   simp only[List.any_eq_true,Bool.not_eq_true'] at h5
   obtain⟨y,hy,hb⟩:=h5
   have:=h4 y hy
   unfold SymOk at this
   unfold hasSym at hb
   split at this<;>rename_i ht<;>simp[ht,this] at hb
theorem Small.valid{g:Gram}(h:Small g):Valid g where
 range:=⟨by have:=h.terms;omega,by have:=h.nons;omega,h.start,by have:=h.rules;omega,fun r hr=>by have:=(h.ok r hr).2.1;omega⟩
 right:=fun r hr=>⟨(h.ok r hr).1,by have:=(h.ok r hr).2.1;omega,(h.ok r hr).2.2⟩
 nodup:=h.nodup
theorem word_spec(F:Frz)(terms most:Nat)(ht:0<terms∧terms≤1000)(hmost:most≤1000000){a:Option Addr}{m c:Nat}{l:List Int}(hl:Arr tInt F a m c l)(hm:m≤9223372036854775807) :
  Abs.Spec CC 8 [.int .i64 terms,.int .i64 most,.slice a m c] F [] fun F' v o=>o=[]∧∃a m c w,v=.slice a m c∧Arr tNat F' a m c w∧w.length≤most∧∀t∈w,t<terms:=by
 refine Abs.Spec.fn (n:=28) Tryd.func8 rfl rfl fun own=>?_
 have hlen:=hl.len
 refine zB4 ?_
 refine AW.range (S:=List Nat×Option Addr×Nat×Nat×List (Nat×Blk)) (fun s=>[(7,.slice s.2.1 s.2.2.1 s.2.2.2.1)]) (fun s=>s.2.2.2.2::own) (fun j s G=>Bld tNat G s.2.1 s.2.2.1 s.2.2.2.1 s.2.2.2.2 s.1∧s.1.length≤most∧∀t∈s.1,t<terms) m ⟨[],none,0,0,[]⟩ Z Z Z Z Z Z Z Z Z zo Z Z (fun _=>rfl) (fun _=>rfl) sM (OwnLe.flat (List.Perm.refl _)) ⟨Bld.nil_ _ _,by simp,by simp⟩ ?_ ?_
 ·intro j s F1 hF1 hj hP
  obtain⟨hb,hlen2,hlt⟩:=hP
  have hblen:=hb.len
  have hl1:=hl.mono hF1
  refine zB4 ?_
  refine WT.idxL hT hl1 Z Z Z Z Z Z Z Z Z zo (fun x hxj b1 off ro cs lx hb1 hp1 hrel=>?_)
  obtain rfl:lx=_:=hrel
  refine zB4 ?_
  refine AW.cond Z (fun h=>?_) (fun h=>?_)
  ·refine AW.exit ?_
   refine AW.freezeAll 0 Z Z (fun F3 hF3 hB3=>?_)
   refine zB4 ?_
   exact AW.ret ⟨_,[],⟨_,_,rfl,rfl,rfl⟩,zsb,rfl,_,_,_,s.1,rfl,hb.frozen hF3 hB3,hlen2,hlt⟩
  ·have h:s.1.length<most:=by simp at h;omega
   refine zB4 ?_
   refine WT.callV Tryd.func29 Z Z Z Z Z Z (below_spec _ x terms zo zo) (fun v hv=>?_)
   subst hv
   refine WT.buildT hT Z Z Z Z Z Z Z Z Z Z Z Z Z Z (fun i9 hi9=>?_)
   refine WT.appendT (ys:=[below x terms]) hT 1 hb Z (fun _=>rfl) Z Z Z Z Z Z Z Z Z Z Z (fun h0 s0=>news_own hT s0 0 Z Z Z Z) (Cells.single (R:=tNat) (x:=below x terms) rfl) Z (by decide) zom (fun a3 c3 B3 hB3=>?_)
   refine zB4 ?_
   refine⟨⟨s.1++[below x terms],a3,s.2.2.1+1,c3,B3⟩,sM,zow,hB3,by simp;omega,fun t ht2=>?_⟩
   rcases List.mem_append.1 ht2 with ht2 | ht2
   ·exact hlt t ht2
   ·obtain rfl:=List.mem_singleton.1 ht2;exact below_lt x ht.1
 ·intro s F1 hF1 hP
  obtain⟨hb,hlen2,hlt⟩:=hP
  refine AW.freezeAll 0 Z Z (fun F3 hF3 hB3=>?_)
  refine zB4 ?_
  exact AW.ret ⟨_,[],⟨_,_,rfl,rfl,rfl⟩,zsb,rfl,_,_,_,s.1,rfl,hb.frozen hF3 hB3,hlen2,hlt⟩
theorem low_form:∀(n x:Nat),0<x→x<2 ^ n→∃p q,x=2 ^ p*(2*q+1)∧p<n
 | 0,x,h,h2=>by simp at h2;omega
 | n+1,x,h,h2=>by
  rcases Nat.mod_two_eq_zero_or_one x with h3 | h3
  ·obtain⟨p,q,h4,h5⟩:=low_form n (x / 2) zo (by rw[Nat.pow_succ] at h2;omega)
   refine⟨p+1,q,?_,by omega⟩
   rw[Nat.pow_succ,Nat.mul_comm (2 ^ p) 2,Nat.mul_assoc,←h4];omega
  ·exact⟨0,x / 2,by omega,by omega⟩
theorem odd_bit(q i:Nat):(2*q+1).testBit i=if i=0 then true else (2*q).testBit i:=by
 cases i with
 | zero=>simp
 | succ i=>
  rw[Nat.testBit_succ,Nat.testBit_succ,if_neg zo]
  congr 1;omega
theorem low_bit(p q j:Nat):(2 ^ p*(2*q+1)).testBit j=if j<p then false else if j=p then true else (2*q).testBit (j-p):=by
 have:=Nat.testBit_two_pow_mul_add (2*q+1) (b:=0) (i:=p) (Nat.two_pow_pos p) j
 rw[Nat.add_zero] at this
 rw[this]
 by_cases h:j<p
 ·simp[h]
 ·rw[if_neg h,if_neg h,odd_bit]
  by_cases h2:j=p
  ·simp[h2]
  ·rw[if_neg zo,if_neg h2]
theorem low_pred(p q j:Nat):(2 ^ p*(2*q+1)-1).testBit j=if j<p then true else (2*q).testBit (j-p):=by
 have h1:2 ^ p*(2*q+1)-1=2 ^ p*(2*q)+(2 ^ p-1):=by
  have:=Nat.two_pow_pos p
  rw[Nat.mul_add];omega
 rw[h1,Nat.testBit_two_pow_mul_add _ (by have:=Nat.two_pow_pos p;omega)]
 by_cases h:j<p
 ·simp[h]
 ·simp[h]
theorem and_pred(p q j:Nat):(2 ^ p*(2*q+1) &&& (2 ^ p*(2*q+1)-1)).testBit j=((2 ^ p*(2*q+1)).testBit j&&!(j==p)):=by
 rw[Nat.testBit_and,low_bit,low_pred]
 by_cases h:j<p
 ·simp[h]
 ·by_cases h2:j=p
  ·subst h2;simp
  ·simp[h,h2]
theorem and_neg{n p q:Nat}(h:2 ^ p*(2*q+1)<2 ^ n):2 ^ p*(2*q+1) &&& (2 ^ n-2 ^ p*(2*q+1))=2 ^ p:=by
 apply Nat.eq_of_testBit_eq
 intro j
 have hpos:0<2 ^ p*(2*q+1):=Nat.mul_pos (Nat.two_pow_pos p) zo
 have h1:(2 ^ n-2 ^ p*(2*q+1)).testBit j=(decide (j<n)&&!(2 ^ p*(2*q+1)-1).testBit j):=by
  rw[←Nat.testBit_two_pow_sub_succ zo]
  congr 1;omega
 have hp:p<n:=by
  rcases Nat.lt_or_ge p n with h2 | h2
  ·exact h2
  ·have h3:=Nat.pow_le_pow_right (show 0<2 by decide) h2
   have:2 ^ p*1≤2 ^ p*(2*q+1):=Nat.mul_le_mul_left _ zo
   omega
 rw[Nat.testBit_and,h1,low_bit,low_pred,Nat.testBit_two_pow]
 by_cases h2:j<p
 ·have:¬p=j:=by omega
  simp[h2,this]
 ·by_cases h3:j=p
  ·subst h3;simp[hp]
  ·have:¬p=j:=by omega
   simp[h2,h3,this]
   exact fun h _=>h
theorem tab32_ok:∀p,p<32→tab32[(2 ^ p*125613361 % 4294967296) / 2 ^ 27]?=some p:=by decide +kernel
def Laid(F:Frz):Prop:=∀p∈tabs,F p.1=some p.2
theorem Laid.mono{F G:Frz}(h:Laid F)(hF:Frz.le F G):Laid G:=fun p hp=>hF _ _ (h p hp)
theorem Laid.tab{F:Frz}(h:Laid F):F 0=some (.cells true (tab32.map fun x:Nat=>Value.int .u8 (x:Int))):=h _ me
theorem tz_spec(F:Frz)(hL:Laid F)(p q:Nat)(hx:2 ^ p*(2*q+1)<4294967296):Abs.Spec CC 90 [.int .u32 ((2 ^ p*(2*q+1):Nat):Int)] F [] fun _ v o=>o=[]∧v=.int .i64 p:=by
 have hL:=hL.tab
 have hp:p<32:=by
  rcases Nat.lt_or_ge p 32 with h2 | h2
  ·exact h2
  ·have h3:=Nat.pow_le_pow_right (show 0<2 by decide) h2
   have:2 ^ p*1≤2 ^ p*(2*q+1):=Nat.mul_le_mul_left _ zo
   omega
 have hneg:=and_neg (n:=32) (p:=p) (q:=q) hx
 have hpos:0<2 ^ p*(2*q+1):=Nat.mul_pos (Nat.two_pow_pos p) zo
 have htab:=tab32_ok p hp
 have hp2:2 ^ p<4294967296:=Nat.pow_lt_pow_right (by decide) hp
 generalize 2 ^ p*(2*q+1)=x at hx hneg hpos
 refine Abs.Spec.fn (n:=14) Tryd.func90 rfl rfl fun own=>?_
 refine zB4 ?_
 refine AW.cond Z (fun h=>(by simp at h;omega)) (fun _=>?_)
 refine zB4 ?_
 refine WT.know (v':=.int .u32 ((4294967296-x:Nat):Int)) 7 Z ?_ ?_
 ·have hs:IntKind.u32.signed=false:=rfl
  have hbits:IntKind.u32.bits=32:=rfl
  have h2:(2:Int) ^ 32=4294967296:=rfl
  simp only[IntKind.wrap,hs,hbits,Bool.false_and,h2]
  congr 1
  simp
  omega
 refine WT.and32 (x:=x) (y:=4294967296-x) Z Z Z Z Z Z hx zo ?_
 rw[show x &&& (4294967296-x)=2 ^ p from hneg]
 refine WT.mulU32 (x:=2 ^ p) (y:=125613361) Z Z Z Z Z Z ?_
 refine WT.shr32 (y:=27) Z Z Z Z Z Z (by decide) ?_
 refine WT.idxArr (len:=32) (s:=1) hT Z Z Z Z Z Z Z Z Z (by have:=Nat.mod_lt (2 ^ p*125613361) (show 0<4294967296 by decide);rw[Nat.div_lt_iff_lt_mul (by decide)];omega) ?_
 refine WT.loadFAt hT hL (v:=.int .u8 p) Z Z Z Z Z Z Z ?_ ?_
 ·rw[Nat.zero_add,Nat.mul_one,List.getElem?_map,htab];rfl
 refine WT.conv hT (k2:=.i64) Z Z Z Z Z Z Z Z (wrap64 zo) ?_
 refine zB4 ?_
 exact AW.ret ⟨_,[],⟨_,_,rfl,rfl,rfl⟩,zsb,rfl,rfl⟩
def Step(w:List Nat)(E:List (List Nat))(s:Sym)(i j:Nat):Prop:=
 if s.term=true then w[i]?=some s.n∧j=i+1 else ∃row x,E[s.n]?=some row∧row[i]?=some x∧x.testBit j=true
def Reads(w:List Nat)(E:List (List Nat)):List Sym→Nat→Nat→Prop
 | [],i,j=>i=j
 | s::l,i,j=>∃m,Step w E s i m∧Reads w E l m j
theorem Reads.snoc{w:List Nat}{E:List (List Nat)}{s:Sym}:∀{l:List Sym} {i j:Nat},Reads w E (l++[s]) i j↔∃m,Reads w E l i m∧Step w E s m j
 | [],i,j=>by simp[Reads]
 | a::l,i,j=>by
  simp only[List.cons_append,Reads,Reads.snoc (l:=l)]
  constructor
  ·rintro⟨m,h1,m2,h2,h3⟩;exact⟨m2,⟨m,h1,h2⟩,h3⟩
  ·rintro⟨m2,⟨m,h1,h2⟩,h3⟩;exact⟨m,h1,m2,h2,h3⟩
structure EndsOk(n len:Nat)(E:List (List Nat)):Prop where
 size:E.length=n
 row:∀r∈E,r.length=len+1
 bit:∀r∈E,∀x∈r,x<2 ^ (len+1)
theorem inner_step{w:List Nat}{E:List (List Nat)}{y:Sym}{s u2 x p q:Nat}(hs:s.testBit p=true)
  (hu4:∀j,u2.testBit j=true↔∃p',s.testBit p'=true∧(2 ^ p*(2*q+1)).testBit p'=false∧Step w E y p' j) (hst:∀j,x.testBit j=true↔Step w E y p j) :
  ∀j,(u2 ||| x).testBit j=true↔∃p',s.testBit p'=true∧(2 ^ p*(2*q+1) &&& (2 ^ p*(2*q+1)-1)).testBit p'=false∧Step w E y p' j:=by
 intro j
 rw[Nat.testBit_or,Bool.or_eq_true,hu4,hst]
 constructor
 ·rintro(⟨p',h1,h2,h3⟩ | h)
  ·exact⟨p',h1,by rw[and_pred,h2];rfl,h3⟩
  ·exact⟨p,hs,by rw[and_pred];simp,h⟩
 ·rintro⟨p',h1,h2,h3⟩
  rw[and_pred] at h2
  by_cases hp:p'=p
  ·subst hp;exact .inr h3
  ·refine .inl ⟨p',h1,?_,h3⟩
   have:(p'==p)=false:=by simpa using hp
   simpa [this] using h2
theorem reach_spec(F:Frz)(hL:Laid F){n t:Nat}{w:List Nat}{E:List (List Nat)}{l:List Sym}{a1 a2 a3:Option Addr}{m1 m2 m3 c1 c2 c3:Nat}(hw:Arr tNat F a1 m1 c1 w)(hE:Arr (tList tU32) F a2 m2 c2 E)(hl:Arr tSym F a3 m3 c3 l)
  (hE2:EndsOk n w.length E) (hok:∀y∈l,SymOk t n y) (hlen:w.length≤30) (hl2:l.length≤1000) (i0:Nat) (hi0:i0≤w.length) :
  Abs.Spec CC 67 [.slice a1 m1 c1,.slice a2 m2 c2,.slice a3 m3 c3,.int .i64 i0] F [] fun _ v o=>o=[]∧∃r:Nat,v=.int .u32 r∧r<2 ^ (w.length+1)∧∀j,r.testBit j=true↔Reads w E l i0 j:=by
 have hwlen:=hw.len
 have hElen:=hE.len
 have hllen:=hl.len
 have pw:∀p,p≤31→2 ^ p<4294967296:=fun p hp=>Nat.pow_lt_pow_right (n:=32) (by decide) zo
 have pwl:2 ^ (w.length+1)≤4294967296:=Nat.pow_le_pow_right (j:=32) (by decide) zo
 refine Abs.Spec.fn (n:=68) Tryd.func67 rfl rfl fun own=>?_
 refine zB4 ?_
 refine WT.shl32 (x:=1) (y:=i0) Z Z Z Z Z Z zo (by have:=pw i0 zo;omega) ?_
 refine zB4 ?_
 refine AW.range (S:=Nat) (fun s=>[(9,.int .u32 (s:Nat))]) (fun _=>_) (fun j s G=>s<2 ^ (w.length+1)∧∀q,s.testBit q=true↔Reads w E (l.take j) i0 q) m3 (1*2 ^ i0) Z Z Z Z Z Z Z Z Z zo Z Z (fun _=>rfl) (fun _=>rfl) sM oR ⟨?_,?_⟩ ?_ ?_
 ·rw[Nat.one_mul];exact Nat.pow_lt_pow_right (by decide) zo
 ·intro q
  rw[Nat.one_mul,Nat.testBit_two_pow]
  simp[Reads]
 ·intro j s F1 hF1 hj hP
  obtain⟨hs1,hs2⟩:=hP
  have hw:=hw.mono hF1
  have hE:=hE.mono hF1
  have hl:=hl.mono hF1
  have hL:=hL.mono hF1
  refine zB4 ?_
  refine WT.idxL hT hl Z Z Z Z Z Z Z Z Z zo (fun y hyj b1 off ro cs lx hb hp1 hrel=>?_)
  obtain rfl:lx=_:=hrel
  have hyok:=hok y (gM hyj)
  refine zB4 ?_
  refine WT.allocT hT Z Z Z Z Z Z (fun i1 hi1=>?_)
  refine zB4 ?_
  refine AW.block ?_
  refine AW.loopR (S:=Nat×Nat) (fun s=>[(13,.int .u32 s.1),(12,.int .u32 s.2)]) (fun _=>_) (fun u G=>Frz.le F1 G∧u.1<2 ^ (w.length+1)∧u.2<2 ^ (w.length+1)∧(∀q,u.1.testBit q=true→s.testBit q=true)∧∀q,u.2.testBit q=true↔∃p,s.testBit p=true∧u.1.testBit p=false∧Step w E y p q) (fun u=>u.1) (s,0)
   sM oR ⟨Frz.le.refl _,hs1,Nat.two_pow_pos _,fun q h=>h,fun q=>?_⟩ ?_
  ·constructor
   ·intro h;simp at h
   ·rintro⟨p,h1,h2,_⟩;simp only at h2;rw[h1] at h2;cases h2
  ·intro u F2 hF2 hP2
   obtain⟨hF12,hu1,hu2,hu3,hu4⟩:=hP2
   have hw:=hw.mono hF2
   have hE:=hE.mono hF2
   have hL:=hL.mono hF2
   obtain⟨u1,u2⟩:=u
   dsimp only at hu1 hu2 hu3 hu4
   refine zB4 ?_
   refine AW.cond Z (fun h=>?_) (fun h=>?_)
   ·have hne:u1≠0:=by intro e;subst e;simp at h
    obtain⟨p,q,rfl,hp⟩:=low_form (w.length+1) u1 zo hu1
    have hps:s.testBit p=true:=hu3 p (by rw[low_bit];simp)
    have hle:2 ^ p*(2*q+1) &&& (2 ^ p*(2*q+1)-1)≤2 ^ p*(2*q+1)-1:=Nat.and_le_right
    have fin:∀x,x<2 ^ (w.length+1)→(∀j,x.testBit j=true↔Step w E y p j)→(Frz.le F1 F2∧(2 ^ p*(2*q+1) &&& (2 ^ p*(2*q+1)-1))<2 ^ (w.length+1)∧(u2 ||| x)<2 ^ (w.length+1)∧(∀j,(2 ^ p*(2*q+1) &&& (2 ^ p*(2*q+1)-1)).testBit j=true→s.testBit j=true)∧∀j,(u2 ||| x).testBit j=true↔∃p',s.testBit p'=true∧(2 ^ p*(2*q+1) &&& (2 ^ p*(2*q+1)-1)).testBit p'=false∧Step w E y p' j):=by
     intro x hx1 hx2
     refine⟨hF12,by omega,Nat.or_lt_two_pow hu2 hx1,fun j hj=>hu3 j ?_,inner_step hps hu4 hx2⟩
     rw[Nat.testBit_and] at hj
     simp only[Bool.and_eq_true] at hj
     exact hj.1
    refine zB4 ?_
    refine AW.block ?_
    refine zB4 ?_
    refine WT.callV Tryd.func90 Z Z Z Z Z Z (tz_spec _ hL p q zo) (fun v hv=>?_)
    subst hv
    refine WT.easy hT Z Z Z Z Z ?_
    refine WT.nil ?_
    refine AW.block ?_
    refine zB4 ?_
    refine AW.cond Z (fun h2=>?_) (fun h2=>?_)
    ·have hyt:y.term=false:=by simpa using h2
     rw[SymOk,if_neg (by simp[hyt])] at hyok
     have hElen2:=hE2.size
     refine zB4 ?_
     refine WT.idxL hT hE Z Z Z Z Z Z Z Z Z zo (fun row hrow b2 off2 ro2 cs2 lx2 hb2 hp2 hrel2=>?_)
     obtain⟨a4,n4,c4,rfl,hrow2⟩:=hrel2
     have hrl:=hE2.row row (gM hrow)
     refine zB4 ?_
     refine WT.idxL hT hrow2 Z Z Z Z Z Z Z Z Z zo (fun x hx b3 off3 ro3 cs3 lx3 hb3 hp3 hrel3=>?_)
     obtain rfl:lx3=_:=hrel3
     have hxb:=hE2.bit row (gM hrow) x (gM hx)
     refine zB4 ?_
     refine WT.or32 (x:=u2) (y:=x) Z Z Z Z Z Z zo zo ?_
     refine zB4 ?_
     refine WT.dec32 (x:=2 ^ p*(2*q+1)) (y:=1) Z Z Z Z Z Z zo zo ?_
     refine WT.and32 (x:=2 ^ p*(2*q+1)) Z Z Z Z Z Z zo zo ?_
     refine zB4 ?_
     refine⟨(_,u2 ||| x),?_,sM,zow,fin x hxb fun j=>?_⟩
     ·dsimp only;omega
     ·rw[Step,if_neg (by simp[hyt])]
      constructor
      ·intro hb;exact⟨row,x,hrow,hx,hb⟩
      ·rintro⟨row',x',h3,h4,h5⟩
       rw[hrow] at h3;cases h3
       rw[hx] at h4;cases h4
       exact h5
    ·have hyt:y.term=true:=by simpa using h2
     refine zB4 ?_
     refine WT.split 51 Z (fun h3=>?_) (fun h3=>?_)
     ·have h3:p<w.length:=by simp at h3;omega
      refine zB4 ?_
      refine WT.idxL hT hw Z Z Z Z Z Z Z Z Z zo (fun x hx b3 off3 ro3 cs3 lx3 hb3 hp3 hrel3=>?_)
      obtain rfl:lx3=_:=hrel3
      refine zB4 ?_
      refine AW.cond Z (fun h4=>?_) (fun h4=>?_)
      ·have h4:x=y.n:=by simp at h4;omega
       have e2:1*2 ^ (p+1)<2 ^ (w.length+1):=by rw[Nat.one_mul];exact Nat.pow_lt_pow_right (by decide) zo
       refine zB4 ?_
       refine WT.shl32 (x:=1) (y:=p+1) Z Z Z Z Z Z zo zo ?_
       refine WT.or32 (x:=u2) (y:=1*2 ^ (p+1)) Z Z Z Z Z Z zo zo ?_
       refine zB4 ?_
       refine WT.dec32 (x:=2 ^ p*(2*q+1)) (y:=1) Z Z Z Z Z Z zo zo ?_
       refine WT.and32 (x:=2 ^ p*(2*q+1)) Z Z Z Z Z Z zo zo ?_
       refine zB4 ?_
       refine⟨(_,u2 ||| (1*2 ^ (p+1))),?_,sM,zow,fin _ e2 fun j=>?_⟩
       ·dsimp only;omega
       ·rw[Step,if_pos hyt,Nat.one_mul,Nat.testBit_two_pow,hx,h4]
        simp;omega
      ·have h4:x≠y.n:=by intro e;subst e;simp at h4
       refine zB4 ?_
       refine WT.dec32 (x:=2 ^ p*(2*q+1)) (y:=1) Z Z Z Z Z Z zo zo ?_
       refine WT.and32 (x:=2 ^ p*(2*q+1)) Z Z Z Z Z Z zo zo ?_
       refine zB4 ?_
       have:=fin 0 (Nat.two_pow_pos _) (fun j=>by rw[Step,if_pos hyt,hx];simp[h4])
       rw[Nat.or_zero] at this
       refine⟨(_,u2),?_,sM,zow,this⟩
       dsimp only;omega
     ·have h3:w.length≤p:=by simp at h3;omega
      refine zB4 ?_
      refine AW.cond Z (fun h4=>(by cases h4)) (fun h4=>?_)
      refine zB4 ?_
      refine WT.dec32 (x:=2 ^ p*(2*q+1)) (y:=1) Z Z Z Z Z Z zo zo ?_
      refine WT.and32 (x:=2 ^ p*(2*q+1)) Z Z Z Z Z Z zo zo ?_
      refine zB4 ?_
      have:=fin 0 (Nat.two_pow_pos _) (fun j=>by rw[Step,if_pos hyt,List.getElem?_eq_none h3];simp)
      rw[Nat.or_zero] at this
      refine⟨(_,u2),?_,sM,zow,this⟩
      dsimp only;omega
   ·have h0:u1=0:=by simp at h;omega
    refine AW.exit ?_
    refine zB4 ?_
    refine⟨u2,sM,zow,hu2,fun q=>?_⟩
    rw[hu4,List.take_add_one,hyj]
    rw[show (some y).toList=[y] from rfl,Reads.snoc,h0]
    constructor
    ·rintro⟨p,h1,_,h3⟩;exact⟨p,(hs2 p).1 h1,h3⟩
    ·rintro⟨p,h1,h3⟩;exact⟨p,(hs2 p).2 h1,by simp,h3⟩
 ·intro s F1 hF1 hP
  obtain⟨hs1,hs2⟩:=hP
  rw[List.take_of_length_le zo] at hs2
  refine zB4 ?_
  exact AW.ret ⟨_,[],⟨_,_,rfl,rfl,rfl⟩,zsb,rfl,s,rfl,hs1,hs2⟩
mutual
inductive Der(g:Gram)(w:List Nat):Sym→Nat→Nat→Prop
 | term {t i:Nat}:w[i]?=some t→Der g w ⟨true,t⟩ i (i+1)
 | non {r:Rule} {i j:Nat}:r∈g.rules→Ders g w r.right i j→Der g w ⟨false,r.left⟩ i j
inductive Ders(g:Gram)(w:List Nat):List Sym→Nat→Nat→Prop
 | nil {i:Nat}:Ders g w [] i i
 | cons {s:Sym} {l:List Sym} {i m j:Nat}:Der g w s i m→Ders g w l m j→Ders g w (s::l) i j
end
theorem der_non{g:Gram}{w:List Nat}{n i j:Nat}:Der g w ⟨false,n⟩ i j↔∃r∈g.rules,r.left=n∧Ders g w r.right i j:=by
 constructor
 ·intro h;cases h with | non h1 h2=>exact⟨_,h1,rfl,h2⟩
 ·rintro⟨r,h,rfl,h2⟩;exact .non h h2
theorem ders_nil{g:Gram}{w:List Nat}{i j:Nat}:Ders g w [] i j↔i=j:=by
 constructor
 ·intro h;cases h;rfl
 ·rintro rfl;exact .nil
theorem ders_cons{g:Gram}{w:List Nat}{s:Sym}{l:List Sym}{i j:Nat}:Ders g w (s::l) i j↔∃m,Der g w s i m∧Ders g w l m j:=by
 constructor
 ·intro h;cases h with | cons h1 h2=>exact⟨_,h1,h2⟩
 ·rintro⟨m,h1,h2⟩;exact .cons h1 h2
def bit(E:List (List Nat))(n i j:Nat):Prop:=∃row x,E[n]?=some row∧row[i]?=some x∧x.testBit j=true
def Sound(g:Gram)(w:List Nat)(E:List (List Nat)):Prop:=∀n i j,bit E n i j→Der g w ⟨false,n⟩ i j
def ClosedAt(w:List Nat)(E:List (List Nat))(r:Rule)(i:Nat):Prop:=∀j,Reads w E r.right i j→bit E r.left i j
def Closed(g:Gram)(w:List Nat)(E:List (List Nat)):Prop:=∀r∈g.rules,∀i,i≤w.length→ClosedAt w E r i
structure EndsOf(g:Gram)(w:List Nat)(E:List (List Nat)):Prop where
 ok:EndsOk g.nons w.length E
 iff:∀n i j,i≤w.length→(bit E n i j↔Der g w ⟨false,n⟩ i j)
theorem reads_sound{g:Gram}{w:List Nat}{E:List (List Nat)}(h:Sound g w E):∀{l:List Sym} {i j:Nat},Reads w E l i j→Ders g w l i j
 | [],i,j,h1=>by rw[show i=j from h1];exact .nil
 | s::l,i,j,h1=>by
  obtain⟨m,h2,h3⟩:=h1
  refine .cons ?_ (reads_sound h h3)
  obtain⟨b,n⟩:=s
  unfold Step at h2
  cases b with
  | true=>rw[if_pos rfl] at h2;obtain⟨h4,rfl⟩:=h2;exact .term h4
  | false=>rw[if_neg (by simp)] at h2;exact h n i m h2
theorem closed_complete{g:Gram}{w:List Nat}{E:List (List Nat)}(hE:EndsOk g.nons w.length E)(h:Closed g w E) :
  (∀{s:Sym} {i j:Nat},Der g w s i j→i≤w.length→Step w E s i j∧j≤w.length):=by
 intro s i j h1
 refine Der.rec (motive_1:=fun s i j _=>i≤w.length→Step w E s i j∧j≤w.length) (motive_2:=fun l i j _=>i≤w.length→Reads w E l i j∧j≤w.length) ?_ ?_ ?_ ?_ h1
 ·intro t i h2 h3
  have:=(gS h2).1
  exact⟨by rw[Step,if_pos rfl];exact⟨h2,rfl⟩,by omega⟩
 ·intro r i j hr h2 ih hi
  obtain⟨h3,h4⟩:=ih hi
  exact⟨by rw[Step,if_neg (by simp)];exact h r hr i hi j h3,h4⟩
 ·intro i hi;exact⟨rfl,hi⟩
 ·intro s l i m j h2 h3 ih1 ih2 hi
  obtain⟨h4,h5⟩:=ih1 hi
  obtain⟨h6,h7⟩:=ih2 h5
  exact⟨⟨m,h4,h6⟩,h7⟩
theorem EndsOf.of{g:Gram}{w:List Nat}{E:List (List Nat)}(hE:EndsOk g.nons w.length E)(h1:Sound g w E)(h2:Closed g w E):EndsOf g w E:=
 ⟨hE,fun n i j hi=>⟨h1 n i j,fun h=>by
  have:=(closed_complete hE h2 h hi).1
  rw[Step,if_neg (by simp)] at this
  exact this⟩⟩
def total(E:List (List Nat)):Nat:=(E.map List.sum).sum
theorem sum_set:∀{l:List Nat} {i x y:Nat},l[i]?=some x→(l.set i y).sum+x=l.sum+y
 | [],i,x,y,h=>by simp at h
 | a::l,0,x,y,h=>by simp at h;subst h;simp;omega
 | a::l,i+1,x,y,h=>by
  have:=sum_set (l:=l) (i:=i) (x:=x) (y:=y) (by simpa using h)
  simp only[List.set_cons_succ,List.sum_cons];omega
theorem sum_le{b:Nat}:∀{l:List Nat},(∀x∈l,x≤b)→l.sum≤l.length*b
 | [],_=>by simp
 | a::l,h=>by
  have h1:=h a me
  have h2:=sum_le (b:=b) (l:=l) (fun x hx=>h x (List.mem_cons_of_mem _ hx))
  simp only[List.sum_cons,List.length_cons,Nat.add_mul,Nat.one_mul];omega
theorem total_le{n len:Nat}{E:List (List Nat)}(h:EndsOk n len E):total E≤n*((len+1)*2 ^ (len+1)):=by
 unfold total
 rw[←h.size,←List.length_map (f:=List.sum)]
 refine sum_le fun x hx=>?_
 obtain⟨row,hr,rfl⟩:=List.mem_map.1 hx
 rw[←h.row row hr]
 refine sum_le fun x hx=>?_
 rw[h.row row hr]
 exact Nat.le_of_lt (h.bit row hr x hx)
def put(E:List (List Nat))(n i x:Nat):List (List Nat):=match E[n]? with
 | some row=>E.set n (row.set i x)
 | none=>E
theorem put_eq{E:List (List Nat)}{n i x:Nat}{row:List Nat}(h:E[n]?=some row):put E n i x=E.set n (row.set i x):=by unfold put;rw[h]
theorem total_put{E:List (List Nat)}{n i x y:Nat}{row:List Nat}(h:E[n]?=some row)(h2:row[i]?=some x)(h3:x<y):total E<total (put E n i y):=by
 rw[put_eq h]
 unfold total
 rw[List.map_set]
 have h4:=sum_set (l:=E.map List.sum) (i:=n) (x:=row.sum) (y:=(row.set i y).sum) (by rw[List.getElem?_map,h];rfl)
 have h5:=sum_set (y:=y) h2
 omega
theorem EndsOk.put{n len:Nat}{E:List (List Nat)}(h:EndsOk n len E){k i y:Nat}{row:List Nat}(h1:E[k]?=some row)(hy:y<2 ^ (len+1)):EndsOk n len (put E k i y):=by
 rw[put_eq h1]
 have hrow:=gM h1
 refine⟨by simp[h.size],fun r hr=>?_,fun r hr x hx=>?_⟩
 ·rcases List.mem_or_eq_of_mem_set hr with hr | rfl
  ·exact h.row r hr
  ·simp[h.row row hrow]
 ·rcases List.mem_or_eq_of_mem_set hr with hr | rfl
  ·exact h.bit r hr x hx
  ·rcases List.mem_or_eq_of_mem_set hx with hx | rfl
   ·exact h.bit row hrow x hx
   ·exact hy
theorem bit_put{E:List (List Nat)}{k i y x:Nat}{row:List Nat}(h1:E[k]?=some row)(h2:row[i]?=some x){n' i' j':Nat} :
  bit (put E k i y) n' i' j'↔if n'=k∧i'=i then y.testBit j'=true else bit E n' i' j':=by
 rw[put_eq h1]
 have hk:k<E.length:=(gS h1).1
 have hi:i<row.length:=(gS h2).1
 unfold bit
 by_cases hn:n'=k
 ·subst hn
  simp only[List.getElem?_set_self hk,true_and]
  by_cases hi':i'=i
  ·subst hi'
   simp only[if_true]
   constructor
   ·rintro⟨r,z,h3,h4,h5⟩
    cases h3
    rw[List.getElem?_set_self hi] at h4
    cases h4;exact h5
   ·intro h5;exact⟨_,y,rfl,by rw[List.getElem?_set_self hi],h5⟩
  ·simp only[hi',if_false]
   constructor
   ·rintro⟨r,z,h3,h4,h5⟩
    cases h3
    rw[List.getElem?_set_ne zo] at h4
    exact⟨row,z,h1,h4,h5⟩
   ·rintro⟨r,z,h3,h4,h5⟩
    rw[h1] at h3;cases h3
    exact⟨_,z,rfl,by rw[List.getElem?_set_ne zo];exact h4,h5⟩
 ·simp only[hn,false_and,if_false]
  rw[List.getElem?_set_ne zo]
structure ES where
 E:List (List Nat)
 bs:List (Nat×Blk)
 again:Bool
structure MS where
 k:Nat
 vs:List Value
 bs:List (Nat×Blk)
theorem cap_eq(l:Nat):(bif l==0 then 0 else 1)=if l=0 then 0 else 1:=by cases l<;>rfl
theorem perm_merge{α:Type}(x y:α)(bs rest:List α):(x::((y::bs)++rest)).Perm ((y::(bs++[x]))++rest):=by
 simp only[List.cons_append,List.append_assoc]
 refine(List.Perm.swap y x _).trans (List.Perm.cons y ?_)
 have:(x::bs++rest).Perm (bs++x::rest):=List.perm_middle.symm
 simpa using this
theorem set_rep{α:Type}(vs:List α)(k:Nat)(z x:α)(hk:0<k):(vs++List.replicate k z).set vs.length x=(vs++[x])++List.replicate (k-1) z:=by
 obtain⟨k,rfl⟩:∃k',k=k'+1:=⟨k-1,by omega⟩
 rw[List.set_append_right _ _ (Nat.le_refl _),Nat.sub_self,List.replicate_succ,List.set_cons_zero]
 simp
theorem ends_spec(F:Frz)(hL:Laid F)(g:Gram)(hg:Valid g){a:Option Addr}{m c:Nat}(hr:Arr tRule F a m c g.rules){b:Option Addr}{n d:Nat}{w:List Nat}(hw:Arr tNat F b n d w)(hw1:w.length≤30) :
  Abs.Spec CC 31 [.agg ⟨gramCells g a m c⟩,.slice b n d] F [] fun F' v o=>o=[]∧∃a c E,v=.slice a g.nons c∧Arr (tList tU32) F' a g.nons c E∧EndsOf g w E:=by
 unfold gramCells
 have hrlen:=hr.len
 have hwlen:=hw.len
 have hgr:=hg.range.rules
 have hgn:=hg.range.nons
 refine Abs.Spec.fn (n:=73) Tryd.func31 rfl rfl fun own=>?_
 refine AW.seq (AW.reg ?_)
 refine WT.boxT Z Z Z Z Z Z (fun i2 hi2=>?_)
 refine zB4 ?_
 refine WT.makeT (l:=g.nons) hT Z Z Z Z Z Z Z Z Z Z Z Z zom (fun io hio=>?_)
 rw[cap_eq]
 refine zB4 ?_
 refine AW.range (S:=MS) (fun _=>[]) (fun s=>((io,.cells false (s.vs++List.replicate s.k (.slice none 0 0)))::s.bs)::[(i2,.cells false [.int .i64 g.terms,.int .i64 g.nons,.int .i64 g.start,.slice a m c])]::own)
  (fun j s G=>s.k=g.nons-j∧Abs.Rows cU32 s.vs s.bs (List.replicate j (List.replicate (w.length+1) 0))) g.nons ⟨g.nons,[],[]⟩ Z Z Z Z Z Z Z Z Z zo rfl rfl (fun _=>rfl) (fun _=>rfl) sM (OwnLe.flat (List.Perm.refl _)) ⟨rfl,Abs.Rows.nil⟩ ?_ ?_
 ·intro j s F1 hF1 hj hP
  obtain⟨hk,hR⟩:=hP
  have hvl:=hR.len.1
  rw[List.length_replicate] at hvl
  refine zB4 ?_
  refine WT.makeT (l:=n+1) hT Z Z Z Z Z Z Z Z Z Z Z Z zom (fun ir hir=>?_)
  rw[cap_eq]
  refine WT.idxA (j:=j) (s:=1) hT Z Z Z Z Z Z Z Z Z hj ?_
  refine WT.storeAt hT 1 0 Z Z Z Z Z Z Z Z Z Z (by simp;omega) Z Z ?_
  refine zB4 ?_
  refine⟨⟨g.nons-(j+1),s.vs++[.slice (some ⟨ir,0,none⟩) (n+1) (if n+1=0 then 0 else 1)],s.bs++[(ir,.cells false (List.replicate (n+1) (.int .u32 0)))]⟩,sM,OwnLe.flat ?_,rfl,?_⟩
  ·dsimp only
   rw[show 0+j*1=s.vs.length by omega,set_rep _ _ _ _ zo,show s.k-1=g.nons-(j+1) by omega]
   simp only[List.flatten_cons]
   exact perm_merge _ _ _ _
  ·rw[show List.replicate (j+1) (List.replicate (w.length+1) 0)=List.replicate j (List.replicate (w.length+1) 0)++[List.replicate (w.length+1) 0] from List.replicate_succ']
   have:=hR.snoc (K:=cU32) (id:=ir) (row:=List.replicate (w.length+1) 0) (c:=if n+1=0 then 0 else 1) (by simp)
   rw[List.length_replicate,List.map_replicate,←hwlen] at this
   rw[←hwlen]
   exact this
 ·intro s F1 hF1 hP
  obtain⟨hk,hR0⟩:=hP
  have hk0:s.k=0:=by omega
  have hr1:=hr.mono hF1
  have hw1':=hw.mono hF1
  have hL1:=hL.mono hF1
  have hE0:EndsOk g.nons w.length (List.replicate g.nons (List.replicate (w.length+1) 0)):=by
   refine⟨by simp,fun r hr=>?_,fun r hr x hx=>?_⟩
   ·rw[List.eq_of_mem_replicate hr];simp
   ·rw[List.eq_of_mem_replicate hr] at hx;rw[List.eq_of_mem_replicate hx];exact Nat.two_pow_pos _
  have hS0:Sound g w (List.replicate g.nons (List.replicate (w.length+1) 0)):=by
   rintro n i j ⟨row,x,h1,h2,h3⟩
   rw[List.eq_of_mem_replicate (gM h1)] at h2
   rw[List.eq_of_mem_replicate (gM h2)] at h3
   simp at h3
  refine zB4 ?_
  refine AW.block ?_
  refine AW.loopR (S:=ES) (fun s=>[(7,.bool s.again)]) (fun t=>((io,.cells false (s.vs++List.replicate s.k (.slice none 0 0)))::t.bs)::[(i2,.cells false [.int .i64 g.terms,.int .i64 g.nons,.int .i64 g.start,.slice a m c])]::own)
   (fun t G=>Abs.Rows cU32 s.vs t.bs t.E∧EndsOk g.nons w.length t.E∧Sound g w t.E∧(t.again=false→Closed g w t.E)) (fun t=>if t.again=true then 1+(g.nons*((w.length+1)*2 ^ (w.length+1))-total t.E) else 0) ⟨_,s.bs,true⟩
   sM oR ⟨hR0,hE0,hS0,fun h=>(by cases h)⟩ ?_
  intro t F2 hF2 hP
  obtain⟨hR,hE,hS,hC⟩:=hP
  have hr2:=hr1.mono hF2
  refine zB4 ?_
  refine AW.cond Z (fun h=>?_) (fun h=>?_)
  ·refine zB4 ?_
   refine AW.block ?_
   refine zB4 ?_
   refine AW.range (S:=ES) (fun s=>[(7,.bool s.again)]) (fun t=>((io,.cells false (s.vs++List.replicate s.k (.slice none 0 0)))::t.bs)::[(i2,.cells false [.int .i64 g.terms,.int .i64 g.nons,.int .i64 g.start,.slice a m c])]::own)
    (fun k u G=>Abs.Rows cU32 s.vs u.bs u.E∧EndsOk g.nons w.length u.E∧Sound g w u.E∧total t.E≤total u.E∧(u.again=true→total t.E<total u.E)∧(u.again=false→∀r∈g.rules.take k,∀i,i≤w.length→ClosedAt w u.E r i)) m ⟨t.E,t.bs,false⟩
    Z Z Z Z Z Z Z Z Z zo rfl rfl (fun _=>rfl) (fun _=>rfl) sM oR ⟨hR,hE,hS,Nat.le_refl _,fun h=>(by cases h),by simp⟩ ?_ ?_
   ·intro k u F3 hF3 hk hP
    obtain⟨hR,hE,hS,hT1,hT2,hC⟩:=hP
    have hr3:=hr2.mono hF3
    refine zB4 ?_
    refine WT.idxL hT hr3 Z Z Z Z Z Z Z Z Z zo (fun r hrk b1 off ro cs lx hb hp1 hrel=>?_)
    obtain⟨b2,n2,d2,rfl,hr4⟩:=hrel
    obtain⟨hrl,hrr,hrs⟩:=hg.right r (gM hrk)
    refine zB4 ?_
    refine WT.allocT hT Z Z Z Z Z Z (fun i9 hi9=>?_)
    refine zB4 ?_
    refine AW.range (S:=ES) (fun s=>[(7,.bool s.again)]) (fun t=>[(i9,.cells false [.int .i64 r.left,.slice b2 n2 d2])]::((io,.cells false (s.vs++List.replicate s.k (.slice none 0 0)))::t.bs)::[(i2,.cells false [.int .i64 g.terms,.int .i64 g.nons,.int .i64 g.start,.slice a m c])]::own)
     (fun i u G=>Abs.Rows cU32 s.vs u.bs u.E∧EndsOk g.nons w.length u.E∧Sound g w u.E∧total t.E≤total u.E∧(u.again=true→total t.E<total u.E)∧(u.again=false→(∀r∈g.rules.take k,∀i,i≤w.length→ClosedAt w u.E r i)∧∀i',i'<i→ClosedAt w u.E r i')) (n+1) u
     Z Z Z Z Z Z Z Z Z zo rfl rfl (fun _=>rfl) (fun _=>rfl) sM oR ⟨hR,hE,hS,hT1,hT2,fun h=>⟨hC h,by omega⟩⟩ ?_ ?_
    ·intro i u F4 hF4 hi hP
     obtain⟨hR,hE,hS,hT1,hT2,hC⟩:=hP
     have hw4:=((hw1'.mono hF2).mono hF3).mono hF4
     have hL4:=((hL1.mono hF2).mono hF3).mono hF4
     have hr5:=hr4.mono hF4
     have hElen:=hE.size
     have pwl:2 ^ (w.length+1)≤4294967296:=Nat.pow_le_pow_right (j:=32) (by decide) zo
     obtain⟨row,hrow⟩:∃row,u.E[r.left]?=some row:=⟨_,gE zo⟩
     have hrowlen:=hE.row row (gM hrow)
     obtain⟨x,hx⟩:∃x,row[i]?=some x:=⟨_,gE zo⟩
     have hxb:=hE.bit row (gM hrow) x (gM hx)
     obtain⟨id,cc,hvs,hbs,hcc⟩:=hR.at r.left row hrow
     have hvl:=hR.len.1
     have hcell:(row.map cU32.cell)[0+i*1]?=some (.int .u32 x):=by rw[Nat.zero_add,Nat.mul_one,List.getElem?_map,hx];rfl
     have hout:(s.vs++List.replicate s.k (Value.slice none 0 0))[0+r.left*1]?=some (.slice (some ⟨id,0,none⟩) row.length cc):=by
      rw[Nat.zero_add,Nat.mul_one,List.getElem?_append_left zo];exact hvs
     have harr:∀G,(∀i b,(i,b)∈((io,Blk.cells false (s.vs++List.replicate s.k (Value.slice none 0 0)))::u.bs)→G i=some b)→Arr (tList tU32) G (some ⟨io,0,none⟩) g.nons (if g.nons=0 then 0 else 1) u.E:=by
      intro G hBG
      have:=Abs.Rows.arr (K:=cU32) (R:=tU32) rfl (fun _ _=>rfl) (F:=G) (o:=io) (c:=if u.E.length=0 then 0 else 1) (ro:=false) hR (fun i b hm=>hBG i b (List.mem_cons_of_mem _ hm)) rfl (by rw[hBG io _ me,hk0];simp)
      rw[hElen] at this
      exact this
     refine zB4 ?_
     refine WT.callLend 1 Tryd.func67 Z Z Z Z Z Z Z (fun G hG hBG=>reach_spec G (hL4.mono hG) (t:=g.terms) (hw4.mono hG) (harr G hBG) (hr5.mono hG) hE hrs hw1 zo i zo) (fun v hv=>?_)
     obtain⟨y,rfl,hy1,hy2⟩:=hv
     have hxy:x ||| y<2 ^ (w.length+1):=Nat.or_lt_two_pow hxb hy1
     refine zB4 ?_
     refine WT.idxA (j:=r.left) (s:=1) hT Z Z Z Z Z Z Z Z Z hrl ?_
     refine WT.loadAt hT 1 Z Z Z Z Z Z me Z Z hout ?_
     refine zB4 ?_
     refine WT.idxA (j:=i) (s:=1) hT Z Z Z Z Z Z Z Z Z zo ?_
     refine WT.loadAt hT 1 Z Z Z Z Z Z (List.mem_cons_of_mem _ (gM hbs)) Z Z hcell ?_
     refine WT.andNot32 (x:=y) (y:=x) Z Z Z Z Z Z zo zo ?_
     refine zB4 ?_
     refine AW.cond Z (fun h=>?_) (fun h=>?_)
     ·have hne:andNot y x≠0:=by intro e;rw[e] at h;simp at h
      refine zB4 ?_
      refine WT.idxA (j:=r.left) (s:=1) hT Z Z Z Z Z Z Z Z Z hrl ?_
      refine WT.loadAt hT 1 Z Z Z Z Z Z me Z Z hout ?_
      refine zB4 ?_
      refine WT.idxA (j:=i) (s:=1) hT Z Z Z Z Z Z Z Z Z zo ?_
      refine WT.loadAt hT 1 Z Z Z Z Z Z (List.mem_cons_of_mem _ (gM hbs)) Z Z hcell ?_
      refine zB4 ?_
      refine WT.or32 (x:=x) (y:=y) Z Z Z Z Z Z zo zo ?_
      refine WT.idxA (j:=i) (s:=1) hT Z Z Z Z Z Z Z Z Z zo ?_
      refine WT.storeAt hT 1 (r.left+1) Z Z Z Z Z Z hbs Z Z Z (by simp;omega) Z Z ?_
      refine zB4 ?_
      have hlt:x<x ||| y:=by
       rcases Nat.lt_or_ge x (x ||| y) with h1 | h1
       ·exact h1
       ·exfalso
        have h2:x ||| y=x:=Nat.le_antisymm h1 Nat.left_le_or
        refine hne ((andNot_zero zo zo).2 fun j hj=>?_)
        rw[←h2,Nat.testBit_or,hj];simp
      have hT3:=total_put (y:=x ||| y) hrow hx hlt
      refine⟨⟨put u.E r.left i (x ||| y),u.bs.set r.left (id,.cells false ((row.set i (x ||| y)).map cU32.cell)),true⟩,sM,OwnLe.flat ?_,?_,hE.put hrow hxy,?_,by dsimp only;omega,fun _=>by dsimp only;omega,fun h=>(by cases h)⟩
      ·rw[List.map_set]
       rw[show 0+i*1=i by omega]
       exact List.Perm.refl _
      ·rw[put_eq hrow]
       exact hR.set r.left row (row.set i (x ||| y)) id hrow (by simp) hbs
      ·intro n' i' j' hb'
       rw[bit_put hrow hx] at hb'
       split at hb'
       ·rename_i he
        obtain⟨rfl,rfl⟩:=he
        rw[Nat.testBit_or,Bool.or_eq_true] at hb'
        rcases hb' with hb' | hb'
        ·exact hS _ _ _ ⟨row,x,hrow,hx,hb'⟩
        ·exact .non (gM hrk) (reads_sound hS ((hy2 j').1 hb'))
       ·exact hS _ _ _ hb'
     ·have he:andNot y x=0:=by simp at h;omega
      have he2:=(andNot_zero zo zo).1 he
      refine zB4 ?_
      refine⟨u,sM,zow,hR,hE,hS,hT1,hT2,fun h=>⟨(hC h).1,fun i' hi'=>?_⟩⟩
      rcases Nat.lt_or_ge i' i with h3 | h3
      ·exact(hC h).2 i' h3
      ·have:i'=i:=by omega
       subst this
       intro j hj
       exact⟨row,x,hrow,hx,he2 j ((hy2 j).2 hj)⟩
    ·intro u F4 hF4 hP
     obtain⟨hR,hE,hS,hT1,hT2,hC⟩:=hP
     skip
     refine⟨u,sM,zow,hR,hE,hS,hT1,hT2,fun h=>take_all hrk (hC h).1 fun i hi=>(hC h).2 i zo⟩
   ·intro u F3 hF3 hP
    obtain⟨hR,hE,hS,hT1,hT2,hC⟩:=hP
    rw[List.take_of_length_le zo] at hC
    skip
    refine⟨u,?_,sM,zow,hR,hE,hS,hC⟩
    have:=total_le hE
    rw[h,if_pos rfl]
    split
    ·rename_i h4;have:=hT2 h4;omega
    ·omega
  ·refine AW.exit ?_
   refine AW.freezeAll 0 Z Z (fun F3 hF3 hB3=>?_)
   have harr:Arr (tList tU32) F3 (some ⟨io,0,none⟩) g.nons (if g.nons=0 then 0 else 1) t.E:=by
    have hElen:=hE.size
    have:=Abs.Rows.arr (K:=cU32) (R:=tU32) rfl (fun _ _=>rfl) (F:=F3) (o:=io) (c:=if t.E.length=0 then 0 else 1) (ro:=false) hR (fun i b hm=>hB3 i b (List.mem_cons_of_mem _ hm)) rfl (by rw[hB3 io _ me,hk0];simp)
    rw[hElen] at this
    exact this
   refine zB4 ?_
   exact AW.ret ⟨_,[],⟨_,_,rfl,rfl,rfl⟩,zsb,rfl,_,_,t.E,rfl,harr,EndsOf.of hE hS (hC h)⟩
theorem shift_bit(x p:Nat):(x / 2 ^ p &&& 1)=if x.testBit p=true then 1 else 0:=by
 rw[Nat.and_one_is_mod,←Nat.shiftRight_eq_div_pow]
 have:=Nat.testBit_eq_decide_div_mod_eq (x:=x) (i:=p)
 rw[Nat.shiftRight_eq_div_pow]
 rw[this]
 simp only[decide_eq_true_eq]
 rcases Nat.mod_two_eq_zero_or_one (x / 2 ^ p) with h | h<;>simp[h]
noncomputable def derives(g:Gram)(w:List Nat)(n i j:Nat):Bool:=@decide (Der g w ⟨false,n⟩ i j) (Classical.propDecidable _)
theorem derives_iff{g:Gram}{w:List Nat}{n i j:Nat}:derives g w n i j=true↔Der g w ⟨false,n⟩ i j:=by unfold derives;exact @decide_eq_true_iff _ (Classical.propDecidable _)
structure NS where
 xs:List Nat
 a:Option Addr
 m:Nat
 c:Nat
 B:List (Nat×Blk)
theorem der_le{g:Gram}{w:List Nat}:∀{s:Sym} {i j:Nat},Der g w s i j→i≤j:=by
 intro s i j h
 refine Der.rec (motive_1:=fun s i j _=>i≤j) (motive_2:=fun l i j _=>i≤j) ?_ ?_ ?_ ?_ h
 ·intro t i _;omega
 ·intro r i j _ _ ih;exact ih
 ·intro i;omega
 ·intro s l i m j _ _ ih1 ih2;omega
theorem ders_le{g:Gram}{w:List Nat}:∀{l:List Sym} {i j:Nat},Ders g w l i j→i≤j
 | [],i,j,h=>by rw[ders_nil.1 h];omega
 | s::l,i,j,h=>by
  obtain⟨m,h1,h2⟩:=ders_cons.1 h
  have:=der_le h1
  have:=ders_le h2
  omega
theorem part_der{g:Gram}{w:List Nat}{a b:Nat}(hb:b≤w.length):∀{s:Sym} {i j:Nat},Der g w s i j→a≤i→j≤b→Der g ((w.take b).drop a) s (i-a) (j-a):=by
 intro s i j h
 refine Der.rec (motive_1:=fun s i j _=>a≤i→j≤b→Der g ((w.take b).drop a) s (i-a) (j-a)) (motive_2:=fun l i j _=>a≤i→j≤b→Ders g ((w.take b).drop a) l (i-a) (j-a)) ?_ ?_ ?_ ?_ h
 ·intro t i h2 hi hj
  have:i+1-a=i-a+1:=by omega
  rw[this]
  refine .term ?_
  rw[List.getElem?_drop,List.getElem?_take,if_pos zo,show a+(i-a)=i by omega]
  exact h2
 ·intro r i j hr _ ih hi hj;exact .non hr (ih hi hj)
 ·intro i _ _;exact .nil
 ·intro s l i m j h1 h2 ih1 ih2 hi hj
  have h3:=der_le h1
  have h4:=ders_le h2
  exact .cons (ih1 hi zo) (ih2 zo hj)
structure Item where
 rule:Nat
 dot:Nat
 frm:Nat
deriving DecidableEq
def nextOf(rs:List Rule)(x:Item):Option Sym:=(rs[x.rule]?).bind fun r=>r.right[x.dot]?
def ItemOk(rs:List Rule)(k:Nat)(x:Item):Prop:=∃r,rs[x.rule]?=some r∧x.dot≤r.right.length∧x.frm≤k
def stepItem(x:Item):Item:=⟨x.rule,x.dot+1,x.frm⟩
def ItemClosed(rs:List Rule)(L:Nat→List Item)(k:Nat)(x:Item):Prop:=
 (∀n i r,nextOf rs x=some ⟨false,n⟩→rs[i]?=some r→r.left=n→(⟨i,0,k⟩:Item)∈L k)∧
 (∀r,rs[x.rule]?=some r→x.dot=r.right.length→∀y∈L x.frm,nextOf rs y=some ⟨false,r.left⟩→stepItem y∈L k)
structure Sets(g:Gram)(v:List Nat)(L:Nat→List Item):Prop where
 ok:∀k,k≤v.length→∀x∈L k,ItemOk g.rules k x
 start:∀i r,g.rules[i]?=some r→r.left=g.start→(⟨i,0,0⟩:Item)∈L 0
 closed:∀k,k≤v.length→∀x∈L k,ItemClosed g.rules L k x
 scan:∀k t,v[k]?=some t→∀x∈L k,nextOf g.rules x=some ⟨true,t⟩→stepItem x∈L (k+1)
theorem nextOf_at{rs:List Rule}{i d f:Nat}{r:Rule}(h:rs[i]?=some r):nextOf rs ⟨i,d,f⟩=r.right[d]?:=by
 unfold nextOf;simp[h]
theorem earley_step{g:Gram}{v w:List Nat}{L:Nat→List Item}(hL:Sets g v L)(hv:w.take v.length=v)(hvl:v.length≤w.length) :
  ∀{s:Sym} {k m:Nat},Der g w s k m→k≤m∧(m≤v.length→∀x∈L k,nextOf g.rules x=some s→stepItem x∈L m):=by
 intro s k m h
 refine Der.rec (motive_1:=fun s k m _=>k≤m∧(m≤v.length→∀x∈L k,nextOf g.rules x=some s→stepItem x∈L m))
  (motive_2:=fun l k m _=>k≤m∧(m≤v.length→∀i d f r,g.rules[i]?=some r→r.right.drop d=l→d≤r.right.length→(⟨i,d,f⟩:Item)∈L k→(⟨i,r.right.length,f⟩:Item)∈L m)) ?_ ?_ ?_ ?_ h
 ·intro t i hw
  refine⟨by omega,fun hm x hx hn=>hL.scan i t ?_ x hx hn⟩
  rw[←hv,List.getElem?_take,if_pos zo];exact hw
 ·intro r i j hr hd ih
  refine⟨ih.1,fun hj x hx hn=>?_⟩
  obtain⟨q,hq,rfl⟩:=List.getElem_of_mem hr
  have hq':g.rules[q]?=some g.rules[q]:=gE hq
  have h1:=(hL.closed i (by have:=ih.1;omega) x hx).1 _ q _ hn hq' rfl
  have h2:=ih.2 hj q 0 i _ hq' rfl zo h1
  exact(hL.closed j hj _ h2).2 _ hq' rfl x hx hn
 ·intro i
  refine⟨by omega,fun hm i' d f r hr hl hd hx=>?_⟩
  have:d=r.right.length:=by
   have:=congrArg List.length hl;simp at this;omega
  rw[this] at hx;exact hx
 ·intro s l i m j h1 h2 ih1 ih2
  refine⟨by have:=ih1.1;have:=ih2.1;omega,fun hj q d f r hr hl hd hx=>?_⟩
  have hdl:d<r.right.length:=by
   have:=congrArg List.length hl;simp at this;omega
  have hn:nextOf g.rules ⟨q,d,f⟩=some s:=by
   rw[nextOf_at hr]
   have:(r.right.drop d)[0]?=some s:=by rw[hl];rfl
   simpa using this
  have h3:=ih1.2 (by have:=ih2.1;omega) _ hx hn
  refine ih2.2 hj q (d+1) f r hr ?_ zo h3
  have:(r.right.drop d).drop 1=l:=by rw[hl];rfl
  rw[List.drop_drop] at this;exact this
theorem earley_next{g:Gram}{v w:List Nat}{L:Nat→List Item}(hL:Sets g v L)(hv:w.take v.length=v)(hvl:v.length≤w.length){t:Nat}(ht:w[v.length]?=some t) :
  ∀{s:Sym} {k m:Nat},Der g w s k m→k≤v.length→v.length<m→∀x∈L k,nextOf g.rules x=some s→∃y∈L v.length,nextOf g.rules y=some ⟨true,t⟩:=by
 intro s k m h
 refine Der.rec (motive_1:=fun s k m _=>k≤v.length→v.length<m→∀x∈L k,nextOf g.rules x=some s→∃y∈L v.length,nextOf g.rules y=some ⟨true,t⟩)
  (motive_2:=fun l k m _=>k≤v.length→v.length<m→∀i d f r,g.rules[i]?=some r→r.right.drop d=l→d≤r.right.length→(⟨i,d,f⟩:Item)∈L k→∃y∈L v.length,nextOf g.rules y=some ⟨true,t⟩) ?_ ?_ ?_ ?_ h
 ·intro t' i hw hk hm x hx hn
  obtain rfl:i=v.length:=by omega
  rw[ht] at hw;cases hw
  exact⟨x,hx,hn⟩
 ·intro r i j hr hd ih hk hm x hx hn
  obtain⟨q,hq,rfl⟩:=List.getElem_of_mem hr
  have hq':g.rules[q]?=some g.rules[q]:=gE hq
  have h1:=(hL.closed i hk x hx).1 _ q _ hn hq' rfl
  exact ih hk hm q 0 i _ hq' rfl zo h1
 ·intro i hk hm;omega
 ·intro s l i m j h1 h2 ih1 ih2 hk hj q d f r hr hl hd hx
  have hdl:d<r.right.length:=by
   have:=congrArg List.length hl;simp at this;omega
  have hn:nextOf g.rules ⟨q,d,f⟩=some s:=by
   rw[nextOf_at hr]
   have:(r.right.drop d)[0]?=some s:=by rw[hl];rfl
   simpa using this
  rcases Nat.lt_or_ge v.length m with hm | hm
  ·exact ih1 hk hm _ hx hn
  ·have h3:=(earley_step hL hv hvl h1).2 hm _ hx hn
   refine ih2 hm hj q (d+1) f r hr ?_ zo h3
   have:(r.right.drop d).drop 1=l:=by rw[hl];rfl
   rw[List.drop_drop] at this;exact this
theorem earley_viable{g:Gram}{v w:List Nat}{L:Nat→List Item}(hL:Sets g v L)(hv:w.take v.length=v){t:Nat}(ht:w[v.length]?=some t)(h:Der g w ⟨false,g.start⟩ 0 w.length) :
  ∃y∈L v.length,nextOf g.rules y=some ⟨true,t⟩:=by
 have hvl:=(gS ht).1
 obtain⟨r,hr,hrl,hd⟩:=der_non.1 h
 obtain⟨q,hq,rfl⟩:=List.getElem_of_mem hr
 have hq':g.rules[q]?=some g.rules[q]:=gE hq
 have h0:=hL.start q _ hq' hrl
 have key:∀(l:List Sym) (k m:Nat),Ders g w l k m→k≤v.length→v.length<m→∀d,g.rules[q].right.drop d=l→d≤g.rules[q].right.length→(⟨q,d,0⟩:Item)∈L k→∃y∈L v.length,nextOf g.rules y=some ⟨true,t⟩:=by
  intro l
  induction l with
  | nil=>intro k m h hk hm;rw[ders_nil.1 h] at hk;omega
  | cons s l ih=>
   intro k j h hk hj d hl hdl hx
   obtain⟨m,h1,h2⟩:=ders_cons.1 h
   have hdl:d<g.rules[q].right.length:=by
    have:=congrArg List.length hl;simp at this;omega
   have hn:nextOf g.rules ⟨q,d,0⟩=some s:=by
    rw[nextOf_at hq']
    have:(g.rules[q].right.drop d)[0]?=some s:=by rw[hl];rfl
    simpa using this
   rcases Nat.lt_or_ge v.length m with hm | hm
   ·exact earley_next hL hv zo ht h1 hk hm _ hx hn
   ·have h3:=(earley_step hL hv zo h1).2 hm _ hx hn
    refine ih m j h2 hm hj (d+1) ?_ zo h3
    have:(g.rules[q].right.drop d).drop 1=l:=by rw[hl];rfl
    rw[List.drop_drop] at this;exact this
 exact key _ 0 w.length hd zo zo 0 rfl zo h0
def EndsClosed(g:Gram)(E:List Bool):Prop:=∀r∈g.rules,(∀y∈r.right,y.term=true∨E[y.n]?=some true)→E[r.left]?=some true
def useful(E:List Bool)(r:Rule):Bool:=!(r.right.any fun y=>!y.term&&!(E.getD y.n false))
def trimmed(E:List Bool)(g:Gram):Gram:={ g with rules:=g.rules.filter (useful E) }
theorem useful_iff{E:List Bool}{r:Rule}:useful E r=true↔∀y∈r.right,y.term=true∨E[y.n]?=some true:=by
 unfold useful
 rw[Bool.not_eq_true',List.any_eq_false]
 constructor
 ·intro h y hy
  have:=h y hy
  cases ht:y.term with
  | true=>exact .inl rfl
  | false=>
   refine .inr ?_
   rw[ht,List.getD_eq_getElem?_getD] at this
   cases he:E[y.n]? with
   | none=>rw[he] at this;simp at this
   | some b=>rw[he] at this;simp at this;rw[this]
 ·intro h y hy
  rcases h y hy with h | h
  ·simp[h]
  ·rw[List.getD_eq_getElem?_getD,h];simp
theorem der_trimmed{g:Gram}{w:List Nat}{E:List Bool}(hE:EndsClosed g E):∀{s:Sym} {i j:Nat},Der g w s i j→Der (trimmed E g) w s i j∧(s.term=true∨E[s.n]?=some true):=by
 intro s i j h
 refine Der.rec (motive_1:=fun s i j _=>Der (trimmed E g) w s i j∧(s.term=true∨E[s.n]?=some true)) (motive_2:=fun l i j _=>Ders (trimmed E g) w l i j∧∀y∈l,y.term=true∨E[y.n]?=some true) ?_ ?_ ?_ ?_ h
 ·intro t i h;exact⟨.term h,.inl rfl⟩
 ·intro r i j hr _ ih
  exact⟨.non (List.mem_filter.2 ⟨hr,useful_iff.2 ih.2⟩) ih.1,.inr (hE r hr ih.2)⟩
 ·intro i;exact⟨.nil,fun y hy=>by cases hy⟩
 ·intro s l i m j _ _ ih1 ih2
  refine⟨.cons ih1.1 ih2.1,fun y hy=>?_⟩
  rcases List.mem_cons.1 hy with rfl | hy
  ·exact ih1.2
  ·exact ih2.2 y hy
def stepLen(O:List Int)(sum:Int)(s:Sym):Int:=
 if s.term=true∧0≤sum then sum+1 else if 0≤sum∧0≤O.getD s.n (-1) then sum+O.getD s.n (-1) else -1
def sumLen(O:List Int)(a:Int)(l:List Sym):Int:=l.foldl (stepLen O) a
def knownLen(O:List Int)(y:Sym):Prop:=y.term=true∨0≤O.getD y.n (-1)
theorem sumLen_known{O:List Int}:∀(l:List Sym) (a:Int),0≤sumLen O a l→0≤a∧∀y∈l,knownLen O y
 | [],a,h=>⟨h,fun _ h=>by cases h⟩
 | y::l,a,h=>by
  obtain⟨h1,h2⟩:=sumLen_known l (stepLen O a y) h
  unfold stepLen at h1
  by_cases c1:y.term=true∧0≤a
  ·exact⟨c1.2,fun z hz=>by rcases List.mem_cons.1 hz with rfl | hz;exact .inl c1.1;exact h2 z hz⟩
  ·rw[if_neg c1] at h1
   by_cases c2:0≤a∧0≤O.getD y.n (-1)
   ·exact⟨c2.1,fun z hz=>by rcases List.mem_cons.1 hz with rfl | hz;exact .inr c2.2;exact h2 z hz⟩
   ·rw[if_neg c2] at h1;omega
theorem sumLen_of{O:List Int}{M:Int}(hM:1≤M)(hO:∀x∈O,x≤M):∀(l:List Sym) (a:Int),0≤a→(∀y∈l,knownLen O y)→0≤sumLen O a l∧sumLen O a l≤a+l.length*M
 | [],a,h,_=>by simp[sumLen,h]
 | y::l,a,h,hk=>by
  have hy:∀v,O.getD y.n (-1)=v→v≤M:=by
   rintro v rfl
   rw[List.getD_eq_getElem?_getD]
   cases e:O[y.n]? with
   | none=>simp;omega
   | some x=>simpa using hO x (gM e)
  have hy:=hy _ rfl
  have h1:0≤stepLen O a y∧stepLen O a y≤a+M:=by
   unfold stepLen
   by_cases c1:y.term=true∧0≤a
   ·rw[if_pos c1];omega
   ·rw[if_neg c1]
    have c2:0≤a∧0≤O.getD y.n (-1):=by
     rcases hk y me with h2 | h2
     ·exact absurd ⟨h2,h⟩ c1
     ·exact⟨h,h2⟩
    rw[if_pos c2];omega
  obtain⟨h2,h3⟩:=sumLen_of hM hO l (stepLen O a y) h1.1 (fun z hz=>hk z (List.mem_cons_of_mem _ hz))
  have:((y::l).length:Int)*M=l.length*M+M:=by
   rw[List.length_cons];push_cast;rw[Int.add_mul,Int.one_mul]
  rw[this]
  refine⟨h2,?_⟩
  show sumLen O (stepLen O a y) l≤_
  omega
theorem stepLen_ge(O:List Int)(a:Int)(y:Sym):-1≤stepLen O a y:=by
 unfold stepLen;split
 ·omega
 ·split<;>omega
theorem sumLen_ge{O:List Int}:∀(l:List Sym) (a:Int),-1≤a→-1≤sumLen O a l
 | [],a,h=>h
 | y::l,a,h=>sumLen_ge l (stepLen O a y) (stepLen_ge O a y)
theorem sumLen_le{O:List Int}{M:Int}(hM:1≤M)(hO:∀x∈O,x≤M)(l:List Sym):sumLen O 0 l≤l.length*M:=by
 rcases Int.lt_or_le (sumLen O 0 l) 0 with h | h
 ·have:0≤(l.length:Int)*M:=Int.mul_nonneg zo zo
  omega
 ·have:=(sumLen_of hM hO l 0 zo (sumLen_known l 0 h).2).2
  omega
def knownN(O:List Int):Nat:=O.countP fun x=>decide (0≤x)
def wgtLen(x:Int):Nat:=if x<0 then 1048577 else x.toNat
def wgtsLen(O:List Int):Nat:=(O.map wgtLen).sum
structure LenOk(nons:Nat)(O:List Int):Prop where
 len:O.length=nons
 ge:∀x∈O,-1≤x
 le:∀x∈O,x≤((4 ^ knownN O:Nat):Int)
def HasWord(g:Gram)(n:Nat):Prop:=∃w,Der g w ⟨false,n⟩ 0 w.length
def LenSound(g:Gram)(O:List Int):Prop:=∀n x,O[n]?=some x→0≤x→HasWord g n
def LenClosed(O:List Int)(r:Rule):Prop:=0≤sumLen O 0 r.right→0≤O.getD r.left (-1)∧O.getD r.left (-1)≤sumLen O 0 r.right
theorem knownN_le(O:List Int):knownN O≤O.length:=List.countP_le_length
theorem knownN_set{O:List Int}{i:Nat}{x y:Int}(h:O[i]?=some x)(hy:0≤y):knownN (O.set i y)=knownN O+(if 0≤x then 0 else 1):=by
 unfold knownN
 induction O generalizing i with
 | nil=>simp at h
 | cons a O ih=>
  cases i with
  | zero=>
   simp at h;subst h
   simp only[List.set_cons_zero,List.countP_cons]
   by_cases hx:0≤a<;>simp[hx,hy]
  | succ i=>
   simp only[List.set_cons_succ,List.countP_cons]
   rw[ih (by simpa using h)]
   omega
theorem pow_le_of(n:Nat)(h:n≤10):(4 ^ n:Nat)≤1048576:=by
 have:4 ^ n≤4 ^ 10:=Nat.pow_le_pow_right (by decide) h
 exact this
theorem LenOk.max{nons:Nat}{O:List Int}(h:LenOk nons O)(hn:nons≤10):∀x∈O,x≤1048576:=fun x hx=>by
 have h1:=h.le x hx
 have h2:=pow_le_of (knownN O) (by have:=knownN_le O;have:=h.len;omega)
 omega
theorem LenOk.sum{nons:Nat}{O:List Int}(h:LenOk nons O){l:List Sym}(hl:l.length≤4):sumLen O 0 l≤((4 ^ (knownN O+1):Nat):Int):=by
 have hp:0<4 ^ knownN O:=Nat.pow_pos (by decide)
 have h1:=sumLen_le (M:=((4 ^ knownN O:Nat):Int)) zo h.le l
 have h2:(l.length:Int)*((4 ^ knownN O:Nat):Int)≤4*((4 ^ knownN O:Nat):Int):=Int.mul_le_mul_of_nonneg_right zo zo
 rw[Nat.pow_succ,Nat.mul_comm]
 push_cast at *
 omega
theorem LenOk.put{nons:Nat}{O:List Int}(h:LenOk nons O){l:List Sym}(hl:l.length≤4){i:Nat}{x:Int}(hx:O[i]?=some x)(h1:0≤sumLen O 0 l)(h2:x<0∨sumLen O 0 l<x):LenOk nons (O.set i (sumLen O 0 l)):=by
 have hk:=knownN_set hx h1
 have hp:4 ^ knownN O≤4 ^ knownN (O.set i (sumLen O 0 l)):=Nat.pow_le_pow_right (by decide) (by rw[hk];omega)
 refine⟨by simp[h.len],fun y hy=>?_,fun y hy=>?_⟩
 ·rcases List.mem_or_eq_of_mem_set hy with hy | rfl
  ·exact h.ge y hy
  ·omega
 ·rcases List.mem_or_eq_of_mem_set hy with hy | rfl
  ·have:=h.le y hy;omega
  ·by_cases hx0:0≤x
   ·have:=h.le x (gM hx)
    omega
   ·rw[hk,if_neg hx0]
    exact h.sum hl
theorem wgts_put{O:List Int}{i:Nat}{x y:Int}(h:O[i]?=some x)(hy:0≤y)(hy2:y≤1048576)(hlt:x<0∨y<x):wgtsLen (O.set i y)<wgtsLen O:=by
 unfold wgtsLen
 rw[List.map_set]
 have:=sum_set (l:=O.map wgtLen) (i:=i) (x:=wgtLen x) (y:=wgtLen y) (by rw[List.getElem?_map,h];rfl)
 have:wgtLen y<wgtLen x:=by
  unfold wgtLen
  rw[if_neg zo]
  split<;>omega
 omega
theorem der_wrap{g:Gram}{w u v:List Nat}:∀{s:Sym} {i j:Nat},Der g w s i j→Der g (u++(w++v)) s (u.length+i) (u.length+j):=by
 intro s i j h
 refine Der.rec (motive_1:=fun s i j _=>Der g (u++(w++v)) s (u.length+i) (u.length+j)) (motive_2:=fun l i j _=>Ders g (u++(w++v)) l (u.length+i) (u.length+j)) ?_ ?_ ?_ ?_ h
 ·intro t i h
  refine .term (t:=t) (i:=u.length+i) ?_
  have:=(gS h).1
  rw[List.getElem?_append_right zo,Nat.add_sub_cancel_left,List.getElem?_append_left this]
  exact h
 ·intro r i j hr _ ih;exact .non hr ih
 ·intro i;exact .nil
 ·intro s l i m j _ _ h1 h2;exact .cons h1 h2
theorem ders_wrap{g:Gram}{w u v:List Nat}:∀{l:List Sym} {i j:Nat},Ders g w l i j→Ders g (u++(w++v)) l (u.length+i) (u.length+j)
 | [],i,j,h=>by rw[ders_nil.1 h];exact .nil
 | s::l,i,j,h=>by
  obtain⟨m,h1,h2⟩:=ders_cons.1 h
  exact .cons (der_wrap h1) (ders_wrap h2)
theorem hasWord_list{g:Gram}:∀(l:List Sym),(∀y∈l,y.term=true∨HasWord g y.n)→∃w,Ders g w l 0 w.length
 | [],_=>⟨[],.nil⟩
 | y::l,h=>by
  obtain⟨w2,h2⟩:=hasWord_list l (fun z hz=>h z (List.mem_cons_of_mem _ hz))
  have:∃w1,Der g w1 y 0 w1.length:=by
   cases y with
   | mk term n=>
    cases term with
    | true=>exact⟨[n],.term rfl⟩
    | false=>
     rcases h _ me with h | h
     ·cases h
     ·exact h
  obtain⟨w1,h1⟩:=this
  refine⟨w1++w2,?_⟩
  have e1:=der_wrap (u:=[]) (v:=w2) h1
  have e2:=ders_wrap (u:=w1) (v:=[]) h2
  simp only[List.nil_append,List.length_nil,Nat.zero_add,List.append_nil,Nat.add_zero] at e1 e2
  rw[List.length_append]
  exact .cons e1 e2
theorem hasWord_rule{g:Gram}{r:Rule}(hr:r∈g.rules)(h:∀y∈r.right,y.term=true∨HasWord g y.n):HasWord g r.left:=by
 obtain⟨w,hw⟩:=hasWord_list r.right h
 exact⟨w,.non hr hw⟩
theorem LenSound.put{g:Gram}{O:List Int}(h:LenSound g O){r:Rule}(hr:r∈g.rules)(h1:0≤sumLen O 0 r.right):LenSound g (O.set r.left (sumLen O 0 r.right)):=by
 intro n x hx h0
 by_cases hn:n=r.left
 ·subst hn
  refine hasWord_rule hr fun y hy=>?_
  rcases (sumLen_known _ _ h1).2 y hy with h2 | h2
  ·exact .inl h2
  ·refine .inr ?_
   rw[List.getD_eq_getElem?_getD] at h2
   cases e:O[y.n]? with
   | none=>rw[e] at h2;simp at h2
   | some z=>rw[e] at h2;exact h y.n z e (by simpa using h2)
 ·rw[List.getElem?_set_ne zo] at hx
  exact h n x hx h0
def endsOfLen(O:List Int):List Bool:=O.map fun x=>decide (0≤x)
structure EndsIn(g:Gram)(E:List Bool):Prop where
 len:E.length=g.nons
 closed:EndsClosed g E
 sound:∀n,E[n]?=some true→HasWord g n
theorem endsIn_of{g:Gram}{O:List Int}(hO:LenOk g.nons O)(hs:LenSound g O)(hc:∀r∈g.rules,LenClosed O r):EndsIn g (endsOfLen O):=by
 have at_:∀n,(endsOfLen O)[n]?=some true↔0≤O.getD n (-1):=by
  intro n
  unfold endsOfLen
  rw[List.getElem?_map,List.getD_eq_getElem?_getD]
  cases e:O[n]? with
  | none=>simp
  | some x=>simp
 refine⟨by simp[endsOfLen,hO.len],fun r hr h=>?_,fun n h=>?_⟩
 ·refine(at_ _).2 (hc r hr ?_).1
  refine (sumLen_of (M := ((4 ^ knownN O : Nat) : Int)) (by have : 0 < 4 ^ knownN O := Nat.pow_pos (by decide)
                                                            omega) hO.le r.right 0 zo (fun y hy=>?_)).1
  rcases h y hy with h | h
  ·exact .inl h
  ·exact .inr ((at_ _).1 h)
 ·have:=(at_ n).1 h
  rw[List.getD_eq_getElem?_getD] at this
  cases e:O[n]? with
  | none=>rw[e] at this;simp at this
  | some x=>rw[e] at this;exact hs n x e (by simpa using this)
theorem EndsIn.iff{g:Gram}{E:List Bool}(h:EndsIn g E){n:Nat}:E[n]?=some true↔HasWord g n:=by
 refine⟨h.sound n,fun ⟨w,hw⟩=>?_⟩
 rcases (der_trimmed h.closed hw).2 with h | h
 ·cases h
 ·exact h
theorem perm_to1{α:Type}(x a:α)(l:List α):(x::a::l).Perm (a::x::l):=List.Perm.swap _ _ _
theorem perm_to2{α:Type}(x a b:α)(l:List α):(x::a::b::l).Perm (a::b::x::l):=(List.perm_middle (l₁:=[a,b])).symm
theorem perm_to3{α:Type}(x a b c:α)(l:List α):(x::a::b::c::l).Perm (a::b::c::x::l):=(List.perm_middle (l₁:=[a,b,c])).symm
def tItem:Ty Item where
 size:=3
 rel:=fun _ l x=>l=[.int .i64 x.rule,.int .i64 x.dot,.int .i64 x.frm]
 len:=fun _ _ _ h=>by rw[h];rfl
 one:=fun _ _ _ h=>by rw[h];rfl
 mono:=fun _ _ _ _ _ h=>h
theorem symClone_spec(F:Frz){a:Option Addr}{m c:Nat}{xs:List Sym}(hx:Arr tSym F a m c xs)(hm:m≤1000000) :
  Abs.Spec CC 72 [.slice a m c] F [] fun F' v o=>∃B',o=[B']∧∃a' c',v=.slice a' m c'∧Vec tSym F' a' m c' B' xs:=by
 refine Abs.Spec.fn (n:=8) Tryd.func72 rfl rfl fun own=>?_
 refine zB4 ?_
 refine WT.sliceNil hT Z Z Z Z Z Z Z Z ?_
 refine zB4 ?_
 refine AW.cond Z (fun h=>?_) (fun h=>?_)
 ·obtain rfl:a=none:=by simpa using h
  obtain⟨rfl,rfl⟩:=hx.nil rfl
  obtain rfl:xs=[]:=List.eq_nil_of_length_eq_zero hx.len.symm
  refine zB4 ?_
  refine AW.le (own2:=[]::own) (OwnLe.flat (List.Perm.refl _)) ?_
  exact AW.ret ⟨_,[[]],⟨_,_,rfl,rfl,rfl⟩,zsb,_,rfl,_,_,rfl,(Bld.nil_ _ _).vec⟩
 ·refine zB4 ?_
  refine WT.buildT hT Z Z Z Z Z Z Z Z Z Z Z Z Z Z (fun i5 hi5=>?_)
  refine zB4 ?_
  obtain⟨ds,hds,hcs⟩:=news_arr hT hx (t:=47) rfl rfl 69
  refine WT.appendE hT Z Z Z Z Z Z Z Z Z Z Z Z (fun h0 s0=>hds _ h0 s0) hcs hx.len (by decide) zom (fun a' c' B' hB' _=>?_)
  refine zB4 ?_
  refine AW.le (OwnLe.cons _ (OwnLe.skip _ oR)) ?_
  exact AW.ret ⟨_,[_],⟨_,_,rfl,rfl,rfl⟩,zsb,_,rfl,_,_,rfl,hB'⟩
theorem itemClone_spec(F:Frz){a:Option Addr}{m c:Nat}{xs:List Item}(hx:Arr tItem F a m c xs)(hm:m≤1000000) :
  Abs.Spec CC 92 [.slice a m c] F [] fun F' v o=>∃B',o=[B']∧∃a' c',v=.slice a' m c'∧Vec tItem F' a' m c' B' xs:=by
 refine Abs.Spec.fn (n:=8) Tryd.func92 rfl rfl fun own=>?_
 refine zB4 ?_
 refine WT.sliceNil hT Z Z Z Z Z Z Z Z ?_
 refine zB4 ?_
 refine AW.cond Z (fun h=>?_) (fun h=>?_)
 ·obtain rfl:a=none:=by simpa using h
  obtain⟨rfl,rfl⟩:=hx.nil rfl
  obtain rfl:xs=[]:=List.eq_nil_of_length_eq_zero hx.len.symm
  refine zB4 ?_
  refine AW.le (own2:=[]::own) (OwnLe.flat (List.Perm.refl _)) ?_
  exact AW.ret ⟨_,[[]],⟨_,_,rfl,rfl,rfl⟩,zsb,_,rfl,_,_,rfl,(Bld.nil_ _ _).vec⟩
 ·refine zB4 ?_
  refine WT.buildT hT Z Z Z Z Z Z Z Z Z Z Z Z Z Z (fun i5 hi5=>?_)
  refine zB4 ?_
  obtain⟨ds,hds,hcs⟩:=news_arr hT hx (t:=132) rfl rfl 134
  refine WT.appendE hT Z Z Z Z Z Z Z Z Z Z Z Z (fun h0 s0=>hds _ h0 s0) hcs hx.len (by decide) zom (fun a' c' B' hB' _=>?_)
  refine zB4 ?_
  refine AW.le (OwnLe.cons _ (OwnLe.skip _ oR)) ?_
  exact AW.ret ⟨_,[_],⟨_,_,rfl,rfl,rfl⟩,zsb,_,rfl,_,_,rfl,hB'⟩
theorem gN_spec(F:Frz)(n:Int):Abs.Spec CC 49 [.int .i64 n] F [] fun _ v o=>o=[]∧v=.agg ⟨[.bool false,.int .i64 n]⟩:=by
 refine Abs.Spec.fn (n:=5) Tryd.func49 rfl rfl fun own=>?_
 refine AW.seq (AW.reg ?_)
 refine WT.allocT hT Z Z Z Z Z Z (fun i2 hi2=>?_)
 refine zB4 ?_
 exact AW.ret ⟨_,[],⟨_,_,⟨_,rfl,fun G h0 s0=>loadA_cells (s0.has (p:=0) rfl me) (readT_ok hT rfl)⟩,rfl,rfl⟩,zsb,rfl,rfl⟩
theorem gT_spec(F:Frz)(n:Int):Abs.Spec CC 79 [.int .i64 n] F [] fun _ v o=>o=[]∧v=.agg ⟨[.bool true,.int .i64 n]⟩:=by
 refine Abs.Spec.fn (n:=5) Tryd.func79 rfl rfl fun own=>?_
 refine AW.seq (AW.reg ?_)
 refine WT.allocT hT Z Z Z Z Z Z (fun i2 hi2=>?_)
 refine zB4 ?_
 exact AW.ret ⟨_,[],⟨_,_,⟨_,rfl,fun G h0 s0=>loadA_cells (s0.has (p:=0) rfl me) (readT_ok hT rfl)⟩,rfl,rfl⟩,zsb,rfl,rfl⟩
structure CS where
 j:Nat
 a:Option Addr
 c:Nat
 B:List (Nat×Blk)
theorem copy_spec(F:Frz)(g:Gram){a:Option Addr}{m c:Nat}(hr:Arr tRule F a m c g.rules)(hm:m≤1000000)(hrr:∀r∈g.rules,r.right.length≤1000000) :
  Abs.Spec CC 38 [.agg ⟨gramCells g a m c⟩] F [] fun F' v o=>∃B',o=[B']∧∃a' c',v=.agg ⟨gramCells g a' m c'⟩∧Bld tRule F' a' m c' B' g.rules:=by
 unfold gramCells
 have hrl:=hr.len
 refine Abs.Spec.fn (n:=28) Tryd.func38 rfl rfl fun own=>?_
 refine AW.seq (AW.reg ?_)
 refine WT.boxT Z Z Z Z Z Z (fun i1 hi1=>?_)
 refine WT.allocT hT Z Z Z Z Z Z (fun i2 hi2=>?_)
 refine zB4 ?_
 refine WT.allocT hT Z Z Z Z Z Z (fun i3 hi3=>?_)
 refine zB4 ?_
 refine AW.range (S:=CS) (fun _=>[]) (fun s=>s.B::[(i3,.cells false [.int .i64 g.terms,.int .i64 g.nons,.int .i64 g.start,.slice s.a (g.rules.take s.j).length s.c])]::[(i2,.cells false [.int .i64 0,.int .i64 0,.int .i64 0,.slice none 0 0])]::[(i1,.cells false [.int .i64 g.terms,.int .i64 g.nons,.int .i64 g.start,.slice a m c])]::own)
  (fun j s G=>s.j=j∧Bld tRule G s.a (g.rules.take s.j).length s.c s.B (g.rules.take s.j)) m ⟨0,none,0,[]⟩
  Z Z Z Z Z Z Z Z Z zo rfl rfl (fun _=>rfl) (fun _=>rfl) sM (OwnLe.flat (List.Perm.refl _)) ⟨rfl,by simpa using Bld.nil_ _ _⟩ ?_ ?_
 ·intro j s F1 hF1 hj hP
  obtain⟨rfl,hb⟩:=hP
  have hr1:=hr.mono hF1
  refine zB6 ?_
  refine WT.idxL hT hr1 Z Z Z Z Z Z Z Z Z zo (fun r hrj b off ro cs lx hb1 hp1 hrel=>?_)
  obtain⟨ra,rn,rc,rfl,hra⟩:=hrel
  have hral:=hra.len
  have hrn:=hrr r (gM hrj)
  refine zB6 ?_
  refine WT.allocT hT Z Z Z Z Z Z (fun i5 hi5=>?_)
  refine zB6 ?_
  refine AW.draw (ps:=[(1,6),(1,8),(3,6)]) Z Z ?_
  refine zB6 ?_
  refine WT.callN Tryd.func72 Z Z Z Z Z Z (symClone_spec _ hra zo) (fun F2 v B2 hF2 hv=>?_)
  obtain⟨ca,cc,rfl,hcv⟩:=hv
  refine WT.freezeAll 0 Z Z (fun F3 hF3 hB3=>?_)
  have hca:=hcv.arr hF3 hB3
  have hb3:=(hb.mono hF2).mono hF3
  refine zB6 ?_
  refine WT.buildT hT Z Z Z Z Z Z Z Z Z Z Z Z Z Z (fun i9 hi9=>?_)
  have hlt:(g.rules.take s.j).length≤1000000:=by simp;omega
  refine WT.appendT (ys:=[r]) hT 3 hb3 Z (fun _=>rfl) Z Z Z Z Z Z Z Z Z Z Z (fun h0 s0=>news_own hT s0 0 Z Z Z Z) (Cells.single (R:=tRule) (x:=r) ⟨_,_,_,rfl,hca⟩) Z (by decide) zom (fun a3 c3 B3 hB3=>?_)
  have he:g.rules.take (s.j+1)=g.rules.take s.j++[r]:=by rw[List.take_add_one,hrj];rfl
  have hl2:(g.rules.take (s.j+1)).length=(g.rules.take s.j).length+1:=by rw[he];simp
  rw[←he,←hl2] at hB3
  rw[←hl2]
  refine zB6 ?_
  refine⟨zrC,?_⟩
  exact⟨⟨s.j+1,a3,c3,B3⟩,sM,zow,rfl,hB3⟩
 ·intro s F1 hF1 hP
  obtain⟨rfl,hb⟩:=hP
  rw[List.take_of_length_le zo,←hrl] at hb
  rw[List.take_of_length_le zo,←hrl]
  refine zB6 ?_
  refine AW.perm (perm_to3 _ _ _ _ _) ?_
  refine AW.ret ⟨_,[_],⟨_,_,⟨_,rfl,fun G h0 s0=>loadA_cells (s0.has (p:=1) Z me) (readT_ok hT rfl)⟩,rfl,rfl⟩,zsb,_,rfl,_,_,rfl,?_⟩
  exact hb
theorem mask32{x:Nat}(h:x<4294967296):intBinA .and .u64 (x:Int) 4294967295=some (.int .u64 (x:Int)):=by
 have:=and64 (x:=x) (y:=4294967295) zo (by decide)
 rw[show x &&& 4294967295=x by
  have:=Nat.and_two_pow_sub_one_eq_mod x 32
  rw[show 2 ^ 32-1=4294967295 from rfl] at this
  rw[this];exact Nat.mod_eq_of_lt h] at this
 exact this
theorem sh32z{x:Nat}(h:x<4294967296):shiftA .shr .u64 (x:Int) 32=some (.int .u64 0):=by
 have:=shr64 (x:=x) (y:=32) (by decide)
 rw[Nat.div_eq_of_lt (by exact h)] at this
 exact this
theorem mulz(y:Nat):intBinA .mul .u64 0 (y:Int)=some (.int .u64 0):=by
 have:=mul64 0 y;rw[Nat.zero_mul] at this;exact this
theorem zmul(y:Nat):intBinA .mul .u64 (y:Int) 0=some (.int .u64 0):=by
 have:=mul64 y 0;rw[Nat.mul_zero] at this;exact this
theorem muls{x y:Nat}(h:x*y<18446744073709551616):intBinA .mul .u64 (x:Int) (y:Int)=some (.int .u64 ((x*y:Nat):Int)):=by
 rw[mul64,Nat.mod_eq_of_lt h]
theorem mul64_spec(F:Frz)(x y:Nat)(hx:x<65536)(hy:y<65536):Abs.Spec CC 103 [.int .u64 x,.int .u64 y] F [] fun _ v o=>o=[]∧v=.tuple ⟨[.int .u64 0,.int .u64 ((x*y:Nat):Int)]⟩:=by
 have hxy:x*y<4294967296:=Nat.mul_lt_mul'' hx hy
 refine Abs.Spec.fn (n:=51) Tryd.func103 rfl rfl fun own=>?_
 refine zB4 ?_
 refine WT.binV Z Z Z Z Z Z (by decide) (mask32 zo) ?_
 refine zB4 ?_
 refine WT.shV Z Z Z Z Z Z (by decide) (sh32z zo) ?_
 refine zB4 ?_
 refine WT.binV Z Z Z Z Z Z (by decide) (mask32 zo) ?_
 refine zB4 ?_
 refine WT.shV Z Z Z Z Z Z (by decide) (sh32z zo) ?_
 refine zB4 ?_
 refine WT.binV Z Z Z Z Z Z (by decide) (muls zo) ?_
 refine zB4 ?_
 refine WT.binV Z Z Z Z Z Z (by decide) (mulz y) ?_
 refine zB4 ?_
 refine WT.shV Z Z Z Z Z Z (by decide) (sh32z hxy) ?_
 refine WT.binV (v:=.int .u64 0) Z Z Z Z Z Z (by decide) Z ?_
 refine zB4 ?_
 refine WT.binV (v:=.int .u64 0) Z Z Z Z Z Z (by decide) Z ?_
 refine zB4 ?_
 refine WT.shV (v:=.int .u64 0) Z Z Z Z Z Z (by decide) Z ?_
 refine zB4 ?_
 refine WT.binV Z Z Z Z Z Z (by decide) (zmul x) ?_
 refine WT.binV (v:=.int .u64 0) Z Z Z Z Z Z (by decide) Z ?_
 refine zB4 ?_
 refine WT.binV (v:=.int .u64 0) Z Z Z Z Z Z (by decide) Z ?_
 refine zB4 ?_
 refine WT.binV (v:=.int .u64 0) Z Z Z Z Z Z (by decide) Z ?_
 refine zB4 ?_
 refine WT.shV (v:=.int .u64 0) Z Z Z Z Z Z (by decide) Z ?_
 refine WT.binV (v:=.int .u64 0) Z Z Z Z Z Z (by decide) Z ?_
 refine zB4 ?_
 refine WT.binV Z Z Z Z Z Z (by decide) (muls zo) ?_
 refine zB4 ?_
 exact AW.ret ⟨_,[],⟨_,_,rfl,⟨_,_,rfl,rfl,rfl⟩,rfl⟩,zsb,rfl,rfl⟩
theorem mul_spec(F:Frz)(x y:Nat)(hx:x<65536)(hy:y<65536):Abs.Spec CC 101 [.int .u64 x,.int .u64 y] F [] fun _ v o=>o=[]∧v=.tuple ⟨[.int .u64 0,.int .u64 ((x*y:Nat):Int)]⟩:=by
 refine Abs.Spec.fn (n:=30) Tryd.func101 rfl rfl fun own=>?_
 refine zB4 ?_
 refine AW.cond Z (fun h=>(by cases h)) (fun _=>?_)
 refine zB4 ?_
 refine WT.callV Tryd.func103 Z Z Z Z Z Z (mul64_spec _ x y hx hy) (fun v hv=>?_)
 subst hv
 refine zB4 ?_
 exact AW.ret ⟨_,[],⟨_,_,rfl,⟨_,_,rfl,rfl,rfl⟩,rfl⟩,zsb,rfl,rfl⟩
theorem repeat_spec(F:Frz){b:Nat}{ro:Bool}{z:Int}(hb:F b=some (.cells ro [.int .i64 z]))(n:Nat)(hn:n<65536) :
  Abs.Spec CC 98 [.slice (some ⟨b,0,none⟩) 1 1,.int .i64 n] F [] fun F' v o=>∃B',o=[B']∧∃i,v=.slice (some ⟨i,0,none⟩) n (bif n==0 then 0 else 1)∧B'=[(i,.cells false (List.replicate n (.int .i64 z)))]:=by
 refine Abs.Spec.fn (n:=48) Tryd.func98 rfl rfl fun own=>?_
 refine zB4 ?_
 refine AW.cond Z (fun h=>(by simp at h;omega)) (fun _=>?_)
 refine zB4 ?_
 refine WT.conv hT (k2:=.u64) Z Z Z Z Z Z Z Z (wrapU64 (by decide)) ?_
 refine zB4 ?_
 refine WT.conv hT (k2:=.u64) Z Z Z Z Z Z Z Z (wrapU64 zo) ?_
 refine WT.callV Tryd.func101 Z Z Z Z Z Z (mul_spec _ 1 n (by decide) hn) (fun v hv=>?_)
 rw[Nat.one_mul] at hv
 subst hv
 (iterate 5 (refine WT.easy hT Z Z Z Z Z ?_))
 refine WT.nil ?_
 refine AW.seq (AW.seq (AW.reg ?_))
 (iterate 4 (refine WT.easy hT Z Z Z Z Z ?_))
 refine WT.binV (v:=.bool false) Z Z Z Z Z Z (by decide) ?_ ?_
 ·simp only[intBinA,Option.some.injEq,Value.bool.injEq,decide_eq_false_iff_not];omega
 refine zB4 ?_
 refine AW.cond Z (fun h=>(by cases h)) (fun _=>?_)
 refine zB4 ?_
 refine WT.conv hT (k2:=.i64) Z Z Z Z Z Z Z Z (wrap64 zo) ?_
 refine WT.makeT (by_:=8) hT Z Z Z Z Z Z Z Z Z Z Z Z zo (fun i7 hi7=>?_)
 refine zB4 ?_
 by_cases hn0:n=0
 ·subst hn0
  refine WT.copy0 hT Z Z Z Z Z Z (fun p hp=>by cases hp;rfl) Z Z Z Z ?_
  refine zB4 ?_
  refine AW.block ?_
  refine AW.loopR (S:=Unit) (fun _=>[]) (fun _=>_) (fun _ _=>True) (fun _=>0) () sM oR trivial ?_
  intro _ F2 hF2 _
  refine zB4 ?_
  refine AW.cond Z (fun h=>(by cases h)) (fun h=>?_)
  refine AW.exit ?_
  refine zB4 ?_
  exact AW.ret ⟨_,[_],⟨_,_,rfl,rfl,rfl⟩,zsb,_,rfl,_,rfl,rfl⟩
 ·have hmin:Nat.min 1 n=1:=Nat.min_eq_left zo
  refine WT.copyOwn (m:=1) (new:=[.int .i64 z]) hT 0 Z Z Z Z Z Z Z Z Z Z Z (fun h0 s0=>?_) Z (by simp) (by simp;omega) Z ?_
  ·rw[hmin]
   simp[firstA,cellsAt,s0.frz _ _ hb,partL]
  refine WT.know (v':=.int .i64 ((1:Nat):Int)) 33 Z (by rw[hmin]) ?_
  refine zB4 ?_
  refine AW.block ?_
  refine AW.loopR (S:=Nat) (fun j=>[(8,.int .i64 (j:Nat))]) (fun j=>[(i7,.cells false (List.replicate j (.int .i64 z)++List.replicate (n-j) (.int .i64 0)))]::own) (fun j _=>1≤j∧j≤n) (fun j=>n-j) 1
   sM (OwnLe.flat (List.Perm.of_eq ?_)) ⟨Nat.le_refl _,by omega⟩ ?_
  ·have:=spliceL_rep (x:=.int .i64 z) (z:=.int .i64 0) 0 n 1 zo
   simp only[List.replicate_zero,List.nil_append,Nat.zero_add] at this
   rw[←this]
   rfl
  intro j F2 hF2 ⟨hj1,hj2⟩
  refine zB4 ?_
  refine AW.cond Z (fun h=>?_) (fun h=>?_)
  ·have h:j<n:=by simpa using h
   refine zB4 ?_
   refine AW.block ?_
   refine AW.draw (ps:=[]) Z Z ?_
   refine zB4 ?_
   refine WT.slice Z Z Z Z Z Z Z Z (fun h0=>sliceA_some (lo:=j) (hi:=n) hT Z Z Z Z Z zo (Nat.le_refl _) (by cases n<;>simp) h0) ?_
   refine zB4 ?_
   refine WT.slice Z Z Z Z Z Z Z Z (fun h0=>sliceA_some (lo:=0) (hi:=j) hT Z Z Z Z Z (Nat.zero_le _) zo (by cases n<;>simp) h0) ?_
   skip
   obtain⟨q,hq⟩:∃q,Nat.min (j-0) (n-j)=q:=⟨_,rfl⟩
   have hq1:q≤n-j:=by rw[←hq];exact Nat.min_le_right _ _
   have hq2:q≤j:=by rw[←hq];exact Nat.min_le_left (j-0) (n-j)
   have hq3:0<q:=by
    have:0<min (j-0) (n-j):=by rw[Nat.lt_min];omega
    rw[←hq];exact this
   have hfit:0+j*1+(List.replicate q (Value.int .i64 z)).length≤(List.replicate j (Value.int .i64 z)++List.replicate (n-j) (Value.int .i64 0)).length:=by
    simp only[List.length_append,List.length_replicate];omega
   refine WT.copyOwn (m:=j-0) (new:=List.replicate q (.int .i64 z)) hT 0 Z Z Z Z Z Z Z Z Z Z Z (fun h0 s0=>?_) (by simp[Go.Abs.one]) (by intro e;have:=congrArg List.length e;simp at this;omega) hfit Z ?_
   ·have hb2:=s0.has (p:=0) rfl me
    have e0:(q==0)=false:=by simpa using Nat.ne_of_gt hq3
    rw[hq]
    simp only[firstA,e0,cond_false,cellsAt,hb2,Nat.mul_one]
    exact partL_rep _ _ _ hq2
   rw[show 0+j*1=j by omega,spliceL_rep _ _ _ hq1,hq]
   refine WT.addT Z Z Z Z Z Z zo ?_
   refine WT.know (v':=.int .i64 ((j+q:Nat):Int)) 46 Z (by rw[Int.natCast_add]) ?_
   refine zB4 ?_
   refine⟨j+q,by omega,sM,OwnLe.flat (List.Perm.of_eq ?_),by omega,by omega⟩
   rw[show n-(j+q)=n-j-q by omega]
  ·have h:j=n:=by simp at h;omega
   subst h
   skip
   refine AW.exit ?_
   refine zB4 ?_
   rw[Nat.sub_self]
   simp only[List.replicate_zero,List.append_nil]
   exact AW.ret ⟨_,[_],⟨_,_,rfl,rfl,rfl⟩,zsb,_,rfl,_,rfl,rfl⟩
theorem vec_rep{F:Frz}{i n:Nat}(z:Int):Vec tInt F (some ⟨i,0,none⟩) n (bif n==0 then 0 else 1) [(i,.cells false (List.replicate n (.int .i64 z)))] (List.replicate n z):=by
 refine⟨by simp,?_,fun h=>?_,fun h=>(by cases h),fun p hp=>(by cases hp;rfl),.inr ⟨i,_,rfl,rfl,?_,by decide⟩⟩
 ·cases n<;>simp[tInt]
 ·cases n with
  | zero=>rfl
  | succ n=>simp at h
 ·induction n with
  | zero=>exact .nil
  | succ n ih=>
   rw[List.replicate_succ,List.replicate_succ]
   exact Cells.cons (R:=tInt) (l:=[.int .i64 z]) rfl ih
theorem sumLen_snoc(O:List Int)(a:Int)(l:List Sym)(y:Sym):sumLen O a (l++[y])=stepLen O (sumLen O a l) y:=by
 unfold sumLen;rw[List.foldl_append];rfl
structure LSt where
 O:List Int
 B:List (Nat×Blk)
 again:Bool
theorem lengths_spec(F:Frz)(g:Gram)(hg:Valid g){a:Option Addr}{m c:Nat}(hr:Arr tRule F a m c g.rules) :
  Abs.Spec CC 91 [.agg ⟨gramCells g a m c⟩] F [] fun F' v o=>∃B',o=[B']∧∃O a' c',v=.slice a' g.nons c'∧Vec tInt F' a' g.nons c' B' O∧LenOk g.nons O∧LenSound g O∧∀r∈g.rules,LenClosed O r:=by
 unfold gramCells
 have hrl:=hr.len
 have hgn:=hg.range.nons
 have hgr:=hg.range.rules
 refine Abs.Spec.fn (n:=81) Tryd.func91 rfl rfl fun own=>?_
 refine AW.seq (AW.reg ?_)
 refine WT.boxT Z Z Z Z Z Z (fun i1 hi1=>?_)
 refine zB4 ?_
 refine WT.buildT hT Z Z Z Z Z Z Z Z Z Z Z Z Z Z (fun i11 hi11=>?_)
 refine WT.freezeAll 0 Z Z (fun F1 hF1 hB1=>?_)
 have hi11:=hB1 i11 _ me
 refine zB4 ?_
 refine WT.callN Tryd.func98 Z Z Z Z Z Z (repeat_spec _ hi11 g.nons zo) (fun F2 v B2 hF2 hv=>?_)
 obtain⟨io,rfl,rfl⟩:=hv
 have hv0:=vec_rep (F:=F2) (i:=io) (n:=g.nons) (-1)
 have hc1:(bif g.nons==0 then 0 else 1)=1:=by rw[show (g.nons==0)=false by simp;omega];rfl
 rw[hc1] at hv0 ⊢
 refine zB4 ?_
 have hO0:LenOk g.nons (List.replicate g.nons (-1)):=⟨by simp,fun x hx=>by rw[List.eq_of_mem_replicate hx];decide,fun x hx=>by
  rw[List.eq_of_mem_replicate hx]
  have:0<4 ^ knownN (List.replicate g.nons (-1)):=Nat.pow_pos (by decide)
  omega⟩
 have hS0:LenSound g (List.replicate g.nons (-1)):=fun n x hx h=>by
  rw[List.eq_of_mem_replicate (gM hx)] at h;exact absurd h (by decide)
 refine AW.block ?_
 refine AW.loopR (S:=LSt) (fun s=>[(4,.bool s.again)]) (fun s=>s.B::[]::[(i1,.cells false [.int .i64 g.terms,.int .i64 g.nons,.int .i64 g.start,.slice a m c])]::own)
  (fun s G=>Vec tInt G (some ⟨io,0,none⟩) g.nons 1 s.B s.O∧LenOk g.nons s.O∧LenSound g s.O∧(s.again=false→∀r∈g.rules,LenClosed s.O r)) (fun s=>2*wgtsLen s.O+(if s.again then 1 else 0)) ⟨_,_,true⟩
  sM oR ⟨hv0,hO0,hS0,fun h=>by cases h⟩ ?_
 intro s F3 hF3 hP
 obtain⟨hv,hO,hS,hcl⟩:=hP
 refine zB4 ?_
 refine AW.cond Z (fun h=>?_) (fun h=>?_)
 ·have hag:s.again=true:=h
  refine zB4 ?_
  refine AW.block ?_
  refine zB4 ?_
  refine AW.range (S:=LSt) (fun t=>[(4,.bool t.again)]) (fun t=>t.B::[]::[(i1,.cells false [.int .i64 g.terms,.int .i64 g.nons,.int .i64 g.start,.slice a m c])]::own)
   (fun j t G=>Vec tInt G (some ⟨io,0,none⟩) g.nons 1 t.B t.O∧LenOk g.nons t.O∧LenSound g t.O∧wgtsLen t.O≤wgtsLen s.O∧(t.again=true→wgtsLen t.O<wgtsLen s.O)∧(t.again=false→∀r∈g.rules.take j,LenClosed t.O r)) m ⟨s.O,s.B,false⟩
   Z Z Z Z Z Z Z Z Z zo rfl rfl (fun _=>rfl) (fun _=>rfl) sM oR ⟨hv,hO,hS,Nat.le_refl _,fun h=>(by cases h),fun _ r hr=>by simp at hr⟩ ?_ ?_
  ·intro j t F4 hF4 hj hP
   obtain⟨hv4,hO4,hS4,hw4,hw5,hcl4⟩:=hP
   have hr4:=((hr.mono hF1).mono hF2).mono hF3
   have hr4:=hr4.mono hF4
   have hO4l:=hO4.len
   have hmax:=hO4.max hgn.2
   refine zB6 ?_
   refine WT.idxL hT hr4 Z Z Z Z Z Z Z Z Z zo (fun r hrj b off ro cs lx hb1 hp1 hrel=>?_)
   obtain⟨ra,rn,rc,rfl,hra⟩:=hrel
   have hral:=hra.len
   obtain⟨hrleft,hrn,hry⟩:=hg.right r (gM hrj)
   refine zB6 ?_
   refine WT.allocT hT Z Z Z Z Z Z (fun i6 hi6=>?_)
   refine zB6 ?_
   refine AW.range (S:=Int) (fun x=>[(7,.int .i64 x)]) (fun _=>_) (fun q x G=>x=sumLen t.O 0 (r.right.take q)) rn 0
    Z Z Z Z Z Z Z Z Z zo rfl rfl (fun _=>rfl) (fun _=>rfl) sM oR rfl ?_ ?_
   ·intro q x F5 hF5 hq hx
    have hra5:=hra.mono hF5
    have hv5:=hv4.mono hF5
    have hlim:sumLen t.O 0 (r.right.take q)≤4*1048576:=by
     have h1:=sumLen_le (M:=1048576) (by decide) hmax (r.right.take q)
     have h2:((r.right.take q).length:Int)*1048576≤4*1048576:=Int.mul_le_mul_of_nonneg_right (by simp;omega) (by decide)
     omega
    have hge:=sumLen_ge (O:=t.O) (r.right.take q) 0 (by decide)
    rw[←hx] at hlim hge
    refine zB6 ?_
    refine WT.idxL hT hra5 Z Z Z Z Z Z Z Z Z zo (fun y hyq b3 off3 ro3 cs3 lx3 hb3 hp3 hrel3=>?_)
    obtain rfl:lx3=_:=hrel3
    have hyok:=hry y (gM hyq)
    have hst:∀z,stepLen t.O x y=z→z=sumLen t.O 0 (r.right.take (q+1)):=by
     rintro z rfl
     rw[List.take_add_one,hyq,hx];exact(sumLen_snoc ..).symm
    refine zB6 ?_
    refine WT.allocT hT Z Z Z Z Z Z (fun i9 hi9=>?_)
    refine zB6 ?_
    refine AW.block ?_
    refine zB6 ?_
    refine WT.split 33 Z (fun hterm=>?_) (fun hterm=>?_)
    ·refine zB6 ?_
     refine AW.cond Z (fun h=>?_) (fun h=>?_)
     ·have h:0≤x:=by simpa using h
      refine zB6 ?_
      exact⟨x+1,sM,zow,hst _ (by unfold stepLen;rw[if_pos ⟨hterm,h⟩])⟩
     ·have h:¬0≤x:=by simpa using h
      refine zB6 ?_
      refine WT.split 42 Z (fun h2=>absurd (by simpa using h2) h) (fun _=>?_)
      refine zB6 ?_
      refine AW.cond Z (fun h=>(by cases h)) (fun _=>?_)
      refine zB6 ?_
      exact⟨-1,sM,zow,hst _ (by unfold stepLen;rw[if_neg (fun h2=>h h2.2),if_neg (fun h2=>h h2.1)])⟩
    ·have hyn:y.n<g.nons:=by rw[SymOk,if_neg (by simp[hterm])] at hyok;exact hyok
     obtain⟨z,hz⟩:∃z,t.O[y.n]?=some z:=⟨_,gE zo⟩
     have hzd:t.O.getD y.n (-1)=z:=by rw[List.getD_eq_getElem?_getD,hz];rfl
     have hzm:=hmax z (gM hz)
     refine zB6 ?_
     refine AW.cond Z (fun h=>(by cases h)) (fun _=>?_)
     refine zB6 ?_
     refine WT.split 42 Z (fun h2=>?_) (fun h2=>?_)
     ·have h2:0≤x:=by simpa using h2
      refine zB6 ?_
      refine WT.vidx hT hv5 Z Z Z Z Z Z Z Z Z hyn (fun b5 hb5=>?_)
      refine WT.vld1 hT 2 hv5 hb5 hz Z Z Z Z Z Z Z Z Z (fun l h=>h) ?_
      refine zB6 ?_
      refine AW.cond Z (fun h=>?_) (fun h=>?_)
      ·have h:0≤z:=by simpa using h
       refine zB6 ?_
       refine WT.vidx hT hv5 Z Z Z Z Z Z Z Z Z hyn (fun b6 hb6=>?_)
       refine WT.vld1 hT 2 hv5 hb6 hz Z Z Z Z Z Z Z Z Z (fun l h=>h) ?_
       refine zB6 ?_
       exact⟨x+z,sM,zow,hst _ (by unfold stepLen;rw[if_neg (by simp[hterm]),if_pos (by rw[hzd];exact⟨h2,h⟩),hzd])⟩
      ·have h:¬0≤z:=by simpa using h
       refine zB6 ?_
       exact⟨-1,sM,zow,hst _ (by unfold stepLen;rw[if_neg (by simp[hterm]),if_neg (by rw[hzd];exact fun h3=>h h3.2)])⟩
     ·have h2:¬0≤x:=by simpa using h2
      refine zB6 ?_
      refine AW.cond Z (fun h=>(by cases h)) (fun _=>?_)
      refine zB6 ?_
      exact⟨-1,sM,zow,hst _ (by unfold stepLen;rw[if_neg (by simp[hterm]),if_neg (fun h3=>h2 h3.1)])⟩
   ·intro x F5 hF5 hx
    rw[List.take_of_length_le zo] at hx
    have hv5:=hv4.mono hF5
    obtain⟨z,hz⟩:∃z,t.O[r.left]?=some z:=⟨_,gE zo⟩
    have hzd:t.O.getD r.left (-1)=z:=by rw[List.getD_eq_getElem?_getD,hz];rfl
    have keep:LenClosed t.O r→∀r'∈g.rules.take (j+1),(∀r'∈g.rules.take j,LenClosed t.O r')→LenClosed t.O r':=by
     intro h1 r' hr' h2
     rw[List.take_add_one,hrj] at hr'
     rcases List.mem_append.1 hr' with h | h
     ·exact h2 r' h
     ·simp at h;subst h;exact h1
    refine zB6 ?_
    refine WT.vidx hT hv5 Z Z Z Z Z Z Z Z Z hrleft (fun b5 hb5=>?_)
    refine WT.vld1 hT 1 hv5 hb5 hz Z Z Z Z Z Z Z Z Z (fun l h=>h) ?_
    refine zB6 ?_
    have put:0≤x→(z<0∨x<z)→LenOk g.nons (t.O.set r.left x)∧LenSound g (t.O.set r.left x)∧wgtsLen (t.O.set r.left x)<wgtsLen t.O:=by
     intro h1 h2
     subst hx
     refine⟨hO4.put hrn hz h1 h2,hS4.put (gM hrj) h1,?_⟩
     have:=(hO4.put hrn hz h1 h2).max hgn.2 (sumLen t.O 0 r.right) (gM (i:=r.left) (by rw[List.getElem?_set_self zo]))
     exact wgts_put hz h1 this h2
    refine WT.split 65 Z (fun h1=>?_) (fun h1=>?_)
    ·have h1:0≤x:=by simpa using h1
     refine zB6 ?_
     refine WT.split 68 Z (fun h2=>?_) (fun h2=>?_)
     ·have h2:z<0:=by simpa using h2
      refine zB6 ?_
      refine AW.cond Z (fun _=>?_) (fun h=>(by cases h))
      refine zB6 ?_
      refine WT.vidx hT hv5 Z Z Z Z Z Z Z Z Z hrleft (fun b6 hb6=>?_)
      refine WT.vst (y:=x) hT 1 hv5 hb6 hz Z Z Z Z Z Z Z (fun _=>rfl) Z (fun B6 hB6=>?_)
      refine zB6 ?_
      obtain⟨p1,p2,p3⟩:=put h1 (.inl h2)
      exact⟨⟨t.O.set r.left x,B6,true⟩,sM,zow,hB6,p1,p2,by dsimp only;omega,fun _=>by dsimp only;omega,fun h=>by cases h⟩
     ·have h2:¬z<0:=by simpa using h2
      refine zB6 ?_
      refine AW.cond Z (fun h=>?_) (fun h=>?_)
      ·have h:x<z:=by simpa using h
       refine zB6 ?_
       refine WT.vidx hT hv5 Z Z Z Z Z Z Z Z Z hrleft (fun b6 hb6=>?_)
       refine WT.vst (y:=x) hT 1 hv5 hb6 hz Z Z Z Z Z Z Z (fun _=>rfl) Z (fun B6 hB6=>?_)
       refine zB6 ?_
       obtain⟨p1,p2,p3⟩:=put h1 (.inr h)
       exact⟨⟨t.O.set r.left x,B6,true⟩,sM,zow,hB6,p1,p2,by dsimp only;omega,fun _=>by dsimp only;omega,fun h=>by cases h⟩
      ·have h:¬x<z:=by simpa using h
       refine zB6 ?_
       exact⟨t,sM,zow,hv5,hO4,hS4,hw4,hw5,fun h3 r' hr'=>keep (fun _=>by rw[hzd,←hx];omega) r' hr' (hcl4 h3)⟩
    ·have h1:¬0≤x:=by simpa using h1
     refine zB6 ?_
     refine AW.cond Z (fun h=>(by cases h)) (fun _=>?_)
     refine zB6 ?_
     exact⟨t,sM,zow,hv5,hO4,hS4,hw4,hw5,fun h3 r' hr'=>keep (fun h4=>absurd (hx▸h4) h1) r' hr' (hcl4 h3)⟩
  ·intro t F4 hF4 hP
   obtain⟨hv4,hO4,hS4,hw4,hw5,hcl4⟩:=hP
   rw[List.take_of_length_le zo] at hcl4
   skip
   refine⟨t,?_,sM,OwnLe.refl _,hv4,hO4,hS4,hcl4⟩
   rw[hag]
   cases ht:t.again with
   | true=>have:=hw5 ht;simp;omega
   | false=>simp;omega
 ·have hag:s.again=false:=h
  skip
  refine AW.exit ?_
  refine zB4 ?_
  refine AW.perm (perm_to2 _ _ _ _) ?_
  exact AW.ret ⟨_,[_],⟨_,_,rfl,rfl,rfl⟩,zsb,_,rfl,s.O,_,_,rfl,hv,hO,hS,hcl hag⟩
theorem Lengths_spec(F:Frz)(g:Gram)(hg:Valid g){a:Option Addr}{m c:Nat}(hr:Arr tRule F a m c g.rules) :
  Abs.Spec CC 71 [.agg ⟨gramCells g a m c⟩] F [] fun F' v o=>∃B',o=[B']∧∃O a' c',v=.tuple ⟨[.slice a' g.nons c',.int .i64 0]⟩∧Vec tInt F' a' g.nons c' B' O∧LenOk g.nons O∧LenSound g O∧∀r∈g.rules,LenClosed O r:=by
 unfold gramCells
 refine Abs.Spec.fn (n:=12) Tryd.func71 rfl rfl fun own=>?_
 refine AW.seq (AW.reg ?_)
 refine WT.boxT Z Z Z Z Z Z (fun i1 hi1=>?_)
 refine zB4 ?_
 refine WT.callV Tryd.func20 Z Z Z Z Z Z (check_spec _ g hg.range hr) (fun v hv=>?_)
 rw[hg.no_err] at hv
 subst hv
 refine zB4 ?_
 refine AW.cond Z (fun h=>(by cases h)) (fun _=>?_)
 refine zB4 ?_
 refine WT.callN Tryd.func91 Z Z Z Z Z Z (lengths_spec _ g hg hr) (fun F2 v B2 hF2 hv=>?_)
 obtain⟨O,a',c',rfl,hv⟩:=hv
 refine zB4 ?_
 refine AW.perm (perm_to1 _ _ _) ?_
 exact AW.ret ⟨_,[_],⟨_,_,rfl,⟨_,_,rfl,rfl,rfl⟩,rfl⟩,zsb,_,rfl,O,_,_,rfl,hv⟩
structure BtS where
 xs:List Bool
 a:Option Addr
 m:Nat
 c:Nat
 B:List (Nat×Blk)
theorem uends_spec(F:Frz)(g:Gram)(hg:Valid g){a:Option Addr}{m c:Nat}(hr:Arr tRule F a m c g.rules) :
  Abs.Spec CC 37 [.agg ⟨gramCells g a m c⟩] F [] fun F' v o=>o=[]∧∃a' c' E,v=.tuple ⟨[.slice a' g.nons c',.int .i64 0]⟩∧Arr tBool F' a' g.nons c' E∧EndsIn g E:=by
 unfold gramCells
 have hgn:=hg.range.nons
 refine Abs.Spec.fn (n:=30) Tryd.func37 rfl rfl fun own=>?_
 refine AW.seq (AW.reg ?_)
 refine WT.boxT Z Z Z Z Z Z (fun i1 hi1=>?_)
 refine zB4 ?_
 refine WT.callN Tryd.func71 Z Z Z Z Z Z (Lengths_spec _ g hg hr) (fun F2 v B2 hF2 hv=>?_)
 obtain⟨O,a',c',rfl,hv,hO,hS,hC⟩:=hv
 refine WT.freezeAll 0 Z Z (fun F3 hF3 hB3=>?_)
 have ho:=hv.arr hF3 hB3
 have hOl:=hO.len
 refine zB4 ?_
 refine AW.cond Z (fun h=>(by cases h)) (fun _=>?_)
 refine zB4 ?_
 refine AW.range (S:=BtS) (fun s=>[(6,.slice s.a s.m s.c)]) (fun s=>s.B::[]::[(i1,.cells false [.int .i64 g.terms,.int .i64 g.nons,.int .i64 g.start,.slice a m c])]::own) (fun j s G=>Bld tBool G s.a s.m s.c s.B s.xs∧s.xs=(O.take j).map fun x=>decide (0≤x)) g.nons ⟨[],none,0,0,[]⟩
  Z Z Z Z Z Z Z Z Z zo rfl rfl (fun _=>rfl) (fun _=>rfl) sM (OwnLe.flat (List.Perm.refl _)) ⟨Bld.nil_ _ _,by simp⟩ ?_ ?_
 ·intro j s F4 hF4 hj hP
  obtain⟨hb,hxs⟩:=hP
  have hbl:=hb.len
  have hsl:s.xs.length≤j:=by rw[hxs];simp;omega
  have ho4:=ho.mono hF4
  refine zB4 ?_
  refine WT.idxL hT ho4 Z Z Z Z Z Z Z Z Z zo (fun x hx b3 off3 ro3 cs3 lx3 hb3 hp3 hrel3=>?_)
  obtain rfl:lx3=_:=hrel3
  refine zB4 ?_
  refine WT.buildT hT Z Z Z Z Z Z Z Z Z Z Z Z Z Z (fun i9 hi9=>?_)
  refine WT.appendT (ys:=[decide (x≥0)]) hT 1 hb Z (fun _=>rfl) Z Z Z Z Z Z Z Z Z Z Z (fun h0 s0=>news_own hT s0 0 Z Z Z Z) (Cells.single (R:=tBool) (x:=decide (x≥0)) rfl) Z (by decide) zom (fun a3 c3 B3 hB3=>?_)
  refine zB4 ?_
  refine⟨⟨s.xs++[decide (x≥0)],a3,s.m+1,c3,B3⟩,sM,zow,hB3,?_⟩
  show s.xs++[decide (x≥0)]=_
  rw[List.take_add_one,hx,List.map_append,hxs];rfl
 ·intro s F4 hF4 hP
  obtain⟨hb,hxs⟩:=hP
  rw[List.take_of_length_le zo] at hxs
  have hbl:=hb.len
  have hsm:s.m=g.nons:=by rw[hbl,hxs,List.length_map,hOl]
  refine AW.freezeAll 0 Z Z (fun F5 hF5 hB5=>?_)
  have hE:=hb.frozen hF5 hB5
  refine zB4 ?_
  refine AW.ret ⟨_,[],⟨_,_,rfl,⟨_,_,rfl,rfl,rfl⟩,rfl⟩,zsb,rfl,s.a,s.c,s.xs,by rw[hsm];rfl,by rw[←hsm];exact hE,?_⟩
  rw[hxs]
  exact endsIn_of hO hS hC
theorem idxOf_spec{α:Type}{p:α→Bool}:∀{l:List α},(idxOf p l=-1∧∀y∈l,p y=false)∨∃i x,idxOf p l=(i:Nat)∧l[i]?=some x∧p x=true∧∀y∈l.take i,p y=false:=by
 intro l
 by_cases h:∃i x,l[i]?=some x∧p x=true∧∀y∈l.take i,p y=false
 ·obtain⟨i,x,h1,h2,h3⟩:=h
  exact .inr ⟨i,x,idxOf_at h1 h2 h3,h1,h2,h3⟩
 ·refine .inl ?_
  have all:∀n,n≤l.length→∀y∈l.take n,p y=false:=by
   intro n
   induction n with
   | zero=>intro _ y hy;simp at hy
   | succ n ih=>
    intro hn
    have ih:=ih zo
    obtain⟨x,hx⟩:∃x,l[n]?=some x:=⟨_,gE zo⟩
    refine take_all hx ih ?_
    cases hp:p x with
    | false=>rfl
    | true=>exact absurd ⟨n,x,hx,hp,ih⟩ h
  have h2:=all l.length (Nat.le_refl _)
  rw[List.take_length] at h2
  exact⟨idxOf_none h2,h2⟩
structure DS where
 i:Nat
 j:Nat
 ys:List Rule
 B:List (Nat×Blk)
theorem deleteFunc_spec(F:Frz){a:Option Addr}{m c:Nat}{B:List (Nat×Blk)}{xs:List Rule}(hv:Bld tRule F a m c B xs)(hm:m≤1000000)(p:Rule→Bool){g:Nat}{fn:Func}{first capt:List Value}(hg:CC.func g=some fn)(hgb:fn.body.isSome=true)
  (hp:∀G,Frz.le F G→∀x∈xs,∀b n d,Arr tSym G b n d x.right→Abs.Spec CC g (first++[.agg ⟨[.int .i64 x.left,.slice b n d]⟩]++capt) G [] fun _ v o=>o=[]∧v=.bool (p x)) :
  Abs.Spec CC 39 [.slice a m c,.func (.func g) ⟨first⟩ ⟨capt⟩] F [B] fun F' v o=>o=[]∧∃a' n' c',v=.slice a' n' c'∧Arr tRule F' a' n' c' (xs.filter fun x=>!p x):=by
 have hlen:=hv.len
 refine Abs.Spec.fn (n:=42) Tryd.func39 rfl rfl fun own=>?_
 refine zB4 ?_
 refine WT.callLend 0 Tryd.func73 Z Z Z Z Z Z Z (fun G hG hBG=>ruleIndex_spec G (hv.frozen hG hBG) hm p hg hgb (fun x hx b n d hr=>hp G hG x hx b n d hr)) (fun v hv'=>?_)
 subst hv'
 rcases idxOf_spec (p:=p) (l:=xs) with ⟨h1,h2⟩ | ⟨i,x,h1,hx,hpx,h2⟩
 ·rw[h1]
  refine zB4 ?_
  refine AW.cond Z (fun _=>?_) (fun h=>(by cases h))
  refine AW.freezeAll 0 Z Z (fun F1 hF1 hB1=>?_)
  refine zB4 ?_
  refine AW.ret ⟨_,[],⟨_,_,rfl,rfl,rfl⟩,zsb,rfl,a,m,c,rfl,?_⟩
  rw[List.filter_eq_self.2 (fun y hy=>by rw[h2 y hy];rfl)]
  exact hv.frozen hF1 hB1
 ·rw[h1]
  have hi:=(gS hx).1
  obtain⟨ib,cs0,rfl,rfl,rfl,hcs0⟩:∃ib cs0,a=some ⟨ib,0,none⟩∧c=2∧B=[(ib,.cells false cs0)]∧Cells tRule F cs0 xs:=by
   rcases hv.at_ with ⟨e,_⟩ | ⟨ib,cs0,e1,e2,e3,e4,_⟩
   ·subst e;simp at hi
   ·exact⟨ib,cs0,e1,e2,e3,e4⟩
  have hvv:=hv.vec
  refine zB4 ?_
  refine AW.cond Z (fun h=>(by simp at h)) (fun _=>?_)
  refine zB4 ?_
  refine AW.block ?_
  refine AW.loopR (S:=DS) (fun s=>[(5,.int .i64 s.i),(6,.int .i64 s.j)]) (fun s=>s.B::own)
   (fun s G=>Vec tRule G (some ⟨ib,0,none⟩) m 2 s.B s.ys∧s.i<s.j∧s.j≤m∧s.ys.take s.i=(xs.take s.j).filter (fun x=>!p x)∧s.ys.drop s.j=xs.drop s.j) (fun s=>m-s.j) ⟨i,i+1,xs,_⟩
   sM oR ⟨hvv,Nat.lt_succ_self _,by dsimp only;omega,?_,rfl⟩ ?_
  ·rw[List.take_add_one,hx,List.filter_append,List.filter_eq_self.2 (fun y hy=>by rw[h2 y hy];rfl)]
   simp[hpx]
  intro s F1 hF1 hP
  obtain⟨hv1,hij,hjm,htake,hdrop⟩:=hP
  have hv1l:=hv1.len
  refine zB4 ?_
  refine AW.cond Z (fun h=>?_) (fun h=>?_)
  ·have h:s.j<m:=by simpa using h
   obtain⟨y,hy⟩:∃y,xs[s.j]?=some y:=⟨_,gE zo⟩
   have hy1:s.ys[s.j]?=some y:=by
    have e1:(s.ys.drop s.j)[0]?=s.ys[s.j]?:=by simp
    have e2:(xs.drop s.j)[0]?=xs[s.j]?:=by simp
    rw[←e1,hdrop,e2,hy]
   obtain⟨z,hz⟩:∃z,s.ys[s.i]?=some z:=⟨_,gE zo⟩
   have hil:s.i<s.ys.length:=by omega
   refine zB4 ?_
   refine AW.block ?_
   refine zB4 ?_
   refine WT.vidx hT hv1 Z Z Z Z Z Z Z Z Z h (fun b5 hb5=>?_)
   refine WT.vldS hT 0 hv1 hb5 hy1 Z Z Z Z Z Z Z Z Z (fun l hl=>?_)
   obtain⟨ya,yn,yc,rfl,hya⟩:=hl
   skip
   refine WT.allocT hT Z Z Z Z Z Z (fun i7 hi7=>?_)
   refine zB4 ?_
   refine WT.callC hg hgb Z Z Z Z Z Z Z (hp _ hF1 y (gM hy) _ _ _ hya) (fun v hv'=>?_)
   subst hv'
   refine zB4 ?_
   have hdr:s.ys.drop (s.j+1)=xs.drop (s.j+1):=by
    have:=congrArg (List.drop 1) hdrop
    rw[List.drop_drop,List.drop_drop] at this;exact this
   refine AW.cond Z (fun h3=>?_) (fun h3=>?_)
   ·have h3:p y=false:=by simpa using h3
    refine zB4 ?_
    refine WT.vidx hT hv1 Z Z Z Z Z Z Z Z Z zo (fun b6 hb6=>?_)
    refine WT.vst (y:=y) hT 1 hv1 hb6 hz Z Z Z Z Z ⟨_,_,_,rfl,hya⟩ Z (fun _=>rfl) Z (fun B6 hB6=>?_)
    refine zB4 ?_
    refine⟨⟨s.i+1,s.j+1,s.ys.set s.i y,B6⟩,by dsimp only;omega,sM,zow,hB6,by dsimp only;omega,by dsimp only;omega,?_,?_⟩
    ·show (s.ys.set s.i y).take (s.i+1)=(xs.take (s.j+1)).filter _
     rw[List.take_add_one,List.getElem?_set_self hil,List.take_set_of_le (Nat.le_refl _),htake,List.take_add_one,hy,List.filter_append]
     simp[h3]
    ·show (s.ys.set s.i y).drop (s.j+1)=xs.drop (s.j+1)
     rw[List.drop_set_of_lt zo,hdr]
   ·have h3:p y=true:=by simpa using h3
    refine zB4 ?_
    refine⟨⟨s.i,s.j+1,s.ys,s.B⟩,by dsimp only;omega,sM,zow,hv1,by dsimp only;omega,by dsimp only;omega,?_,hdr⟩
    show s.ys.take s.i=(xs.take (s.j+1)).filter _
    rw[htake,List.take_add_one,hy,List.filter_append]
    simp[h3]
  ·have h:s.j=m:=by simp at h;omega
   rw[h,show xs.take m=xs from List.take_of_length_le zo] at htake
   skip
   refine AW.exit ?_
   refine zB4 ?_
   refine WT.slice Z Z Z Z Z Z Z Z (fun h0=>sliceA_some (lo:=s.i) (hi:=m) hT Z Z Z Z Z zo (Nat.le_refl _) (.inr rfl) h0) ?_
   refine WT.vclear (x0:=(⟨0,[]⟩:Rule)) (i:=s.i) (l:=m-s.i) hT 0 hv1 Z Z Z Z Z Z Z Z ⟨none,0,0,rfl,Arr.nil_ _ _⟩ zo zo Z (fun _=>rfl) (fun B6 hB6=>?_)
   refine WT.freezeAll 0 Z Z (fun F6 hF6 hB6'=>?_)
   have harr:=hB6.arr hF6 hB6'
   obtain⟨sa,sc,hs,hsl⟩:=harr.slice (C:=CC) (lo:=0) (hi:=s.i) (Nat.zero_le _) zo hT (t:=26) Z Z Z none (some (.int .i64 (s.i:Nat))) rfl rfl
   refine zB4 ?_
   refine WT.slice Z Z Z Z Z Z Z Z hs ?_
   refine zB4 ?_
   refine AW.ret ⟨_,[],⟨_,_,rfl,rfl,rfl⟩,zsb,rfl,sa,_,sc,rfl,?_⟩
   have e:(List.take s.i (List.take s.i s.ys++List.replicate (m-s.i) ⟨0,[]⟩)).drop 0=xs.filter fun x=>!p x:=by
    rw[List.drop_zero,List.take_left' (by rw[List.length_take];omega),htake]
   rw[e] at hsl
   exact hsl
theorem item_eq(x y:Item):((((x.rule:Int)==(y.rule:Int))&&(((x.dot:Int)==(y.dot:Int))&&(((x.frm:Int)==(y.frm:Int))&&true)))=decide (x=y)):=by
 obtain⟨a,b,c⟩:=x
 obtain⟨d,e,f⟩:=y
 rw[Bool.eq_iff_iff]
 simp only[Bool.and_eq_true,beq_iff_eq,decide_eq_true_eq,Item.mk.injEq,and_true]
 omega
noncomputable def keyI:KeyTy CC 134 Item where
 key:=fun x=>.agg ⟨[.int .i64 x.rule,.int .i64 x.dot,.int .i64 x.frm]⟩
 ok:=fun p=>keyT_ok hT 8 _ _ rfl
 eq:=fun p q=>by
  have h:eqA CC 8 134 (.agg ⟨[.int .i64 p.rule,.int .i64 p.dot,.int .i64 p.frm]⟩) (.agg ⟨[.int .i64 q.rule,.int .i64 q.dot,.int .i64 q.frm]⟩)=some (decide (p=q)):=by
   rw[←item_eq]
   exact eqT_ok hT 8 _ _ _ _ rfl
  by_cases e:p=q
  ·exact .inl ⟨e,by rw[h];simp[e]⟩
  ·exact .inr ⟨e,by rw[h];simp[e]⟩
structure ChP where
 ic:Nat
 ra:Option Addr
 rm:Nat
 rc:Nat
structure CSt where
 k:Nat
 old:List (List Item)
 last:List Item
 sa:Option Addr
 sc:Nat
 BS:List (Nat×Blk)
 vs:List Value
 la:Option Addr
 lc:Nat
 BL:List (Nat×Blk)
 us:List Value
 im:Nat
 es:Ents Item
 xa:Option Addr
 xn:Nat
 xc:Nat
 BX:List (Nat×Blk)
structure QInv(g:Gram)(Q:Nat→Item→Prop):Prop where
 ok:∀k x,Q k x→ItemOk g.rules k x
 predict:∀k x n i r,Q k x→nextOf g.rules x=some ⟨false,n⟩→g.rules[i]?=some r→r.left=n→Q k ⟨i,0,k⟩
 complete:∀k x y r,Q k x→g.rules[x.rule]?=some r→x.dot=r.right.length→Q x.frm y→nextOf g.rules y=some ⟨false,r.left⟩→Q k (stepItem y)
def chCells(g:Gram)(q:ChP)(s:CSt):List Value:=[.int .i64 g.terms,.int .i64 g.nons,.int .i64 g.start,.slice q.ra q.rm q.rc,.slice s.sa (s.k+1) s.sc,.slice s.la (s.k+1) s.lc]
noncomputable def cB(g:Gram)(q:ChP)(s:CSt):List (Nat×Blk):=(q.ic,.cells false (chCells g q s))::(s.BS++(s.BL++((s.im,.map (entsV keyI s.es))::s.BX)))
structure COk(g:Gram)(Q:Nat→Item→Prop)(q:ChP)(F:Frz)(s:CSt):Prop where
 rules:Arr tRule F q.ra q.rm q.rc g.rules
 sets:Bld tRaw F s.sa (s.k+1) s.sc s.BS (s.vs++[.map (some s.im)])
 list:Bld tRaw F s.la (s.k+1) s.lc s.BL (s.us++[.slice s.xa s.xn s.xc])
 usl:s.us.length=s.k
 oldl:s.old.length=s.k
 olds:∀(j:Nat) (l:List Item),s.old[j]?=some l→∃a n c,s.us[j]?=some (.slice a n c)∧Arr tItem F a n c l
 map:∀y,Abs.look s.es y=if y∈s.last then some (.bool true) else none
 last:Bld tItem F s.xa s.xn s.xc s.BX s.last
 nodup:s.last.Nodup
 qold:∀(j:Nat) (l:List Item),s.old[j]?=some l→∀x∈l,Q j x
 qlast:∀x∈s.last,Q s.k x
 small:s.k≤20
 olen:∀(j:Nat) (l:List Item),s.old[j]?=some l→l.length≤3360
 ndold:∀(j:Nat) (l:List Item),s.old[j]?=some l→l.Nodup
theorem COk.mono{g:Gram}{Q:Nat→Item→Prop}{q:ChP}{F G:Frz}{s:CSt}(h:COk g Q q F s)(hF:Frz.le F G):COk g Q q G s:=
 ⟨h.rules.mono hF,h.sets.mono hF,h.list.mono hF,h.usl,h.oldl,fun j l hj=>by obtain⟨a,n,c,h1,h2⟩:=h.olds j l hj;exact⟨a,n,c,h1,h2.mono hF⟩,h.map,h.last.mono hF,h.nodup,h.qold,h.qlast,h.small,h.olen,h.ndold⟩
theorem item_code{g:Gram}(hr:∀r∈g.rules,r.right.length≤4){k:Nat}{x:Item}(h:ItemOk g.rules k x):(x.rule*5+x.dot)*(k+1)+x.frm<g.rules.length*5*(k+1):=by
 obtain⟨r,h1,h2,h3⟩:=h
 have hlt:=(gS h1).1
 have h4:=hr r (gM h1)
 have h5:(x.rule*5+x.dot+1)*(k+1)≤g.rules.length*5*(k+1):=Nat.mul_le_mul_right _ zo
 rw[Nat.add_mul,Nat.one_mul] at h5
 omega
theorem items_few{g:Gram}(hr:∀r∈g.rules,r.right.length≤4){k:Nat}{l:List Item}(hn:l.Nodup)(h:∀x∈l,ItemOk g.rules k x):l.length≤g.rules.length*5*(k+1):=by
 have h1:=nodup_lt (g.rules.length*5*(k+1)) (l.map fun x=>(x.rule*5+x.dot)*(k+1)+x.frm) (List.Pairwise.map _ (fun x y=>?_) (List.Pairwise.and_mem.1 hn)) (fun c hc=>?_)
 ·rwa [List.length_map] at h1
 ·rintro⟨hx,hy,hxy⟩ e
  apply hxy
  obtain⟨r,a1,a2,a3⟩:=h x hx
  obtain⟨r',b1,b2,b3⟩:=h y hy
  have c1:=hr r (gM a1)
  have c2:=hr r' (gM b1)
  have d1:x.frm=y.frm:=by
   have m1:=congrArg (· % (k+1)) e
   simp only[Nat.mul_comm _ (k+1),Nat.mul_add_mod] at m1
   rw[Nat.mod_eq_of_lt zo,Nat.mod_eq_of_lt zo] at m1
   exact m1
  have d2:x.rule*5+x.dot=y.rule*5+y.dot:=by
   rw[d1] at e
   exact Nat.eq_of_mul_eq_mul_right (Nat.succ_pos k) (Nat.add_right_cancel e)
  cases x;cases y
  simp only at d1 d2 a2 b2 c1 c2
  simp only[Item.mk.injEq]
  omega
 ·obtain⟨x,hx,rfl⟩:=List.mem_map.1 hc
  exact item_code hr (h x hx)
theorem COk.few{g:Gram}(hg:∀r∈g.rules,r.right.length≤4)(hgl:g.rules.length≤32){Q:Nat→Item→Prop}(hQ:QInv g Q){q:ChP}{F:Frz}{s:CSt}(h:COk g Q q F s):s.last.length≤g.rules.length*5*(s.k+1)∧g.rules.length*5*(s.k+1)≤3360:=by
 refine⟨items_few hg h.nodup (fun x hx=>hQ.ok _ _ (h.qlast x hx)),?_⟩
 have h1:g.rules.length*5*(s.k+1)≤160*21:=Nat.mul_le_mul zo (by have:=h.small;omega)
 omega
theorem cnext_spec(G:Frz)(g:Gram)(hg:∀r∈g.rules,r.right.length≤4){q:ChP}{s:CSt}(hb:G q.ic=some (.cells false (chCells g q s)))(hr:Arr tRule G q.ra q.rm q.rc g.rules){k:Nat}{x:Item}(hx:ItemOk g.rules k x) :
  Abs.Spec CC 78 [.pointer (some ⟨q.ic,0,none⟩),.agg ⟨[.int .i64 x.rule,.int .i64 x.dot,.int .i64 x.frm]⟩] G [] fun _ v o=>o=[]∧
   ((nextOf g.rules x=none∧(∃r,g.rules[x.rule]?=some r∧x.dot=r.right.length)∧v=.tuple ⟨[.agg ⟨[.bool false,.int .i64 0]⟩,.bool false]⟩)∨∃y,nextOf g.rules x=some y∧v=.tuple ⟨[.agg ⟨[.bool y.term,.int .i64 y.n]⟩,.bool true]⟩):=by
 obtain⟨r,hrr,hd,hf⟩:=hx
 have hlt:=(gS hrr).1
 have hrl:=hr.len
 have hr4:=hg r (gM hrr)
 unfold chCells at hb
 refine Abs.Spec.fn (n:=28) Tryd.func78 rfl rfl fun own=>?_
 refine AW.seq (AW.reg ?_)
 refine WT.boxT Z Z Z Z Z Z (fun i3 hi3=>?_)
 refine WT.allocT hT Z Z Z Z Z Z (fun i4 hi4=>?_)
 refine zB4 ?_
 refine WT.idxL hT hr Z Z Z Z Z Z Z Z Z zo (fun r' hr' b off ro cs lx hb1 hp1 hrel=>?_)
 obtain rfl:r=r':=by rw[hrr] at hr';exact Option.some.inj hr'
 obtain⟨ra,rn,rc,rfl,hra⟩:=hrel
 have hral:=hra.len
 refine zB4 ?_
 by_cases hdl:x.dot=rn
 ·refine AW.cond Z (fun _=>?_) (fun h=>(by simp[hdl] at h))
  refine zB4 ?_
  exact AW.ret ⟨_,[],⟨_,_,⟨_,rfl,fun G h0 s0=>loadA_cells (s0.has (p:=0) rfl me) (readT_ok hT rfl)⟩,⟨_,_,rfl,rfl,rfl⟩,rfl⟩,zsb,rfl,.inl ⟨by unfold nextOf;rw[hrr];show r.right[x.dot]?=none;rw[List.getElem?_eq_none_iff];omega,⟨r,hrr,by omega⟩,rfl⟩⟩
 ·refine AW.cond Z (fun h=>absurd (by simp at h;omega) hdl) (fun h=>?_)
  refine zB4 ?_
  refine WT.idxL hT hra Z Z Z Z Z Z Z Z Z zo (fun y hy b3 off3 ro3 cs3 lx3 hb3 hp3 hrel3=>?_)
  obtain rfl:lx3=_:=hrel3
  refine zB4 ?_
  exact AW.ret ⟨_,[],⟨_,_,⟨_,rfl,fun G h0 s0=>loadA_cells (s0.has (p:=0) rfl me) (readT_ok hT rfl)⟩,⟨_,_,rfl,rfl,rfl⟩,rfl⟩,zsb,rfl,.inr ⟨y,by unfold nextOf;rw[hrr];exact hy,rfl⟩⟩
theorem own_set(x y:Nat×Blk)(BS BL:List (Nat×Blk))(own:Own):OwnLe ((y::(BS++(BL++[x])))::own) ([x]::[y]::BS::BL::own):=by
 refine OwnLe.flat ?_
 have:=List.perm_middle (a:=x) (l₁:=y::(BS++BL)) (l₂:=own.flatten)
 simpa using this.symm
theorem cset_spec(F:Frz){ic n sc lc:Nat}{x0 x1 x2 x3:Value}{sa la:Option Addr}{BS BL:List (Nat×Blk)}{vs us:List Value}(hs:Bld tRaw F sa n sc BS vs)(hl:Bld tRaw F la n lc BL us)(hn:n≤1000)
  (ho:one x0=true∧one x1=true∧one x2=true∧one x3=true) :
  Abs.Spec CC 75 [.pointer (some ⟨ic,0,none⟩)] F [(ic,.cells false [x0,x1,x2,x3,.slice sa n sc,.slice la n lc])::(BS++BL)] fun F' v o=>
   ∃B',o=[B']∧∃sa' sc' la' lc' BS' BL' im,Bld tRaw F' sa' (n+1) sc' BS' (vs++[.map (some im)])∧Bld tRaw F' la' (n+1) lc' BL' (us++[.slice none 0 0])∧
    B'=(ic,.cells false [x0,x1,x2,x3,.slice sa' (n+1) sc',.slice la' (n+1) lc'])::(BS'++(BL'++[(im,.map [])])):=by
 have hsl:=hs.len
 have hll:=hl.len
 refine Abs.Spec.fn (n:=21) Tryd.func75 rfl rfl fun own=>?_
 refine AW.le (own2:=[(ic,.cells false [x0,x1,x2,x3,.slice sa n sc,.slice la n lc])]::BS::BL::own) (OwnLe.flat (List.Perm.of_eq (by simp))) ?_
 refine AW.draw (ps:=[(5,6),(5,7),(5,13),(12,6),(12,7),(12,8),(12,13)]) Z Z ?_
 refine zB4 ?_
 refine WT.makeMap Z Z Z Z (fun im him=>?_)
 skip
 refine WT.buildT hT Z Z Z Z Z Z Z Z Z Z Z Z Z Z (fun i9 hi9=>?_)
 refine WT.appendT (ys:=[.map (some im)]) hT 3 hs Z (fun _=>rfl) Z Z Z Z Z Z Z Z Z Z Z (fun h0 s0=>news_own hT s0 0 Z Z Z Z) (Cells.single (R:=tRaw) (x:=.map (some im)) ⟨rfl,rfl⟩) Z (by decide) zom (fun sa' sc' BS' hBS'=>?_)
 refine zB6 ?_
 refine WT.buildT hT Z Z Z Z Z Z Z Z Z Z Z Z Z Z (fun i15 hi15=>?_)
 refine WT.appendT (ys:=[.slice none 0 0]) hT 5 hl Z (fun _=>rfl) Z Z Z Z Z Z Z Z Z Z Z (fun h0 s0=>news_own hT s0 0 Z Z Z Z) (Cells.single (R:=tRaw) (x:=.slice none 0 0) ⟨rfl,rfl⟩) Z (by decide) zom (fun la' lc' BL' hBL'=>?_)
 refine WT.le (own2:=((ic,.cells false [x0,x1,x2,x3,.slice sa n sc,.slice la n lc])::(BS'++(BL'++[(im,.map [])])))::own) (OwnLe.skip _ (OwnLe.skip _ (own_set _ _ _ _ _))) ?_
 refine zB6 ?_
 refine⟨zrC,?_⟩
 skip
 exact⟨_,[_],rfl,zsb,_,rfl,sa',sc',la',lc',BS',BL',im,hBS',hBL',rfl⟩
theorem own_chart(a:Nat×Blk)(b:Nat×Blk)(BS BL BX:List (Nat×Blk))(own:Own):OwnLe ([a]::BS::BL::[b]::BX::own) ((a::(BS++(BL++(b::BX))))::own):=
 OwnLe.flat (List.Perm.of_eq (by simp))
theorem own_chart'(a:Nat×Blk)(b:Nat×Blk)(BS BL BX:List (Nat×Blk))(own:Own):OwnLe ((a::(BS++(BL++(b::BX))))::own) ([a]::BS::BL::[b]::BX::own):=
 OwnLe.flat (List.Perm.of_eq (by simp))
structure Grows(s s':CSt)(P:Item→Prop):Prop where
 k:s'.k=s.k
 old:s'.old=s.old
 last:∃new,s'.last=s.last++new∧∀y∈new,P y
theorem Grows.refl(s:CSt)(P:Item→Prop):Grows s s P:=⟨rfl,rfl,[],by simp,fun _ h=>by cases h⟩
theorem Grows.trans{s t u:CSt}{P:Item→Prop}(h1:Grows s t P)(h2:Grows t u P):Grows s u P:=by
 obtain⟨n1,e1,p1⟩:=h1.last
 obtain⟨n2,e2,p2⟩:=h2.last
 refine⟨h2.k.trans h1.k,h2.old.trans h1.old,n1++n2,by rw[e2,e1,List.append_assoc],fun y hy=>?_⟩
 rcases List.mem_append.1 hy with hy | hy
 ·exact p1 y hy
 ·exact p2 y hy
theorem Grows.mono{s t:CSt}{P P':Item→Prop}(h:Grows s t P)(hp:∀y,P y→P' y):Grows s t P':=by
 obtain⟨n,e,p⟩:=h.last
 exact⟨h.k,h.old,n,e,fun y hy=>hp y (p y hy)⟩
theorem Grows.mem{s t:CSt}{P:Item→Prop}(h:Grows s t P){x:Item}(hx:x∈s.last):x∈t.last:=by
 obtain⟨n,e,_⟩:=h.last
 rw[e];exact List.mem_append_left _ hx
theorem cadd_spec(F:Frz)(g:Gram){Q:Nat→Item→Prop}{q:ChP}{s:CSt}(h:COk g Q q F s)(hlen:s.last.length≤100000)(x:Item)(hx:Q s.k x) :
  Abs.Spec CC 86 [.pointer (some ⟨q.ic,0,none⟩),.agg ⟨[.int .i64 x.rule,.int .i64 x.dot,.int .i64 x.frm]⟩] F [cB g q s] fun F' v o=>
   ∃B',o=[B']∧∃s',B'=cB g q s'∧COk g Q q F' s'∧Grows s s' (fun y=>y=x)∧x∈s'.last:=by
 have hsmall:=h.small
 have hvl:=h.sets.len
 have hul:=h.list.len
 have hxl:=h.last.len
 simp only[List.length_append,List.length_singleton] at hvl hul
 have hvk:(s.vs++[.map (some s.im)])[s.k]?=some (.map (some s.im)):=by rw[List.getElem?_append_right zo];simp[show s.k-s.vs.length=0 by omega]
 have huk:(s.us++[.slice s.xa s.xn s.xc])[s.k]?=some (.slice s.xa s.xn s.xc):=by rw[List.getElem?_append_right zo];simp[show s.k-s.us.length=0 by omega]
 unfold cB chCells
 refine Abs.Spec.fn (n:=45) Tryd.func86 rfl rfl fun own=>?_
 refine AW.le (own_chart _ _ _ _ _ _) ?_
 refine AW.seq (AW.reg ?_)
 refine WT.boxT Z Z Z Z Z Z (fun i3 hi3=>?_)
 refine zB4 ?_
 refine WT.know (v':=.int .i64 (s.k:Nat)) 15 Z (by congr 1;omega) ?_
 refine WT.know (v':=.int .i64 (s.k:Nat)) 4 Z (by congr 1;omega) ?_
 refine WT.vidx hT h.sets.vec Z Z Z Z Z Z Z Z Z zo (fun b5 hb5=>?_)
 refine WT.vld1 (v:=.map (some s.im)) hT 2 h.sets.vec hb5 hvk Z Z Z Z Z Z Z Z Z (fun l h=>h.1) ?_
 refine zB4 ?_
 refine WT.lookup1 keyI (key:=x) hT 4 Z Z Z Z Z Z Z me Z Z Z ?_
 rw[h.map x]
 by_cases hin:x∈s.last
 ·rw[if_pos hin]
  refine zB4 ?_
  refine AW.cond Z (fun h=>(by cases h)) (fun _=>?_)
  refine AW.le (OwnLe.skip _ (own_chart' _ _ _ _ _ _)) ?_
  refine zB4 ?_
  exact⟨_,[_],rfl,zsb,_,rfl,s,rfl,h,Grows.refl _ _,hin⟩
 ·rw[if_neg hin]
  refine zB4 ?_
  refine AW.cond Z (fun _=>?_) (fun h=>(by cases h))
  refine zB4 ?_
  refine WT.vidx hT h.sets.vec Z Z Z Z Z Z Z Z Z zo (fun b6 hb6=>?_)
  refine WT.vld1 (v:=.map (some s.im)) hT 2 h.sets.vec hb6 hvk Z Z Z Z Z Z Z Z Z (fun l h=>h.1) ?_
  refine zB4 ?_
  refine WT.mapSet keyI (key:=x) hT 4 0 Z Z Z Z Z Z Z Z Z Z Z Z ?_
  refine zB4 ?_
  refine AW.draw (ps:=[(3,13),(3,14),(8,13),(11,13)]) Z Z ?_
  refine zB4 ?_
  refine WT.vidx hT h.list.vec Z Z Z Z Z Z Z Z Z zo (fun b7 hb7=>?_)
  refine WT.vld1 (v:=.slice s.xa s.xn s.xc) hT 3 h.list.vec hb7 huk Z Z Z Z Z Z Z Z Z (fun l h=>h.1) ?_
  refine zB4 ?_
  refine WT.buildT hT Z Z Z Z Z Z Z Z Z Z Z Z Z Z (fun i42 hi42=>?_)
  refine WT.appendT (ys:=[x]) hT 6 h.last Z (fun _=>rfl) Z Z Z Z Z Z Z Z Z Z Z (fun h0 s0=>news_own hT s0 0 Z Z Z Z) (Cells.single (R:=tItem) (x:=x) rfl) Z (by decide) zom (fun xa' xc' BX' hBX'=>?_)
  skip
  refine WT.vidx hT h.list.vec Z Z Z Z Z Z Z Z Z zo (fun b8 hb8=>?_)
  refine WT.vst (y:=.slice xa' (s.xn+1) xc') hT 4 h.list.vec hb8 huk Z Z Z Z Z ⟨rfl,rfl⟩ Z (fun _=>rfl) Z (fun BL' hBL'=>?_)
  have hset:(s.us++[Value.slice s.xa s.xn s.xc]).set s.k (.slice xa' (s.xn+1) xc')=s.us++[.slice xa' (s.xn+1) xc']:=by
   rw[List.set_append_right _ _ zo,show s.k-s.us.length=0 by omega];rfl
  rw[hset] at hBL'
  refine WT.le (OwnLe.skip _ (OwnLe.skip _ (own_chart' _ _ _ _ _ _))) ?_
  refine zB4 ?_
  obtain⟨il,lcs,hla,hBL,_⟩:=h.list.vec.at_ huk
  have hmem:(b7,Blk.cells false lcs)∈s.BL:=by
   rw[hla] at hb7
   injection hb7 with hb7
   injection hb7 with hb7
   rw[hBL,hb7];exact List.mem_cons_self ..
  refine⟨zrA,?_⟩
  skip
  refine⟨_,[_],rfl,zsb,_,rfl,{ s with last:=s.last++[x],es:=mset s.es x (.bool true),la:=s.la,BL:=BL',xa:=xa',xn:=s.xn+1,xc:=xc',BX:=BX' },rfl,?_,⟨rfl,rfl,[x],rfl,fun y hy=>List.mem_singleton.1 hy⟩,by simp⟩
  refine⟨h.rules,h.sets,hBL'.bld (by simp),h.usl,h.oldl,h.olds,fun y=>?_,hBX',?_,h.qold,fun y hy=>?_,h.small,h.olen,h.ndold⟩
  ·show Abs.look (mset s.es x (.bool true)) y=_
   rw[look_mset,h.map y]
   by_cases hy:y=x
   ·subst hy;simp
   ·simp[hy]
  ·show (s.last++[x]).Nodup
   rw[List.nodup_append]
   refine⟨h.nodup,by simp,fun a ha b hb=>?_⟩
   obtain rfl:=List.mem_singleton.1 hb
   rintro rfl
   exact hin ha
  ·rcases List.mem_append.1 hy with hy | hy
   ·exact h.qlast y hy
   ·obtain rfl:=List.mem_singleton.1 hy;exact hx
theorem COk.uk{g:Gram}{Q:Nat→Item→Prop}{q:ChP}{F:Frz}{s:CSt}(h:COk g Q q F s):(s.us++[.slice s.xa s.xn s.xc])[s.k]?=some (.slice s.xa s.xn s.xc):=by
 have:=h.usl
 rw[List.getElem?_append_right zo];simp[show s.k-s.us.length=0 by omega]
theorem subL{g:Gram}{q:ChP}{s:CSt}:∀z,z∈s.BL→z∈cB g q s:=fun z hz=>by unfold cB;simp[hz]
theorem subX{g:Gram}{q:ChP}{s:CSt}:∀z,z∈s.BX→z∈cB g q s:=fun z hz=>by unfold cB;simp[hz]
theorem cpredict_spec(F:Frz)(g:Gram)(hg:∀r∈g.rules,r.right.length≤4)(hgl:g.rules.length≤32){Q:Nat→Item→Prop}(hQ:QInv g Q){q:ChP}{s:CSt}(h:COk g Q q F s)(y:Sym)
  (hy:y.term=false→∀i r,g.rules[i]?=some r→r.left=y.n→Q s.k ⟨i,0,s.k⟩) :
  Abs.Spec CC 76 [.pointer (some ⟨q.ic,0,none⟩),.agg ⟨[.bool y.term,.int .i64 y.n]⟩] F [cB g q s] fun F' v o=>
   ∃B',o=[B']∧∃s',B'=cB g q s'∧COk g Q q F' s'∧Grows s s' (fun _=>True)∧∀i r,g.rules[i]?=some r→y.term=false→r.left=y.n→(⟨i,0,s.k⟩:Item)∈s'.last:=by
 have hrl:=h.rules.len
 have hsm:=h.small
 refine Abs.Spec.fn (n:=38) Tryd.func76 rfl rfl fun own=>?_
 refine AW.seq (AW.reg ?_)
 refine WT.boxT Z Z Z Z Z Z (fun i3 hi3=>?_)
 refine zB4 ?_
 refine AW.range (S:=CSt) (fun _=>[]) (fun t=>[(i3,.cells false [.bool y.term,.int .i64 y.n])]::cB g q t::own)
  (fun j t G=>COk g Q q G t∧Grows s t (fun _=>True)∧∀i r,i<j→g.rules[i]?=some r→y.term=false→r.left=y.n→(⟨i,0,s.k⟩:Item)∈t.last) q.rm s
  Z Z Z Z Z Z Z Z Z zo rfl rfl (fun _=>rfl) (fun _=>rfl) sM oR ⟨h,Grows.refl _ _,fun i r hi=>absurd hi (Nat.not_lt_zero _)⟩ ?_ ?_
 ·intro j t F1 hF1 hj hP
  obtain⟨ht,hgr,hin⟩:=hP
  have htk:=hgr.k
  refine zB4 ?_
  refine WT.idxL hT ht.rules Z Z Z Z Z Z Z Z Z zo (fun r hrj b off ro cs lx hb1 hp1 hrel=>?_)
  obtain⟨ra,rn,rc,rfl,hra⟩:=hrel
  refine zB4 ?_
  refine WT.allocT hT Z Z Z Z Z Z (fun i5 hi5=>?_)
  refine zB4 ?_
  have next:∀u:CSt,Grows t u (fun _=>True)→(y.term=false→r.left=y.n→(⟨j,0,s.k⟩:Item)∈u.last)→∀i r,i<j+1→g.rules[i]?=some r→y.term=false→r.left=y.n→(⟨i,0,s.k⟩:Item)∈u.last:=by
   intro u hu h1 i r' hi hr' hty hl
   rcases Nat.lt_or_ge i j with h2 | h2
   ·exact hu.mem (hin i r' h2 hr' hty hl)
   ·obtain rfl:i=j:=by omega
    rw[hrj] at hr'
    obtain rfl:=Option.some.inj hr'
    exact h1 hty hl
  refine WT.split 20 Z (fun hty=>?_) (fun hty=>?_)
  ·have hty:y.term=false:=by simpa using hty
   refine zB4 ?_
   refine AW.cond Z (fun hc=>?_) (fun hc=>?_)
   ·have hc:r.left=y.n:=by simp at hc;omega
    refine zB4 ?_
    refine WT.know (v':=.agg ⟨[.int .i64 (j:Nat),.int .i64 0,.int .i64 (s.k:Nat)]⟩) 35 Z (by rw[show ((t.k+1:Nat):Int)-1=(s.k:Nat) by omega]) ?_
    refine WT.call1F 2 Tryd.func86 Z Z Z Z Z Z Z (fun _=>rfl) (cadd_spec _ g ht (by have:=(ht.few hg hgl hQ);omega) ⟨j,0,s.k⟩ (by rw[htk];exact hy hty j r hrj hc)) (fun F2 v B2 hF2 hv=>?_)
    obtain⟨u,rfl,hu,hgu,hmem⟩:=hv
    refine zB4 ?_
    have hgu':=hgu.mono (P':=fun _=>True) (fun _ _=>trivial)
    exact⟨u,sM,zow,hu,hgr.trans hgu',next u hgu' (fun _ _=>hmem)⟩
   ·have hc:r.left≠y.n:=by simp at hc;omega
    refine zB4 ?_
    exact⟨t,sM,zow,ht,hgr,next t (Grows.refl _ _) (fun _ h=>absurd h hc)⟩
  ·have hty:y.term=true:=by simpa using hty
   refine zB4 ?_
   refine AW.cond Z (fun h=>(by cases h)) (fun _=>?_)
   refine zB4 ?_
   exact⟨t,sM,zow,ht,hgr,next t (Grows.refl _ _) (fun h=>by rw[hty] at h;cases h)⟩
 ·intro t F1 hF1 hP
  obtain⟨ht,hgr,hin⟩:=hP
  exact⟨_,[_],rfl,zsb,_,rfl,t,rfl,ht,hgr,fun i r hr=>hin i r (by have:=(gS hr).1;omega) hr⟩
def LS(s:CSt):Nat→List Item:=fun j=>if j=s.k then s.last else s.old.getD j []
theorem Vec.itemAny{F G:Frz}{a:Option Addr}{n c:Nat}{B:List (Nat×Blk)}{xs:List Item}(h:Vec tItem F a n c B xs):Vec tItem G a n c B xs:=by
 have cells:∀{cs:List Value} {xs:List Item},Cells tItem F cs xs→Cells tItem G cs xs:=by
  intro cs xs h
  induction h with
  | nil=>exact .nil
  | cons h1 _ ih=>exact .cons h1 ih
 exact⟨h.len,h.cap,h.zero,h.nil,h.spot,h.el.imp id fun ⟨i,cs,h1,h2,h3,h4⟩=>⟨i,cs,h1,h2,cells h3,h4⟩⟩
theorem COk.at_{g:Gram}{Q:Nat→Item→Prop}{q:ChP}{F:Frz}{s:CSt}(h:COk g Q q F s){j:Nat}(hj:j≤s.k):∃a n c,(s.us++[.slice s.xa s.xn s.xc])[j]?=some (.slice a n c)∧
  (∀G,Frz.le F G→(∀i b,(i,b)∈cB g q s→G i=some b)→Arr tItem G a n c (LS s j))∧∀x∈LS s j,Q j x:=by
 by_cases hk:j=s.k
 ·subst hk
  refine⟨_,_,_,h.uk,fun G hG hB=>?_,fun x hx=>?_⟩
  ·unfold LS;rw[if_pos rfl]
   exact h.last.frozen hG (fun i b hb=>hB i b (subX _ hb))
  ·unfold LS at hx;rw[if_pos rfl] at hx
   exact h.qlast x hx
 ·have hl:j<s.old.length:=by have:=h.oldl;omega
  obtain⟨a,n,c,h1,h2⟩:=h.olds j _ (gE hl)
  have e:LS s j=s.old[j]:=by unfold LS;rw[if_neg hk,List.getD_eq_getElem?_getD,gE hl];rfl
  refine⟨a,n,c,by rw[List.getElem?_append_left (by have:=h.usl;omega)];exact h1,fun G hG _=>by rw[e];exact h2.mono hG,fun x hx=>?_⟩
  rw[e] at hx
  exact h.qold j _ (gE hl) x hx
theorem COk.few'{g:Gram}(hg:∀r∈g.rules,r.right.length≤4)(hgl:g.rules.length≤32){Q:Nat→Item→Prop}(hQ:QInv g Q){q:ChP}{F:Frz}{s:CSt}(h:COk g Q q F s)(j:Nat):(LS s j).length≤3360:=by
 unfold LS
 split
 ·have:=h.few hg hgl hQ;omega
 ·rw[List.getD_eq_getElem?_getD]
  cases e:s.old[j]? with
  | none=>simp
  | some l=>simpa using h.olen j l e
structure CI where
 s:CSt
 n:Int
structure CJ where
 s:CSt
 i:Nat
theorem ccomplete_spec(F:Frz)(g:Gram)(hg:∀r∈g.rules,r.right.length≤4)(hgl:g.rules.length≤32){Q:Nat→Item→Prop}(hQ:QInv g Q){q:ChP}{s0:CSt}(h:COk g Q q F s0) :
  Abs.Spec CC 77 [.pointer (some ⟨q.ic,0,none⟩)] F [cB g q s0] fun F' v o=>
   ∃B',o=[B']∧∃s',B'=cB g q s'∧COk g Q q F' s'∧Grows s0 s' (fun _=>True)∧∀x∈s'.last,ItemClosed g.rules (LS s') s'.k x:=by
 have hsm:=h.small
 refine Abs.Spec.fn (n:=115) Tryd.func77 rfl rfl fun own=>?_
 refine zB4 ?_
 refine AW.know (v':=.int .i64 (s0.k:Nat)) 2 Z (by congr 1;omega) ?_
 refine AW.block ?_
 refine AW.loopR (S:=CI) (fun w=>[(3,.int .i64 w.n)]) (fun w=>cB g q w.s::own) (fun w G=>COk g Q q G w.s∧Grows s0 w.s (fun _=>True)∧w.n≤w.s.last.length∧(w.n=w.s.last.length→∀x∈w.s.last,ItemClosed g.rules (LS w.s) s0.k x))
  (fun w=>2*(g.rules.length*5*(s0.k+1)-w.s.last.length)+(if w.n=w.s.last.length then 0 else 1)) ⟨s0,-1⟩ sM oR ⟨h,Grows.refl _ _,by dsimp only;omega,fun e=>by dsimp only at e;omega⟩ ?_
 intro p F1 hF1 hP
 obtain⟨hs,hgr,hnl,hcl⟩:=hP
 have hk:=hgr.k
 have hfew:=hs.few hg hgl hQ
 have hxl:=hs.last.len
 have huk:=hs.uk
 rw[hk] at huk
 refine zB4 ?_
 refine WT.vidx hT hs.list.vec Z Z Z Z Z Z Z Z Z zo (fun b1 hb1=>?_)
 refine WT.wld1 (v:=.slice p.s.xa p.s.xn p.s.xc) hT 0 hs.list.vec hb1 huk Z Z Z Z Z Z subL Z Z Z (fun l h=>h.1) ?_
 refine zB4 ?_
 refine AW.cond Z (fun hne=>?_) (fun heq=>?_)
 ·have hne:p.n≠p.s.last.length:=by simp at hne;omega
  refine zB4 ?_
  refine AW.block ?_
  refine zB4 ?_
  refine WT.vidx hT hs.list.vec Z Z Z Z Z Z Z Z Z zo (fun b2 hb2=>?_)
  refine WT.wld1 (v:=.slice p.s.xa p.s.xn p.s.xc) hT 0 hs.list.vec hb2 huk Z Z Z Z Z Z subL Z Z Z (fun l h=>h.1) ?_
  refine zB4 ?_
  refine AW.block ?_
  refine AW.loopR (S:=CJ) (fun w=>[(4,.int .i64 (w.i:Nat))]) (fun w=>cB g q w.s::own) (fun w G=>COk g Q q G w.s∧Grows p.s w.s (fun _=>True)∧w.i≤w.s.last.length∧(w.s.last=p.s.last→∀x∈p.s.last.take w.i,ItemClosed g.rules (LS w.s) s0.k x))
   (fun w=>g.rules.length*5*(s0.k+1)-w.i) ⟨p.s,0⟩ sM oR ⟨hs,Grows.refl _ _,Nat.zero_le _,fun _ x hx=>by simp at hx⟩ ?_
  intro c F2 hF2 hP2
  obtain⟨ht,hgt,hil,hcl2⟩:=hP2
  have hk2:c.s.k=s0.k:=hgt.k.trans hk
  have hfew2:=ht.few hg hgl hQ
  rw[hk2] at hfew2
  have hxl2:=ht.last.len
  have huk2:=ht.uk
  rw[hk2] at huk2
  refine zB4 ?_
  refine WT.vidx hT ht.list.vec Z Z Z Z Z Z Z Z Z zo (fun b3 hb3=>?_)
  refine WT.wld1 (v:=.slice c.s.xa c.s.xn c.s.xc) hT 0 ht.list.vec hb3 huk2 Z Z Z Z Z Z subL Z Z Z (fun l h=>h.1) ?_
  refine zB4 ?_
  refine AW.cond Z (fun hlt=>?_) (fun hge=>?_)
  ·have hlt:c.i<c.s.last.length:=by simp at hlt;omega
   obtain⟨x,hx⟩:∃x,c.s.last[c.i]?=some x:=⟨_,gE hlt⟩
   have hQx:=ht.qlast x (gM hx)
   rw[hk2] at hQx
   have hxok:=hQ.ok _ _ hQx
   have fin:∀(u:CSt) (G:Frz),COk g Q q G u→Grows c.s u (fun _=>True)→(u.last=c.s.last→ItemClosed g.rules (LS u) s0.k x)→
     COk g Q q G u∧Grows p.s u (fun _=>True)∧c.i+1≤u.last.length∧(u.last=p.s.last→∀z∈p.s.last.take (c.i+1),ItemClosed g.rules (LS u) s0.k z):=by
    intro u G hu hgu hx2
    refine⟨hu,hgt.trans hgu,?_,fun e z hz=>?_⟩
    ·obtain⟨new,e,_⟩:=hgu.last
     rw[e,List.length_append];omega
    ·have e1:c.s.last=p.s.last:=by
      obtain⟨n1,e1,_⟩:=hgt.last
      obtain⟨n2,e2,_⟩:=hgu.last
      rw[e2,e1] at e
      have:=congrArg List.length e
      simp only[List.length_append] at this
      have:n1=[]:=List.eq_nil_of_length_eq_zero zo
      rw[e1,this,List.append_nil]
     have eL:LS u=LS c.s:=by
      funext j
      unfold LS
      rw[hgu.k,hgu.old,e,e1]
     rw[List.take_add_one,←e1,hx] at hz
     rcases List.mem_append.1 hz with hz | hz
     ·rw[eL];rw[e1] at hz;exact hcl2 e1 z hz
     ·simp at hz;subst hz;exact hx2 (e.trans e1.symm)
   refine zB4 ?_
   refine AW.block ?_
   refine zB4 ?_
   refine WT.vidx hT ht.list.vec Z Z Z Z Z Z Z Z Z zo (fun b4 hb4=>?_)
   refine WT.wld1 (v:=.slice c.s.xa c.s.xn c.s.xc) hT 0 ht.list.vec hb4 huk2 Z Z Z Z Z Z subL Z Z Z (fun l h=>h.1) ?_
   refine zB4 ?_
   refine WT.vidx hT ht.last.vec Z Z Z Z Z Z Z Z Z zo (fun b5 hb5=>?_)
   refine WT.wldS hT 0 ht.last.vec hb5 hx Z Z Z Z Z Z subX Z Z Z (fun l hl=>?_)
   obtain rfl:l=_:=hl
   skip
   refine WT.allocT hT Z Z Z Z Z Z (fun i5 hi5=>?_)
   refine zB4 ?_
   refine WT.callLend 1 Tryd.func78 Z Z Z Z Z Z Z (fun G hG hBG=>cnext_spec G g hg (hBG _ _ me) (ht.rules.mono hG) hxok) (fun v hv=>?_)
   rcases hv with ⟨hno,⟨r,hr,hd⟩,rfl⟩ | ⟨y,hyn,rfl⟩
   ·refine zB4 ?_
    refine WT.allocT hT Z Z Z Z Z Z (fun i6 hi6=>?_)
    refine zB4 ?_
    refine AW.cond Z (fun h=>(by cases h)) (fun _=>?_)
    have hfk:x.frm≤c.s.k:=by obtain⟨_,_,_,h3⟩:=hxok;omega
    obtain⟨a',n',c',hat,harr,hqs⟩:=ht.at_ hfk
    have hfl:=ht.few' hg hgl hQ x.frm
    refine zB4 ?_
    refine WT.vidx hT ht.list.vec Z Z Z Z Z Z Z Z Z zo (fun b6 hb6=>?_)
    refine WT.wld1 (v:=.slice a' n' c') hT 2 ht.list.vec hb6 hat Z Z Z Z Z Z subL Z Z Z (fun l h=>h.1) ?_
    refine WT.callLendN (P:=fun v B'=>∃a2 c2,v=.slice a2 n' c2∧Vec tItem F2 a2 n' c2 B' (LS c.s x.frm)) 2 Tryd.func92 Z Z Z Z Z Z Z (fun G hG hBG=>Spec.mono (itemClone_spec G (harr G hG hBG) (by have:=(harr G hG hBG).len;omega)) (fun F' v o _ hv=>by
     obtain⟨B',e,a2,c2,e2,hv⟩:=hv
     exact⟨B',e,a2,c2,e2,Vec.itemAny hv⟩)) (fun v BC hv=>?_)
    obtain⟨a2,c2,rfl,hcv⟩:=hv
    refine WT.freezeAll 0 Z Z (fun F3 hF3 hB3=>?_)
    have hya:=hcv.arr hF3 hB3
    have hyl:=hya.len
    have ht3:=ht.mono hF3
    refine zB4 ?_
    refine AW.range (S:=CSt) (fun _=>[]) (fun u=>[]::[(i6,.cells false [.bool false,.int .i64 0])]::[(i5,.cells false [.int .i64 x.rule,.int .i64 x.dot,.int .i64 x.frm])]::cB g q u::own)
     (fun j u G=>COk g Q q G u∧Grows c.s u (fun _=>True)∧∀y∈(LS c.s x.frm).take j,nextOf g.rules y=some ⟨false,r.left⟩→stepItem y∈u.last) n' c.s
     Z Z Z Z Z Z Z Z Z zo rfl rfl (fun _=>rfl) (fun _=>rfl) sM oR ⟨ht3,Grows.refl _ _,fun y hy=>by simp at hy⟩ ?_ ?_
    ·intro j u F4 hF4 hj hP4
     obtain⟨hu,hgu,hin⟩:=hP4
     have hku:u.k=s0.k:=hgu.k.trans hk2
     have hya4:=hya.mono hF4
     have hfew4:=hu.few hg hgl hQ
     refine zB6 ?_
     refine WT.idxL hT hya4 Z Z Z Z Z Z Z Z Z zo (fun y hyj b7 off7 ro7 cs7 lx7 hb7 hp7 hrel7=>?_)
     obtain rfl:lx7=_:=hrel7
     have hQy:=hqs y (gM hyj)
     have hyok:=hQ.ok _ _ hQy
     have next:∀w:CSt,Grows u w (fun _=>True)→(nextOf g.rules y=some ⟨false,r.left⟩→stepItem y∈w.last)→∀z∈(LS c.s x.frm).take (j+1),nextOf g.rules z=some ⟨false,r.left⟩→stepItem z∈w.last:=by
      intro w hw h1 z hz hn
      rw[List.take_add_one,hyj] at hz
      rcases List.mem_append.1 hz with hz | hz
      ·exact hw.mem (hin z hz hn)
      ·simp at hz;subst hz;exact h1 hn
     refine zB6 ?_
     refine WT.allocT hT Z Z Z Z Z Z (fun i9 hi9=>?_)
     refine zB6 ?_
     refine WT.callLend 4 Tryd.func78 Z Z Z Z Z Z Z (fun G hG hBG=>cnext_spec G g hg (hBG _ _ me) (hu.rules.mono hG) hyok) (fun v hv=>?_)
     rcases hv with ⟨hno2,_,rfl⟩ | ⟨z,hzn,rfl⟩
     ·refine zB6 ?_
      refine WT.allocT hT Z Z Z Z Z Z (fun i10 hi10=>?_)
      refine zB6 ?_
      refine AW.draw (ps:=[(2,13)]) Z Z ?_
      refine zB6 ?_
      refine⟨zrC,?_⟩
      skip
      refine AW.cond Z (fun h=>(by cases h)) (fun _=>?_)
      refine zB6 ?_
      exact⟨u,sM,zow,hu,hgu,next u (Grows.refl _ _) (fun h=>by rw[hno2] at h;cases h)⟩
     ·refine zB6 ?_
      refine WT.allocT hT Z Z Z Z Z Z (fun i10 hi10=>?_)
      refine zB6 ?_
      refine AW.draw (ps:=[(2,13)]) Z Z ?_
      refine zB6 ?_
      refine WT.idxL hT hu.rules Z Z Z Z Z Z Z Z Z (by have:=(gS hr).1;have:=hu.rules.len;omega) (fun r2 hr2 b8 off8 ro8 cs8 lx8 hb8 hp8 hrel8=>?_)
      obtain rfl:r=r2:=by rw[hr] at hr2;exact Option.some.inj hr2
      obtain⟨ra,rn,rc,rfl,hra⟩:=hrel8
      refine zB6 ?_
      refine WT.callV Tryd.func49 Z Z Z Z Z Z (gN_spec _ _) (fun v hv=>?_)
      subst hv
      refine zB6 ?_
      refine⟨zrC,?_⟩
      skip
      refine AW.cond Z (fun hc=>?_) (fun hc=>?_)
      ·have hz:z=(⟨false,r.left⟩:Sym):=by
        have h1:=sym_eq z ⟨false,r.left⟩
        rw[show ((z.term==false)&&(((z.n:Int)==(r.left:Int))&&true))=true from hc] at h1
        exact of_decide_eq_true h1.symm
       have hyd:y.dot≤4:=by
        obtain⟨ry,hy1,hy2,_⟩:=hyok
        have:=hg ry (gM hy1)
        omega
       refine zB6 ?_
       refine WT.know (v':=.agg ⟨[.int .i64 (y.rule:Nat),.int .i64 ((y.dot+1:Nat):Int),.int .i64 (y.frm:Nat)]⟩) 112 Z (by simp) ?_
       refine WT.call1F 5 Tryd.func86 Z Z Z Z Z Z Z (fun _=>rfl) (cadd_spec _ g hu zo (stepItem y) (by rw[hku];exact hQ.complete s0.k x y r hQx hr hd hQy (by rw[hzn,hz]))) (fun F5 v B5 hF5 hv=>?_)
       obtain⟨w,rfl,hw,hgw,hmem⟩:=hv
       refine zB6 ?_
       have hgw':=hgw.mono (P':=fun _=>True) (fun _ _=>trivial)
       exact⟨w,sM,zow,hw,hgu.trans hgw',next w hgw' (fun _=>hmem)⟩
      ·have hz:z≠(⟨false,r.left⟩:Sym):=by
        have h1:=sym_eq z ⟨false,r.left⟩
        rw[show ((z.term==false)&&(((z.n:Int)==(r.left:Int))&&true))=false from hc] at h1
        exact of_decide_eq_false h1.symm
       refine zB6 ?_
       exact⟨u,sM,zow,hu,hgu,next u (Grows.refl _ _) (fun h=>by rw[hzn] at h;exact absurd (Option.some.inj h) hz)⟩
    ·intro u F4 hF4 hP4
     obtain⟨hu,hgu,hin⟩:=hP4
     rw[List.take_of_length_le zo] at hin
     refine zB6 ?_
     refine⟨⟨u,c.i+1⟩,by dsimp only;omega,sM,zow,?_⟩
     refine fin u _ hu hgu (fun e=>⟨fun n2 i2 r2 hn2 _ _=>(by rw[hno] at hn2;cases hn2),fun r2 hr2 hd2 y hy hn2=>?_⟩)
     rw[hr] at hr2
     obtain rfl:=Option.some.inj hr2
     have eL:LS u=LS c.s:=by
      funext j
      unfold LS
      rw[hgu.k,hgu.old,e]
     rw[eL] at hy
     have:=hin y hy hn2
     unfold LS
     rw[hgu.k,hk2,if_pos rfl]
     exact this
   ·refine zB4 ?_
    refine WT.allocT hT Z Z Z Z Z Z (fun i6 hi6=>?_)
    refine zB4 ?_
    refine AW.cond Z (fun _=>?_) (fun h=>(by cases h))
    refine zB4 ?_
    refine WT.call1F 2 Tryd.func76 Z Z Z Z Z Z Z (fun _=>rfl) (cpredict_spec _ g hg hgl hQ ht y (fun hyt i' r' hr' hl'=>by
     rw[hk2]
     exact hQ.predict s0.k x y.n i' r' hQx (by rw[hyn];cases y;simp only at hyt;rw[hyt]) hr' hl')) (fun F3 v B3 hF3 hv=>?_)
    obtain⟨u,rfl,hu,hgu,hin⟩:=hv
    refine zB4 ?_
    refine AW.exit ?_
    refine zB4 ?_
    refine⟨⟨u,c.i+1⟩,by dsimp only;omega,sM,zow,?_⟩
    refine fin u _ hu hgu (fun _=>⟨fun n' i' r' hn' hr' hl'=>?_,fun r' hr' hd'=>?_⟩)
    ·rw[hyn] at hn'
     obtain rfl:=Option.some.inj hn'
     have:=hin i' r' hr' rfl hl'
     unfold LS
     rw[hgu.k,hk2,if_pos rfl]
     rw[hk2] at this;exact this
    ·exfalso
     unfold nextOf at hyn
     rw[hr'] at hyn
     have:r'.right[x.dot]?=some y:=hyn
     have:=(gS this).1
     omega
  ·have hge:c.i=c.s.last.length:=by simp at hge;omega
   skip
   refine AW.exit ?_
   skip
   have hpl:p.s.last.length≤c.s.last.length:=by
    obtain⟨n1,e1,_⟩:=hgt.last
    rw[e1,List.length_append];omega
   refine⟨⟨c.s,(p.s.xn:Nat)⟩,?_,sM,OwnLe.refl _,ht,hgr.trans hgt,by dsimp only;omega,fun e=>?_⟩
   ·dsimp only
    rw[if_neg hne]
    split<;>omega
   ·dsimp only at e
    have e1:c.s.last=p.s.last:=by
     obtain⟨n1,e1,_⟩:=hgt.last
     have:=congrArg List.length e1
     simp only[List.length_append] at this
     have:n1=[]:=List.eq_nil_of_length_eq_zero zo
     rw[e1,this,List.append_nil]
    intro z hz
    refine hcl2 e1 z ?_
    rw[List.take_of_length_le zo,←e1];exact hz
 ·have heq:p.n=p.s.last.length:=by simp at heq;omega
  skip
  refine AW.exit ?_
  skip
  exact⟨_,[_],rfl,zsb,_,rfl,p.s,rfl,hs,hgr,fun x hx=>by rw[hk];exact hcl heq x hx⟩
theorem own_drop(a b:Nat×Blk)(BS BL BX:List (Nat×Blk))(own:Own):OwnLe ((a::(BS++BL))::BX::own) ((a::(BS++(BL++(b::BX))))::own):=by
 refine⟨(a::(BS++(BL++BX)))++own.flatten,?_,List.Perm.of_eq (by simp)⟩
 simp only[List.flatten_cons]
 refine List.Sublist.append_right (List.Sublist.cons_cons _ (List.Sublist.append_left (List.Sublist.append_left (List.sublist_cons_self _ _) _) _)) _
theorem cstartQ_spec(F:Frz)(g:Gram)(hg:∀r∈g.rules,r.right.length≤4)(hgl:g.rules.length≤32){Q:Nat→Item→Prop}(hQ:QInv g Q)(hst:∀i r,g.rules[i]?=some r→r.left=g.start→Q 0 ⟨i,0,0⟩)
  {a:Option Addr} {m c:Nat} (hr:Arr tRule F a m c g.rules) :
  Abs.Spec CC 43 [.agg ⟨gramCells g a m c⟩] F [] fun F' v o=>
   ∃B',o=[B']∧∃q s,v=.pointer (some ⟨q.ic,0,none⟩)∧B'=cB g q s∧COk g Q q F' s∧s.k=0∧(∀i r,g.rules[i]?=some r→r.left=g.start→(⟨i,0,0⟩:Item)∈s.last)∧(∀x∈s.last,ItemClosed g.rules (LS s) s.k x)∧q=⟨q.ic,a,m,c⟩:=by
 unfold gramCells
 refine Abs.Spec.fn (n:=17) Tryd.func43 rfl rfl fun own=>?_
 refine AW.seq (AW.reg ?_)
 refine WT.boxT Z Z Z Z Z Z (fun i1 hi1=>?_)
 refine zB4 ?_
 refine WT.boxT Z Z Z Z Z Z (fun ic hic=>?_)
 refine zB4 ?_
 refine WT.call1F 0 Tryd.func75 Z Z Z Z Z Z Z (fun _=>rfl) (cset_spec F (ic:=ic) (n:=0) (BS:=[]) (BL:=[]) (Bld.nil_ tRaw F) (Bld.nil_ tRaw F) (by decide) ⟨rfl,rfl,rfl,rfl⟩) (fun F1 v B1 hF1 hv=>?_)
 obtain⟨sa,sc,la,lc,BS,BL,im,hs,hl,rfl⟩:=hv
 have h0:COk g Q ⟨ic,a,m,c⟩ F1 ⟨0,[],[],sa,sc,BS,[],la,lc,BL,[],im,[],none,0,0,[]⟩:=
  ⟨hr.mono hF1,hs,hl,rfl,rfl,fun j l h=>by simp at h,fun y=>by simp[Abs.look],Bld.nil_ _ _,List.nodup_nil,fun j l h=>by simp at h,fun x h=>by simp at h,Nat.zero_le _,fun j l h=>by simp at h,fun j l h=>by simp at h⟩
 refine zB4 ?_
 refine WT.callV Tryd.func49 Z Z Z Z Z Z (gN_spec _ _) (fun v hv=>?_)
 subst hv
 refine WT.call1F 0 Tryd.func76 Z Z Z Z Z Z Z (fun _=>rfl) (cpredict_spec _ g hg hgl hQ h0 ⟨false,g.start⟩ (fun _ i r hr hl=>hst i r hr hl)) (fun F2 v B2 hF2 hv=>?_)
 obtain⟨s1,rfl,h1,hg1,hin⟩:=hv
 refine zB4 ?_
 refine WT.call1F 0 Tryd.func77 Z Z Z Z Z Z Z (fun _=>rfl) (ccomplete_spec _ g hg hgl hQ h1) (fun F3 v B3 hF3 hv=>?_)
 obtain⟨s2,rfl,h2,hg2,hcl⟩:=hv
 refine zB4 ?_
 refine AW.perm (perm_to1 _ _ _) ?_
 exact AW.ret ⟨_,[_],⟨_,_,rfl,rfl,rfl⟩,zsb,_,rfl,⟨ic,a,m,c⟩,s2,rfl,rfl,h2,hg2.k.trans hg1.k,fun i r hr hl=>hg2.mem (hin i r hr rfl hl),hcl,rfl⟩
theorem cstart_spec(F:Frz)(g:Gram)(hg:∀r∈g.rules,r.right.length≤4)(hgl:g.rules.length≤32){Q:Nat→Item→Prop}(hQ:QInv g Q)(hst:∀i r,g.rules[i]?=some r→r.left=g.start→Q 0 ⟨i,0,0⟩)
  {a:Option Addr} {m c:Nat} (hr:Arr tRule F a m c g.rules) :
  Abs.Spec CC 43 [.agg ⟨gramCells g a m c⟩] F [] fun F' v o=>
   ∃B',o=[B']∧∃q s,v=.pointer (some ⟨q.ic,0,none⟩)∧B'=cB g q s∧COk g Q q F' s∧s.k=0∧(∀i r,g.rules[i]?=some r→r.left=g.start→(⟨i,0,0⟩:Item)∈s.last)∧∀x∈s.last,ItemClosed g.rules (LS s) s.k x:=
 (cstartQ_spec F g hg hgl hQ hst hr).mono fun _ _ _ _ ⟨B',h1,q,s,h2,h3,h4,h5,h6,h7,_⟩=>⟨B',h1,q,s,h2,h3,h4,h5,h6,h7⟩
theorem vec_repB{F:Frz}{i n:Nat}(z:Bool):Vec tBool F (some ⟨i,0,none⟩) n (bif n==0 then 0 else 1) [(i,.cells false (List.replicate n (.bool z)))] (List.replicate n z):=by
 refine⟨by simp,?_,fun h=>?_,fun h=>(by cases h),fun p hp=>(by cases hp;rfl),.inr ⟨i,_,rfl,rfl,?_,by decide⟩⟩
 ·cases n<;>simp[tBool]
 ·cases n with
  | zero=>rfl
  | succ n=>simp at h
 ·induction n with
  | zero=>exact .nil
  | succ n ih=>
   rw[List.replicate_succ,List.replicate_succ]
   exact Cells.cons (R:=tBool) (l:=[.bool z]) rfl ih
structure NB where
 xs:List Bool
 B:List (Nat×Blk)
theorem feed11_spec(F:Frz){ie:Nat}{ro:Bool}{ea:Option Addr}{en ec:Nat}{E:List Bool}(hi:F ie=some (.cells ro [.slice ea en ec]))(hE:Arr tBool F ea en ec E)(y:Sym)(hy:y.term=true∨y.n<E.length) :
  Abs.Spec CC 42 [.agg ⟨[.bool y.term,.int .i64 y.n]⟩,.pointer (some ⟨ie,0,none⟩)] F [] fun _ v o=>o=[]∧v=.bool (!y.term&&!(E.getD y.n false)):=by
 have hEl:=hE.len
 refine Abs.Spec.fn (n:=15) Tryd.func42 rfl rfl fun own=>?_
 refine AW.seq (AW.reg ?_)
 refine WT.boxT Z Z Z Z Z Z (fun i2 hi2=>?_)
 refine zB4 ?_
 refine WT.split 7 Z (fun hty=>?_) (fun hty=>?_)
 ·have hty:y.term=false:=by simpa using hty
  have hyn:y.n<E.length:=by rcases hy with h | h;rw[hty] at h;cases h;exact h
  refine zB4 ?_
  refine WT.idxL hT hE Z Z Z Z Z Z Z Z Z hyn (fun z hz b3 off3 ro3 cs3 lx3 hb3 hp3 hrel3=>?_)
  obtain rfl:lx3=_:=hrel3
  refine zB4 ?_
  refine AW.ret ⟨_,[],⟨_,_,rfl,rfl,rfl⟩,zsb,rfl,?_⟩
  rw[hty,List.getD_eq_getElem?_getD,hz];rfl
 ·have hty:y.term=true:=by simpa using hty
  refine zB4 ?_
  refine AW.ret ⟨_,[],⟨_,_,rfl,rfl,rfl⟩,zsb,rfl,?_⟩
  rw[hty];rfl
theorem feed1_spec(F:Frz){ie:Nat}{ro:Bool}{ea:Option Addr}{en ec:Nat}{E:List Bool}(hi:F ie=some (.cells ro [.slice ea en ec]))(hE:Arr tBool F ea en ec E)(r:Rule)(hr:∀y∈r.right,y.term=true∨y.n<E.length){b:Option Addr}{n d:Nat}(hb:Arr tSym F b n d r.right)(hn:n≤1000000) :
  Abs.Spec CC 40 [.agg ⟨[.int .i64 r.left,.slice b n d]⟩,.pointer (some ⟨ie,0,none⟩)] F [] fun _ v o=>o=[]∧v=.bool (r.right.any fun y=>!y.term&&!(E.getD y.n false)):=by
 refine Abs.Spec.fn (n:=8) Tryd.func40 rfl rfl fun own=>?_
 refine AW.seq (AW.reg ?_)
 refine WT.boxT Z Z Z Z Z Z (fun i2 hi2=>?_)
 refine zB4 ?_
 refine WT.callV Tryd.func41 Z Z Z Z Z Z (symAny_spec _ hb hn (fun y=>!y.term&&!(E.getD y.n false)) (first:=[]) (capt:=[.pointer (some ⟨ie,0,none⟩)]) Tryd.func42 Z (fun y hy=>feed11_spec _ hi hE y (hr y hy))) (fun v hv=>?_)
 subst hv
 refine zB4 ?_
 exact AW.ret ⟨_,[],⟨_,_,rfl,rfl,rfl⟩,zsb,rfl,rfl⟩
def QI(g:Gram):Nat→Item→Prop:=fun k x=>ItemOk g.rules k x
theorem nextOf_some{rs:List Rule}{x:Item}{y:Sym}(h:nextOf rs x=some y):∃r,rs[x.rule]?=some r∧r.right[x.dot]?=some y:=by
 unfold nextOf at h
 cases hr:rs[x.rule]? with
 | none=>rw[hr] at h;cases h
 | some r=>rw[hr] at h;exact⟨r,rfl,h⟩
theorem QI_inv(g:Gram):QInv g (QI g) where
 ok:=fun _ _ h=>h
 predict:=fun k x n i r _ _ hr _=>⟨r,hr,Nat.zero_le _,Nat.le_refl _⟩
 complete:=fun k x y r hx hr hd hy hn=>by
  obtain⟨ry,h1,h2,h3⟩:=hy
  obtain⟨r',h4,h5⟩:=nextOf_some hn
  rw[h1] at h4
  obtain rfl:=Option.some.inj h4
  obtain⟨_,_,_,h6⟩:=hx
  have:=(gS h5).1
  exact⟨ry,h1,by show y.dot+1≤_;omega,by show y.frm≤k;omega⟩
theorem QI_scan(g:Gram)(k t:Nat):∀x,QI g k x→nextOf g.rules x=some ⟨true,t⟩→QI g (k+1) (stepItem x):=fun x hx hn=>by
 obtain⟨rx,h1,h2,h3⟩:=hx
 obtain⟨r',h4,h5⟩:=nextOf_some hn
 rw[h1] at h4
 obtain rfl:=Option.some.inj h4
 have:=(gS h5).1
 exact⟨rx,h1,by show x.dot+1≤_;omega,by show x.frm≤k+1;omega⟩
structure FSt where
 fi:Nat
 ga:Option Addr
 gm:Nat
 gc:Nat
 q:ChP
 s:CSt
 wa:Option Addr
 wn:Nat
 wc:Nat
 BW:List (Nat×Blk)
 w:List Nat
 E:List Bool
structure FdOk(g:Gram)(F:Frz)(f:FSt):Prop where
 rules:Arr tRule F f.ga f.gm f.gc g.rules
 ends:EndsIn g f.E
 chart:COk (trimmed f.E g) (QI (trimmed f.E g)) f.q F f.s
 k:f.s.k=f.w.length
 sets:Sets (trimmed f.E g) f.w (LS f.s)
 word:Bld tNat F f.wa f.wn f.wc f.BW f.w
 ok:∀t∈f.w,t<g.terms
theorem FdOk.mono{g:Gram}{F G:Frz}{f:FSt}(h:FdOk g F f)(hF:Frz.le F G):FdOk g G f:=⟨h.rules.mono hF,h.ends,h.chart.mono hF,h.k,h.sets,h.word.mono hF,h.ok⟩
theorem trim_right{g:Gram}(hg:Valid g)(E:List Bool):∀r∈(trimmed E g).rules,r.right.length≤4:=fun r hr=>(hg.right r (List.mem_filter.1 hr).1).2.1
theorem trim_len{g:Gram}(hg:Valid g)(E:List Bool):(trimmed E g).rules.length≤32:=Nat.le_trans (List.length_filter_le _ _) hg.range.rules
theorem trim_sym{g:Gram}(hg:Valid g)(E:List Bool):∀r∈(trimmed E g).rules,∀y∈r.right,SymOk (trimmed E g).terms (trimmed E g).nons y:=fun r hr=>(hg.right r (List.mem_filter.1 hr).1).2.2
structure NextOk(g:Gram)(f:FSt)(xs:List Bool):Prop where
 len:xs.length=g.terms+1
 term:∀t,t<g.terms→(xs[t]?=some true↔∃x∈f.s.last,nextOf (trimmed f.E g).rules x=some ⟨true,t⟩)
 done:xs[g.terms]?=some (derives g f.w g.start 0 f.w.length)
theorem Vec.boolAny{F G:Frz}{a:Option Addr}{n c:Nat}{B:List (Nat×Blk)}{xs:List Bool}(h:Vec tBool F a n c B xs):Vec tBool G a n c B xs:=by
 have cells:∀{cs:List Value} {xs:List Bool},Cells tBool F cs xs→Cells tBool G cs xs:=by
  intro cs xs h
  induction h with
  | nil=>exact .nil
  | cons h1 _ ih=>exact .cons h1 ih
 exact⟨h.len,h.cap,h.zero,h.nil,h.spot,h.el.imp id fun ⟨i,cs,h1,h2,h3,h4⟩=>⟨i,cs,h1,h2,cells h3,h4⟩⟩
theorem LS_put{s s':CSt}(hk:s'.k=s.k+1)(hol:s.old.length=s.k)(ho:s'.old=s.old++[s.last]){j:Nat}(hj:j≤s.k):LS s' j=LS s j:=by
 unfold LS
 rw[if_neg zo,ho]
 by_cases h:j=s.k
 ·rw[if_pos h,List.getD_eq_getElem?_getD,List.getElem?_append_right zo,show j-s.old.length=0 by omega];rfl
 ·rw[if_neg h,List.getD_eq_getElem?_getD,List.getD_eq_getElem?_getD,List.getElem?_append_left zo]
theorem sets_put{g:Gram}{w:List Nat}{t:Nat}{s s':CSt}(h:Sets g w (LS s))(hw:s.k=w.length)(hok:∀x∈s'.last,ItemOk g.rules s'.k x)(hk:s'.k=s.k+1)(hol:s.old.length=s.k)(ho:s'.old=s.old++[s.last])
  (hsc:∀x∈s.last,nextOf g.rules x=some ⟨true,t⟩→stepItem x∈s'.last) (hcl:∀x∈s'.last,ItemClosed g.rules (LS s') s'.k x):Sets g (w++[t]) (LS s'):=by
 have hL:∀j,j≤s.k→LS s' j=LS s j:=fun j hj=>LS_put hk hol ho hj
 have hN:LS s' (s.k+1)=s'.last:=by unfold LS;rw[if_pos hk.symm]
 have hS:LS s s.k=s.last:=by unfold LS;rw[if_pos rfl]
 refine⟨fun k hk1 x hx=>?_,fun i r hr hl=>?_,fun k hk1 x hx=>?_,fun k t' ht x hx hn=>?_⟩
 ·simp only[List.length_append,List.length_singleton] at hk1
  rcases Nat.lt_or_ge k (s.k+1) with h1 | h1
  ·rw[hL k zo] at hx;exact h.ok k zo x hx
  ·obtain rfl:k=s.k+1:=by omega
   rw[hN] at hx;rw[←hk];exact hok x hx
 ·rw[hL 0 (Nat.zero_le _)];exact h.start i r hr hl
 ·simp only[List.length_append,List.length_singleton] at hk1
  rcases Nat.lt_or_ge k (s.k+1) with h1 | h1
  ·rw[hL k zo] at hx
   obtain⟨c1,c2⟩:=h.closed k zo x hx
   obtain⟨_,_,_,hf⟩:=h.ok k zo x hx
   refine⟨fun n i r hn hr hl=>?_,fun r hr hd y hy hn=>?_⟩
   ·rw[hL k zo];exact c1 n i r hn hr hl
   ·rw[hL x.frm zo] at hy
    rw[hL k zo];exact c2 r hr hd y hy hn
  ·obtain rfl:k=s.k+1:=by omega
   rw[hN] at hx
   have:=hcl x hx
   rw[hk] at this;exact this
 ·rcases Nat.lt_or_ge k w.length with h1 | h1
  ·rw[List.getElem?_append_left h1] at ht
   rw[hL k zo] at hx
   have h2:=h.scan k t' ht x hx hn
   rw[hL (k+1) zo];exact h2
  ·rw[List.getElem?_append_right h1] at ht
   have:=(gS ht).1
   simp at this
   have e:k=s.k:=by omega
   subst e
   rw[hw,Nat.sub_self] at ht
   obtain rfl:t=t':=by simpa using ht
   rw[hL _ (Nat.le_refl _),hS] at hx
   rw[hN];exact hsc x hx hn
theorem csetG_spec(F:Frz){ic n sc lc:Nat}{x0 x1 x2 x3:Value}{sa la:Option Addr}{BS BL:List (Nat×Blk)}{vs us:List Value}(hs:GB tRaw F sa n sc BS vs)(hl:GB tRaw F la n lc BL us)(hn:n≤1000)
  (ho:one x0=true∧one x1=true∧one x2=true∧one x3=true) :
  Abs.Spec CC 75 [.pointer (some ⟨ic,0,none⟩)] F [(ic,.cells false [x0,x1,x2,x3,.slice sa n sc,.slice la n lc])::(BS++BL)] fun F' v o=>
   ∃B',o=[B']∧∃sa' sc' la' lc' BS' BL' im,Bld tRaw F' sa' (n+1) sc' BS' (vs++[.map (some im)])∧Bld tRaw F' la' (n+1) lc' BL' (us++[.slice none 0 0])∧
    B'=(ic,.cells false [x0,x1,x2,x3,.slice sa' (n+1) sc',.slice la' (n+1) lc'])::(BS'++(BL'++[(im,.map [])])):=by
 have hsl:=hs.len
 have hll:=hl.len
 refine Abs.Spec.fn (n:=21) Tryd.func75 rfl rfl fun own=>?_
 refine AW.le (own2:=[(ic,.cells false [x0,x1,x2,x3,.slice sa n sc,.slice la n lc])]::BS::BL::own) (OwnLe.flat (List.Perm.of_eq (by simp))) ?_
 refine AW.draw (ps:=[(5,6),(5,7),(5,13),(12,6),(12,7),(12,8),(12,13)]) Z Z ?_
 refine zB4 ?_
 refine WT.makeMap Z Z Z Z (fun im him=>?_)
 skip
 refine WT.buildT hT Z Z Z Z Z Z Z Z Z Z Z Z Z Z (fun i9 hi9=>?_)
 refine WT.appendG (ys:=[.map (some im)]) hT 3 hs Z (fun _=>rfl) Z Z Z Z Z Z Z Z Z Z Z (fun h0 s0=>news_own hT s0 0 Z Z Z Z) (Cells.single (R:=tRaw) (x:=.map (some im)) ⟨rfl,rfl⟩) Z (by decide) zom (fun sa' sc' BS' hBS'=>?_)
 refine zB6 ?_
 refine WT.buildT hT Z Z Z Z Z Z Z Z Z Z Z Z Z Z (fun i15 hi15=>?_)
 refine WT.appendG (ys:=[.slice none 0 0]) hT 5 hl Z (fun _=>rfl) Z Z Z Z Z Z Z Z Z Z Z (fun h0 s0=>news_own hT s0 0 Z Z Z Z) (Cells.single (R:=tRaw) (x:=.slice none 0 0) ⟨rfl,rfl⟩) Z (by decide) zom (fun la' lc' BL' hBL'=>?_)
 refine WT.le (own2:=((ic,.cells false [x0,x1,x2,x3,.slice sa n sc,.slice la n lc])::(BS'++(BL'++[(im,.map [])])))::own) (OwnLe.skip _ (OwnLe.skip _ (own_set _ _ _ _ _))) ?_
 refine zB6 ?_
 refine⟨zrC,?_⟩
 skip
 exact⟨_,[_],rfl,zsb,_,rfl,sa',sc',la',lc',BS',BL',im,hBS',hBL',rfl⟩
structure SSt where
 k:Nat
 lists:List (List Item)
 sa:Option Addr
 sc:Nat
 BS:List (Nat×Blk)
 vs:List Value
 la:Option Addr
 lc:Nat
 BL:List (Nat×Blk)
 us:List Value
def shCells(g:Gram)(q:ChP)(s:SSt):List Value:=[.int .i64 g.terms,.int .i64 g.nons,.int .i64 g.start,.slice q.ra q.rm q.rc,.slice s.sa (s.k+1) s.sc,.slice s.la (s.k+1) s.lc]
def shB(g:Gram)(q:ChP)(s:SSt):List (Nat×Blk):=(q.ic,.cells false (shCells g q s))::(s.BS++s.BL)
structure SOk(g:Gram)(Q:Nat→Item→Prop)(q:ChP)(F:Frz)(s:SSt):Prop where
 rules:Arr tRule F q.ra q.rm q.rc g.rules
 sets:GB tRaw F s.sa (s.k+1) s.sc s.BS s.vs
 list:GB tRaw F s.la (s.k+1) s.lc s.BL s.us
 len:s.lists.length=s.k+1
 olds:∀(j:Nat) (l:List Item),s.lists[j]?=some l→∃a n c,s.us[j]?=some (.slice a n c)∧Arr tItem F a n c l
 all:∀(j:Nat) (l:List Item),s.lists[j]?=some l→∀x∈l,Q j x
 small:s.k≤20
 olen:∀(j:Nat) (l:List Item),s.lists[j]?=some l→l.length≤3360
 nd:∀(j:Nat) (l:List Item),s.lists[j]?=some l→l.Nodup
theorem SOk.mono{g:Gram}{Q:Nat→Item→Prop}{q:ChP}{F G:Frz}{s:SSt}(h:SOk g Q q F s)(hF:Frz.le F G):SOk g Q q G s:=
 ⟨h.rules.mono hF,h.sets.mono hF,h.list.mono hF,h.len,fun j l hj=>by obtain⟨a,n,c,h1,h2⟩:=h.olds j l hj;exact⟨a,n,c,h1,h2.mono hF⟩,h.all,h.small,h.olen,h.nd⟩
theorem SOk.weaken{g:Gram}{Q Q':Nat→Item→Prop}{q:ChP}{F:Frz}{s:SSt}(h:SOk g Q q F s)(hQ:∀k x,k≤s.k→Q k x→Q' k x):SOk g Q' q F s:=
 ⟨h.rules,h.sets,h.list,h.len,h.olds,fun j l hj x hx=>hQ j x (by have:=(gS hj).1;have:=h.len;omega) (h.all j l hj x hx),h.small,h.olen,h.nd⟩
def LZ(s:SSt):Nat→List Item:=fun j=>s.lists.getD j []
def restOf(s:CSt):SSt:=⟨s.k,s.old++[s.last],s.sa,s.sc,s.BS,s.vs++[.map (some s.im)],s.la,s.lc,s.BL,s.us++[.slice s.xa s.xn s.xc]⟩
theorem COk.rest{g:Gram}{Q:Nat→Item→Prop}{q:ChP}{F G:Frz}{s:CSt}(h:COk g Q q F s)(hfew:s.last.length≤3360)(hG:Frz.le F G)(hB:∀i b,(i,b)∈s.BX→G i=some b):SOk g Q q G (restOf s):=by
 have hol:=h.oldl
 have hul:=h.usl
 have hpass:∀j l,(s.old++[s.last])[j]?=some l→s.old[j]?=some l∨(j=s.k∧l=s.last):=by
  intro j l hj
  rcases Nat.lt_or_ge j s.old.length with h1 | h1
  ·rw[List.getElem?_append_left h1] at hj;exact .inl hj
  ·rw[List.getElem?_append_right h1] at hj
   have:=(gS hj).1
   simp at this
   have e:j-s.old.length=0:=by omega
   rw[e] at hj
   exact .inr ⟨by omega,by simpa using hj.symm⟩
 refine⟨h.rules.mono hG,(h.sets.mono hG).gb,(h.list.mono hG).gb,by simp[restOf,hol],fun j l hj=>?_,fun j l hj x hx=>?_,h.small,fun j l hj=>?_,fun j l hj=>?_⟩
 ·rcases hpass j l hj with h1 | ⟨rfl,rfl⟩
  ·obtain⟨a,n,c,h2,h3⟩:=h.olds j l h1
   exact⟨a,n,c,by show (s.us++[_])[j]?=_;rw[List.getElem?_append_left (gS h2).1];exact h2,h3.mono hG⟩
  ·exact⟨_,_,_,h.uk,h.last.frozen hG hB⟩
 ·rcases hpass j l hj with h1 | ⟨rfl,rfl⟩
  ·exact h.qold j l h1 x hx
  ·exact h.qlast x hx
 ·rcases hpass j l hj with h1 | ⟨rfl,rfl⟩
  ·exact h.olen j l h1
  ·exact hfew
 ·rcases hpass j l hj with h1 | ⟨rfl,rfl⟩
  ·exact h.ndold j l h1
  ·exact h.nodup
theorem LZ_rest{s:CSt}(hol:s.old.length=s.k):LZ (restOf s)=LS s:=by
 funext j
 unfold LZ LS restOf
 show (s.old++[s.last]).getD j []=_
 rw[List.getD_eq_getElem?_getD]
 by_cases h:j=s.k
 ·rw[if_pos h,List.getElem?_append_right zo,show j-s.old.length=0 by omega];rfl
 ·rw[if_neg h,List.getD_eq_getElem?_getD]
  rcases Nat.lt_or_ge j s.k with h1 | h1
  ·rw[List.getElem?_append_left zo]
  ·rw[List.getElem?_eq_none (by simp;omega),List.getElem?_eq_none zo]
theorem own_rest{g:Gram}{q:ChP}{s:CSt}(own:Own):OwnLe (shB g q (restOf s)::s.BX::own) (cB g q s::own):=own_drop _ _ _ _ _ _
theorem cnextA_spec(G:Frz)(g:Gram)(hg:∀r∈g.rules,r.right.length≤4)(hgt:g.terms≤1000)(hsym:∀r∈g.rules,∀y∈r.right,SymOk g.terms g.nons y){ic rm rc sc lc k xn xc:Nat}{ra sa la xa:Option Addr}{us:List Value}{last:List Item}
  (hic:G ic=some (.cells false [.int .i64 g.terms,.int .i64 g.nons,.int .i64 g.start,.slice ra rm rc,.slice sa (k+1) sc,.slice la (k+1) lc])) (hr:Arr tRule G ra rm rc g.rules) (hla:Arr tRaw G la (k+1) lc us) (huk:us[k]?=some (.slice xa xn xc)) (hxa:Arr tItem G xa xn xc last) (hok:∀x∈last,ItemOk g.rules k x) (hfew:last.length≤3360) (hsm:k≤20) :
  Abs.Spec CC 44 [.pointer (some ⟨ic,0,none⟩)] G [] fun F' v o=>
   ∃B',o=[B']∧∃a' c' xs,v=.slice a' g.terms c'∧Vec tBool F' a' g.terms c' B' xs∧∀t,t<g.terms→(xs[t]?=some true↔∃x∈last,nextOf g.rules x=some ⟨true,t⟩):=by
 have hxl:=hxa.len
 have hlal:=hla.len
 refine Abs.Spec.fn (n:=48) Tryd.func44 rfl rfl fun own=>?_
 refine zB4 ?_
 refine WT.makeT (by_:=1) hT Z Z Z Z Z Z Z Z Z Z Z Z zo (fun io hio=>?_)
 have hv0:=vec_repB (F:=G) (i:=io) (n:=g.terms) false
 refine zB4 ?_
 refine WT.know (v':=.int .i64 (k:Nat)) 23 Z (by congr 1;omega) ?_
 refine WT.idxL hT hla Z Z Z Z Z Z Z Z Z zo (fun v hv b off ro cs lx hb1 hp1 hrel=>?_)
 obtain rfl:v=.slice xa xn xc:=by rw[huk] at hv;exact(Option.some.inj hv).symm
 obtain⟨rfl,_⟩:=hrel
 refine zB4 ?_
 refine AW.range (S:=NB) (fun _=>[]) (fun u=>u.B::own)
  (fun j u F=>Vec tBool F (some ⟨io,0,none⟩) g.terms (bif g.terms==0 then 0 else 1) u.B u.xs∧∀t,t<g.terms→(u.xs[t]?=some true↔∃x∈last.take j,nextOf g.rules x=some ⟨true,t⟩)) xn ⟨_,_⟩
  Z Z Z Z Z Z Z Z Z zo rfl rfl (fun _=>rfl) (fun _=>rfl) sM oR ⟨hv0,fun t ht=>?_⟩ ?_ ?_
 ·simp[List.getElem?_replicate]
 ·intro j u F1 hF1 hj hP
  obtain⟨hv,hin⟩:=hP
  have hxa1:=hxa.mono hF1
  have hrules:=hr.mono hF1
  have hic1:=hF1 _ _ hic
  refine zB6 ?_
  refine WT.idxL hT hxa1 Z Z Z Z Z Z Z Z Z zo (fun y hyj b7 off7 ro7 cs7 lx7 hb7 hp7 hrel7=>?_)
  obtain rfl:lx7=_:=hrel7
  have hyok:=hok y (gM hyj)
  have htk:last.take (j+1)=last.take j++[y]:=by rw[List.take_add_one,hyj];rfl
  refine zB6 ?_
  refine WT.allocT hT Z Z Z Z Z Z (fun i5 hi5=>?_)
  refine zB6 ?_
  refine WT.callV Tryd.func78 Z Z Z Z Z Z (cnext_spec F1 g hg (q:=⟨ic,ra,rm,rc⟩) (s:=⟨k,[],[],sa,sc,[],[],la,lc,[],[],0,[],none,0,0,[]⟩) hic1 hrules hyok) (fun v hv'=>?_)
  rcases hv' with ⟨hno2,_,rfl⟩ | ⟨z,hzn,rfl⟩
  ·refine zB6 ?_
   refine WT.allocT hT Z Z Z Z Z Z (fun i6 hi6=>?_)
   refine zB6 ?_
   refine AW.cond Z (fun h=>(by cases h)) (fun _=>?_)
   refine zB6 ?_
   refine⟨u,sM,zow,hv,fun t ht=>?_⟩
   rw[hin t ht,htk]
   simp[hno2]
  ·have hzt:z.term=true→z.n<g.terms:=fun hzt=>by
    unfold nextOf at hzn
    cases hr:g.rules[y.rule]? with
    | none=>rw[hr] at hzn;cases hzn
    | some r=>
     rw[hr] at hzn
     have:=hsym r (gM hr) z (gM (show r.right[y.dot]?=some z from hzn))
     rw[SymOk,if_pos hzt] at this
     exact this
   refine zB6 ?_
   refine WT.allocT hT Z Z Z Z Z Z (fun i6 hi6=>?_)
   refine zB6 ?_
   refine AW.cond Z (fun hc=>?_) (fun hc=>?_)
   ·have hc:z.term=true:=hc
    have hzn':nextOf g.rules y=some ⟨true,z.n⟩:=by rw[hzn];cases z;simp only at hc;rw[hc]
    have hlt:=hzt hc
    have hvl:=hv.len
    obtain⟨w,hw⟩:∃w,u.xs[z.n]?=some w:=⟨_,gE zo⟩
    refine zB6 ?_
    refine WT.vidx hT hv Z Z Z Z Z Z Z Z Z hlt (fun b5 hb5=>?_)
    refine WT.vst (y:=true) hT 2 hv hb5 hw Z Z Z Z Z Z Z (fun _=>rfl) Z (fun B6 hB6=>?_)
    refine zB6 ?_
    refine⟨⟨u.xs.set z.n true,B6⟩,sM,zow,hB6,fun t ht=>?_⟩
    show (u.xs.set z.n true)[t]?=some true↔_
    rw[htk]
    by_cases e:t=z.n
    ·subst e
     rw[List.getElem?_set_self zo]
     simp only[true_iff]
     exact⟨y,by simp,hzn'⟩
    ·rw[List.getElem?_set_ne (fun h=>e h.symm),hin t ht]
     constructor
     ·rintro⟨x,hx,hn⟩;exact⟨x,List.mem_append_left _ hx,hn⟩
     ·rintro⟨x,hx,hn⟩
      rcases List.mem_append.1 hx with hx | hx
      ·exact⟨x,hx,hn⟩
      ·simp at hx;subst hx
       rw[hzn'] at hn
       injection hn with hn;injection hn with _ hn
       exact absurd hn.symm e
   ·have hc:z.term=false:=hc
    refine zB6 ?_
    refine⟨u,sM,zow,hv,fun t ht=>?_⟩
    rw[hin t ht,htk]
    constructor
    ·rintro⟨x,hx,hn⟩;exact⟨x,List.mem_append_left _ hx,hn⟩
    ·rintro⟨x,hx,hn⟩
     rcases List.mem_append.1 hx with hx | hx
     ·exact⟨x,hx,hn⟩
     ·simp at hx;subst hx
      rw[hzn] at hn
      injection hn with hn
      rw[hn] at hc;cases hc
 ·intro u F1 hF1 hP
  obtain⟨hv,hin⟩:=hP
  rw[List.take_of_length_le zo] at hin
  refine zB6 ?_
  exact AW.ret ⟨_,[_],⟨_,_,rfl,rfl,rfl⟩,zsb,_,rfl,_,_,u.xs,rfl,hv,hin⟩
theorem cputS_spec(F:Frz)(g:Gram)(hg:∀r∈g.rules,r.right.length≤4)(hgl:g.rules.length≤32){Q:Nat→Item→Prop}(hQ:QInv g Q){q:ChP}{s:SSt}(h:SOk g Q q F s)(hk:s.k<20)(t:Nat)
  (hsc:∀x,Q s.k x→nextOf g.rules x=some ⟨true,t⟩→Q (s.k+1) (stepItem x)) :
  Abs.Spec CC 55 [.pointer (some ⟨q.ic,0,none⟩),.int .i64 t] F [shB g q s] fun F' v o=>
   ∃B',o=[B']∧∃s',B'=shB g q s'∧SOk g Q q F' s'∧s'.k=s.k+1∧∃last new,s.lists[s.k]?=some last∧s'.lists=s.lists++[new]∧(∀x∈last,nextOf g.rules x=some ⟨true,t⟩→stepItem x∈new)∧∀x∈new,ItemClosed g.rules (LZ s') s'.k x:=by
 have hll:=h.len
 obtain⟨last,hlast⟩:∃l,s.lists[s.k]?=some l:=⟨_,gE zo⟩
 obtain⟨xa,xn,xc,huk,hxa⟩:=h.olds _ _ hlast
 have hall:=h.all _ _ hlast
 have hxl:=hxa.len
 have hlen:=h.olen _ _ hlast
 have hul:=h.list.len
 have hvl:=h.sets.len
 have hsets:=h.sets
 have hlist:=h.list
 have holds:=h.olds
 have hallq:=h.all
 have holen:=h.olen
 have hnd:=h.nd
 have hrules:=h.rules
 clear h
 obtain⟨k,lists,sa,sc,BS,vs,la,lc,BL,us⟩:=s
 have hll:lists.length=k+1:=hll
 have hk:k<20:=hk
 have hlast:lists[k]?=some last:=hlast
 have huk:us[k]?=some (.slice xa xn xc):=huk
 have hul:k+1=us.length:=hul
 have hvl:k+1=vs.length:=hvl
 have hlist:GB tRaw F la (k+1) lc BL us:=hlist
 have hsets:GB tRaw F sa (k+1) sc BS vs:=hsets
 have hsc:∀x,Q k x→nextOf g.rules x=some ⟨true,t⟩→Q (k+1) (stepItem x):=hsc
 have holds:∀(j:Nat) (l:List Item),lists[j]?=some l→∃a n c,us[j]?=some (.slice a n c)∧Arr tItem F a n c l:=holds
 have hall:∀x∈last,Q k x:=hall
 rcases hlist.at_ with ⟨e0,_⟩ | ⟨il,cs,rst,e1,e2,e3,e4,_⟩
 ·rw[e0] at hul;simp at hul
 have e5:=cells_raw e4
 have e2:lc=1:=e2
 subst e1 e2 e5
 unfold shB shCells
 refine Abs.Spec.fn (n:=55) Tryd.func55 rfl rfl fun own=>?_
 refine AW.seq (AW.draw (ps:=[]) Z Z ?_)
 refine zB4 ?_
 refine WT.know (v':=.int .i64 (k:Nat)) 18 Z (by congr 1;simp) ?_
 refine WT.idxA (j:=k) (s:=1) hT Z Z Z Z Z Z Z Z Z (Nat.lt_succ_self _) ?_
 refine WT.loadAt hT 0 Z Z Z Z Z Z (show (il,Blk.cells false (cs++rst))∈_ by simp[e3]) Z Z (v:=.slice xa xn xc) (by rw[Nat.zero_add,Nat.mul_one,List.getElem?_append_left zo];exact huk) ?_
 refine zB4 ?_
 refine WT.call1F 0 Tryd.func75 Z Z Z Z Z Z Z (fun _=>rfl) (csetG_spec F (ic:=q.ic) hsets hlist zo ⟨rfl,rfl,rfl,rfl⟩) (fun F2 v B2 hF2 hv=>?_)
 obtain⟨sa',sc',la',lc',BS',BL',im,hs2,hl2,rfl⟩:=hv
 have hold2:=hxa.mono hF2
 have h0:COk g Q q F2 ⟨k+1,lists,[],sa',sc',BS',vs,la',lc',BL',cs,im,[],none,0,0,[]⟩:=
  ⟨hrules.mono hF2,hs2,hl2,hul.symm,hll,fun j l hj=>by obtain⟨a,n,c,h1,h2⟩:=holds j l hj;exact⟨a,n,c,h1,h2.mono hF2⟩,fun y=>by simp[Abs.look],Bld.nil_ _ _,List.nodup_nil,hallq,fun x h=>by simp at h,by dsimp only;omega,holen,hnd⟩
 refine zB4 ?_
 refine AW.range (S:=CSt) (fun _=>[]) (fun u=>cB g q u::own)
  (fun j u G=>COk g Q q G u∧Grows ⟨k+1,lists,[],sa',sc',BS',vs,la',lc',BL',cs,im,[],none,0,0,[]⟩ u (fun _=>True)∧∀y∈last.take j,nextOf g.rules y=some ⟨true,t⟩→stepItem y∈u.last) xn
  ⟨k+1,lists,[],sa',sc',BS',vs,la',lc',BL',cs,im,[],none,0,0,[]⟩
  Z Z Z Z Z Z Z Z Z zo rfl rfl (fun _=>rfl) (fun _=>rfl) sM oR ⟨h0,Grows.refl _ _,fun y hy=>by simp at hy⟩ ?_ ?_
 ·intro j u F4 hF4 hj hP4
  obtain⟨hu,hgu,hin⟩:=hP4
  have hku:u.k=k+1:=hgu.k
  have hya4:=hold2.mono hF4
  have hfew4:=hu.few hg hgl hQ
  refine zB6 ?_
  refine WT.idxL hT hya4 Z Z Z Z Z Z Z Z Z zo (fun y hyj b7 off7 ro7 cs7 lx7 hb7 hp7 hrel7=>?_)
  obtain rfl:lx7=_:=hrel7
  have hQy:=hall y (gM hyj)
  have hyok:=hQ.ok _ _ hQy
  have next:∀w:CSt,Grows u w (fun _=>True)→(nextOf g.rules y=some ⟨true,t⟩→stepItem y∈w.last)→∀z∈last.take (j+1),nextOf g.rules z=some ⟨true,t⟩→stepItem z∈w.last:=by
   intro w hw h1 z hz hn
   rw[List.take_add_one,hyj] at hz
   rcases List.mem_append.1 hz with hz | hz
   ·exact hw.mem (hin z hz hn)
   ·simp at hz;subst hz;exact h1 hn
  refine zB6 ?_
  refine WT.allocT hT Z Z Z Z Z Z (fun i9 hi9=>?_)
  refine zB6 ?_
  refine WT.callLend 1 Tryd.func78 Z Z Z Z Z Z Z (fun G hG hBG=>cnext_spec G g hg (hBG _ _ me) (hu.rules.mono hG) hyok) (fun v hv=>?_)
  rcases hv with ⟨hno2,_,rfl⟩ | ⟨z,hzn,rfl⟩
  ·refine zB6 ?_
   refine WT.allocT hT Z Z Z Z Z Z (fun i10 hi10=>?_)
   refine zB6 ?_
   refine AW.draw (ps:=[(2,4)]) Z Z ?_
   refine zB6 ?_
   refine⟨zrC,?_⟩
   skip
   refine AW.cond Z (fun h=>(by cases h)) (fun _=>?_)
   refine zB6 ?_
   exact⟨u,sM,zow,hu,hgu,next u (Grows.refl _ _) (fun h=>by rw[hno2] at h;cases h)⟩
  ·refine zB6 ?_
   refine WT.allocT hT Z Z Z Z Z Z (fun i10 hi10=>?_)
   refine zB6 ?_
   refine AW.draw (ps:=[(2,4)]) Z Z ?_
   refine zB6 ?_
   refine WT.callV Tryd.func79 Z Z Z Z Z Z (gT_spec _ _) (fun v hv=>?_)
   subst hv
   refine zB6 ?_
   refine⟨zrC,?_⟩
   skip
   refine AW.cond Z (fun hc=>?_) (fun hc=>?_)
   ·have hz:z=(⟨true,t⟩:Sym):=by
     have h1:=sym_eq z ⟨true,t⟩
     rw[show ((z.term==true)&&(((z.n:Int)==(t:Int))&&true))=true from hc] at h1
     exact of_decide_eq_true h1.symm
    have hyd:y.dot≤4:=by
     obtain⟨ry,hy1,hy2,_⟩:=hyok
     have:=hg ry (gM hy1)
     omega
    refine zB6 ?_
    refine WT.know (v':=.agg ⟨[.int .i64 (y.rule:Nat),.int .i64 ((y.dot+1:Nat):Int),.int .i64 (y.frm:Nat)]⟩) 50 Z (by simp) ?_
    refine WT.call1F 2 Tryd.func86 Z Z Z Z Z Z Z (fun _=>rfl) (cadd_spec _ g hu zo (stepItem y) (by rw[hku];exact hsc y hQy (by rw[hzn,hz]))) (fun F5 v B5 hF5 hv=>?_)
    obtain⟨w,rfl,hw,hgw,hmem⟩:=hv
    refine zB6 ?_
    have hgw':=hgw.mono (P':=fun _=>True) (fun _ _=>trivial)
    exact⟨w,sM,zow,hw,hgu.trans hgw',next w hgw' (fun _=>hmem)⟩
   ·have hz:z≠(⟨true,t⟩:Sym):=by
     have h1:=sym_eq z ⟨true,t⟩
     rw[show ((z.term==true)&&(((z.n:Int)==(t:Int))&&true))=false from hc] at h1
     exact of_decide_eq_false h1.symm
    refine zB6 ?_
    exact⟨u,sM,zow,hu,hgu,next u (Grows.refl _ _) (fun h=>by rw[hzn] at h;exact absurd (Option.some.inj h) hz)⟩
 ·intro u F4 hF4 hP4
  obtain⟨hu,hgu,hin⟩:=hP4
  rw[List.take_of_length_le zo] at hin
  refine zB6 ?_
  refine WT.call1F 0 Tryd.func77 Z Z Z Z Z Z Z (fun _=>rfl) (ccomplete_spec _ g hg hgl hQ hu) (fun F5 v B5 hF5 hv=>?_)
  obtain⟨w,rfl,hw,hgw,hcl⟩:=hv
  have hfw:=hw.few hg hgl hQ
  refine WT.le (own_rest _) ?_
  refine WT.freezeAll 1 Z Z (fun F6 hF6 hB6=>?_)
  have hrest:=hw.rest zo hF6 hB6
  refine WT.le (own2:=shB g q (restOf w)::own) (OwnLe.flat (List.Perm.of_eq (by simp))) ?_
  refine zB6 ?_
  have hwo:w.old=lists:=hgw.old.trans hgu.old
  have hwk:w.k=k+1:=hgw.k.trans hgu.k
  refine⟨_,[_],rfl,zsb,_,rfl,restOf w,rfl,hrest,hwk,last,w.last,hlast,?_,fun x hx hn=>hgw.mem (hin x hx hn),?_⟩
  ·show w.old++[w.last]=lists++[w.last]
   rw[hwo]
  ·rw[LZ_rest hw.oldl]
   exact hcl
end Go.Proofs.D