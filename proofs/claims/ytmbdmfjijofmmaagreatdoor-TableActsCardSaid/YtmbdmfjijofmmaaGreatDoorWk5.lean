/-
  Walks: what functions of the program do, over the abstract machine.
-/
import Derived.Test.YtmbdmfjijofmmaaGreatDoorWk4
set_option linter.unusedVariables false
set_option maxRecDepth 20000
set_option maxHeartbeats 0
open Go Go.Abs Go.Proofs Go.Proofs.D
set_option linter.unusedVariables false
set_option maxRecDepth 20000
set_option maxHeartbeats 0
open Go Go.Abs Go.Proofs Go.Proofs.D
namespace Go.Proofs.D
def tAct:Ty (Nat×Nat) where
 size:=2
 rel:=fun _ l x=>l=[.int .i64 x.1,.int .i64 x.2]
 len:=fun _ _ _ h=>by rw[h];rfl
 one:=fun _ _ _ h=>by rw[h];rfl
 mono:=fun _ _ _ _ _ h=>h
def actOne(g:Gram)(t:Nat)(lk:Look):Option (Nat×Nat):=if afterL g lk.item=none∧lk.set.testBit t=true then some (if lk.item.rule<g.rules.length then (2,lk.item.rule) else (3,0)) else none
def actPre(g:Gram)(row:List Int)(t:Nat):List (Nat×Nat):=if t<g.terms then (match row[t]? with | some j=>if 0≤j then [(1,j.toNat)] else [] | none=>[]) else []
theorem actsF_eq(g:Gram)(st:List Look)(row:List Int)(t:Nat):actsF g st row t=actPre g row t++st.filterMap (actOne g t):=rfl
theorem actPre_len{g:Gram}{row:List Int}{t:Nat}:(actPre g row t).length≤1:=by
 unfold actPre;by_cases h:t<g.terms
 ·rw[if_pos h];cases row[t]? with
  | none=>exact Nat.zero_le _
  | some j=>
   dsimp only;by_cases h2:0≤j
   ·rw[if_pos h2];exact Nat.le_refl _
   ·rw[if_neg h2];exact Nat.zero_le _
 ·rw[if_neg h];exact Nat.zero_le _
structure AcS where
 vs:List Value
 a:Option Addr
 m:Nat
 c:Nat
 B:List (Nat×Blk)
 l:List (Nat×Nat)
theorem fm_take{α β:Type}{f:α→Option β}{l:List α}{k:Nat}{x:α}(h:l[k]?=some x):(l.take (k+1)).filterMap f=(l.take k).filterMap f++(f x).toList:=by
 rw[List.take_add_one,h,List.filterMap_append];cases hf:f x<;>simp[hf]
theorem fm_len{α β:Type}(f:α→Option β)(l:List α)(k:Nat):((l.take k).filterMap f).length≤k:=Nat.le_trans (List.length_filterMap_le _ _) (by simp;omega)
theorem perm_tail3{α:Type}(B:List α)(x:α)(bs:List α)(own:List (List α)):(B::[x]::bs::own).flatten.Perm ([x]::(bs++B)::own).flatten:=by
 classical
 rw[List.perm_iff_count];intro y;simp only[List.flatten_cons,List.count_append];omega
theorem shE0{p:Prop} (h:p:=by
 intro k u F2 hF2 hk hP;obtain⟨hub,huv,hul⟩:=hP;have hst2:=hst1.mono hF2;have hr2:=(hr.mono hF1).mono hF2;have hubl:=hub.len;have hf1:=fm_len (actOne g t) st k;have hpre:(actPre g row t).length≤1:=by
  exact actPre_len
 have hull:u.l.length≤1+k:=by rw[hul,List.length_append];omega
 have hvs1:u.vs[0+t*1]?=some (.slice u.a u.m u.c):=by rw[huv,List.getElem?_set_self zo]
 have huvl:u.vs.length=g.terms+1:=by rw[huv,List.length_set];exact hvl
 refine zC8 ?_;refine WT.idxL hT hst2 Z Z Z Z Z Z Z Z Z zo (fun x hxk b5 off5 ro5 cs5 lx5 hb5 hp5 hrel5=>?_);obtain rfl:lx5=_:=hrel5;obtain⟨hxo,hxs⟩:=hok x (gM hxk);have hfm:=fm_take (f:=actOne g t) hxk;have hxr:=hxo.1;refine zC8 ?_;refine WT.allocT hT Z Z Z Z Z Z (fun i10 hi10=>?_);refine zC8 ?_;have haf:=lrAfter_spec F2 g hg4 hr2 zo x.item zo;unfold gramCells at haf;refine WT.callV Tryz.func150 Z Z Z Z Z Z haf (fun v hv=>?_);obtain⟨z,bo,rfl,hay,han⟩:=hv;obtain⟨zt,zn⟩:=z;refine zC8 ?_;refine WT.allocT hT Z Z Z Z Z Z (fun i11 hi11=>?_);refine zC8 ?_
 have skip:actOne g t x=none→u.l=actPre g row t++(st.take (k+1)).filterMap (actOne g t):=fun e=>by rw[hfm,e,hul];simp
 refine WT.split 61 Z (fun hbo=>?_) (fun hbo=>?_)
 ·refine zC8 ?_;refine AW.cond Z (fun _=>?_) (fun h=>(by cases h));refine AW.exit ?_;refine⟨u,sM,zow,hub,huv,skip ?_⟩;unfold actOne;rw[if_neg (by rw[hay hbo];simp)]
 ·have han:=han hbo;refine zC8 ?_;refine WT.shr32 (x:=x.set) (y:=t) Z Z Z Z Z Z zo ?_;refine WT.and32 (x:=x.set / 2 ^ t) (y:=1) Z Z Z Z Z Z (Nat.lt_of_le_of_lt (Nat.div_le_self _ _) zo) (by decide) ?_;rw[shift_bit];refine zC8 ?_;refine AW.cond Z (fun h=>?_) (fun h=>?_)
  ·have h:x.set.testBit t=false:=by
    cases hb:x.set.testBit t with
    | false=>rfl
    | true=>rw[hb] at h;simp at h
   refine AW.exit ?_;refine⟨u,sM,zow,hub,huv,skip ?_⟩;unfold actOne;rw[if_neg (by rw[h];simp)]
  ·have h:x.set.testBit t=true:=by
    cases hb:x.set.testBit t with
    | true=>rfl
    | false=>rw[hb] at h;simp at h
   refine zC8 ?_;refine AW.cond Z (fun h2=>?_) (fun h2=>?_)
   ·have h2:x.item.rule<g.rules.length:=by simp at h2;omega
    have hone:actOne g t x=some (2,x.item.rule):=by unfold actOne;rw[if_pos ⟨han,h⟩,if_pos h2]
    refine AW.draw (ps:=[(5,10)]) Z Z ?_;refine zC8 ?_;refine WT.idxA (j:=t) (s:=1) hT Z Z Z Z Z Z Z Z Z ht ?_;refine WT.loadAt hT 3 Z Z Z Z Z Z me Z Z hvs1 ?_;refine zC8 ?_;refine WT.buildT hT Z Z Z Z Z Z Z Z Z Z Z Z Z Z (fun i33 hi33=>?_);refine WT.appendT (R:=tAct) (ys:=[(2,x.item.rule)]) hT 3 hub Z (fun _=>rfl) Z Z Z Z Z Z Z Z Z Z Z (fun h0 s0=>news_own hT s0 0 Z Z Z Z) (Cells.single (R:=tAct) (x:=(2,x.item.rule)) rfl) Z (by decide) zom (fun a3 c3 B3 hB3=>?_);refine WT.idxA (j:=t) (s:=1) hT Z Z Z Z Z Z Z Z Z ht ?_;refine WT.storeAt hT 4 0 Z Z Z Z Z Z Z Z Z Z zo Z Z ?_;refine zC8 ?_
    refine⟨zrC,?_⟩;refine⟨⟨u.vs.set (0+t*1) (.slice a3 (u.m+1) c3),a3,u.m+1,c3,B3,u.l++[(2,x.item.rule)]⟩,sM,zow,hB3,?_,?_⟩
    ·dsimp only;rw[huv,List.set_set]
    ·dsimp only;rw[hul,hfm,List.append_assoc,hone];rfl
   ·have h2:x.item.rule=g.rules.length:=by simp at h2;omega
    have hone:actOne g t x=some (3,0):=by unfold actOne;rw[if_pos ⟨han,h⟩,if_neg zo]
    refine zC8 ?_;refine WT.idxA (j:=t) (s:=1) hT Z Z Z Z Z Z Z Z Z ht ?_;refine WT.loadAt hT 3 Z Z Z Z Z Z me Z Z hvs1 ?_;refine zC8 ?_;refine WT.buildT hT Z Z Z Z Z Z Z Z Z Z Z Z Z Z (fun i33 hi33=>?_);refine WT.appendT (R:=tAct) (ys:=[((3,0):Nat×Nat)]) hT 3 hub Z (fun _=>rfl) Z Z Z Z Z Z Z Z Z Z Z (fun h0 s0=>news_own hT s0 0 Z Z Z Z) (Cells.single (R:=tAct) (x:=((3,0):Nat×Nat)) rfl) Z (by decide) zom (fun a3 c3 B3 hB3=>?_);refine WT.idxA (j:=t) (s:=1) hT Z Z Z Z Z Z Z Z Z ht ?_;refine WT.storeAt hT 4 0 Z Z Z Z Z Z Z Z Z Z zo Z Z ?_;refine zC8 ?_
    refine⟨⟨u.vs.set (0+t*1) (.slice a3 (u.m+1) c3),a3,u.m+1,c3,B3,u.l++[((3,0):Nat×Nat)]⟩,sM,zow,hB3,?_,?_⟩
    ·dsimp only;rw[huv,List.set_set]
    ·dsimp only;rw[hul,hfm,List.append_assoc,hone];rfl):p:=h
theorem shE3{p:Prop} (h:p:=by
 intro u F2 hF2 hP;obtain⟨hub,huv,hul⟩:=hP;rw[List.take_of_length_le zo] at hul;have huvl:u.vs.length=g.terms+1:=by rw[huv,List.length_set];exact hvl
 rw[←actsF_eq] at hul;rw[hul] at hub;refine⟨⟨u.vs,bs++u.B⟩,sM,OwnLe.flat (perm_tail3 _ _ _ _),huvl,fun k hk=>?_,fun k h1 h2=>?_⟩
 ·rcases Nat.lt_or_ge k t with h6 | h6
  ·obtain⟨xa,xn,xc,e1,e2⟩:=hold k h6;exact⟨xa,xn,xc,by dsimp only;rw[huv,List.getElem?_set_ne zo];exact e1,fun H h1 h2=>e2 H (hF2.trans h1) fun i b hm=>h2 i b (List.mem_append_left _ hm)⟩
  ·obtain rfl:k=t:=by omega
   exact⟨_,_,_,by dsimp only;rw[huv,Nat.zero_add,Nat.mul_one,List.getElem?_set_self zo],fun H h1 h2=>hub.frozen h1 fun i b hm=>h2 i b (List.mem_append_right _ hm)⟩
 ·dsimp only;rw[huv,List.getElem?_set_ne zo];exact hrest k zo h2):p:=h
theorem shE11{p:Prop} (h:p:=by
 refine zC8 ?_;refine AW.range (S:=AcS) (fun _=>[]) (fun u=>u.B::[(io,.cells false u.vs)]::bs::[(i3,.cells false [.int .i64 g.terms,.int .i64 g.nons,.int .i64 g.start,.slice a m c])]::own)
  (fun k u G=>Bld tAct G u.a u.m u.c u.B u.l∧u.vs=vs.set (0+t*1) (.slice u.a u.m u.c)∧u.l=actPre g row t++(st.take k).filterMap (actOne g t)) n ⟨vs,none,0,0,[],[]⟩
  Z Z Z Z Z Z Z Z Z zo rfl rfl (fun _=>rfl) (fun _=>rfl) sM (OwnLe.flat (List.Perm.refl _)) ⟨Bld.nil_ _ _,hset0.symm,by rw[hpre0];rfl⟩ ?_ ?_
 ·exact shE0
 ·exact shE3):p:=h
theorem actions_spec(F:Frz)(g:Gram)(hg:Valid g){a:Option Addr}{m c:Nat}(hr:Arr tRule F a m c g.rules){b:Option Addr}{n d:Nat}{st:List Look}(hst:Arr tLook F b n d st)(hn:n≤1000)(hok:∀x∈st,OkLr g x.item∧x.set<2 ^ (g.terms+1))
  {rb:Option Addr} {rn rd:Nat} {row:List Int} (hrow:Arr tInt F rb rn rd row) (hrn:g.terms≤rn) :
  Abs.Spec CC 103 [.agg ⟨gramCells g a m c⟩,.slice b n d,.slice rb rn rd] F [] fun F' v o=>o=[]∧∃a' n' c',v=.slice a' n' c'∧Arr (tList tAct) F' a' n' c' ((List.range (g.terms+1)).map fun t=>actsF g st row t):=by
 have hgr:=hg.range.rules;have hgt:=hg.range.terms;have hrl:=hr.len;have hsl:=hst.len;have hrwl:=hrow.len;have hp:=pow_small hg.range.terms.2;have hg4:∀r∈g.rules,r.right.length≤100:=fun r h=>by have:=(hg.right r h).2.1;omega
 unfold gramCells;refine Abs.Spec.fn (n:=102) Tryz.func103 rfl rfl fun own=>?_;refine AW.seq (AW.reg ?_);refine WT.boxT Z Z Z Z Z Z (fun i3 hi3=>?_);refine zC8 ?_;refine WT.makeT (l:=g.terms+1) hT Z Z Z Z Z Z Z Z Z Z Z Z zom (fun io hio=>?_);rw[cap_eq,if_neg (show ¬g.terms+1=0 by omega)];refine zC8 ?_;refine AW.range (S:=P1S) (fun _=>[]) (fun s=>[(io,.cells false s.vs)]::s.bs::[(i3,.cells false [.int .i64 g.terms,.int .i64 g.nons,.int .i64 g.start,.slice a m c])]::own)
  (fun t s G=>s.vs.length=g.terms+1∧(∀k,k<t→∃xa xn xc,s.vs[k]?=some (.slice xa xn xc)∧∀H,Frz.le G H→(∀i b,(i,b)∈s.bs→H i=some b)→Arr tAct H xa xn xc (actsF g st row k))∧∀k,t≤k→k<g.terms+1→s.vs[k]?=some (.slice none 0 0)) (g.terms+1) ⟨List.replicate (g.terms+1) (.slice none 0 0),[]⟩
  Z Z Z Z Z Z Z Z Z zo rfl rfl (fun _=>rfl) (fun _=>rfl) sM (OwnLe.flat (List.Perm.refl _)) ⟨by simp,fun k hk=>absurd hk (Nat.not_lt_zero _),fun k _ hk=>by rw[List.getElem?_replicate,if_pos hk]⟩ ?_ ?_
 ·intro t s F1 hF1 ht hP;obtain⟨hvl,hold,hrest⟩:=hP;obtain⟨vs,bs⟩:=s;dsimp only at hvl hold hrest;have hst1:=hst.mono hF1;have hrow1:=hrow.mono hF1;have htn:=hrest t (Nat.le_refl _) ht;have hset0:vs.set (0+t*1) (.slice none 0 0)=vs:=by
   apply List.ext_getElem?;intro i;by_cases e:i=t
   ·subst e;rw[Nat.zero_add,Nat.mul_one,List.getElem?_set_self zo,htn]
   ·rw[Nat.zero_add,Nat.mul_one,List.getElem?_set_ne (fun e2=>e e2.symm)]
  refine zC8 ?_;refine WT.split 26 Z (fun htt=>?_) (fun htt=>?_)
  ·have htt:t<g.terms:=by simpa using htt
   obtain⟨j,hj⟩:∃j,row[t]?=some j:=⟨_,gE zo⟩;refine zC8 ?_;refine WT.idxL hT hrow1 Z Z Z Z Z Z Z Z Z zo (fun j2 hj2 b7 off7 ro7 cs7 lx7 hb7 hp7 hrel7=>?_);obtain rfl:lx7=_:=hrel7;rw[hj] at hj2;obtain rfl:=Option.some.inj hj2;refine zC8 ?_;refine AW.cond Z (fun h6=>?_) (fun h6=>?_)
   ·have h6:0≤j:=by simpa using h6
    have hpre0:actPre g row t=[(1,j.toNat)]:=by unfold actPre;rw[if_pos htt,hj];dsimp only;rw[if_pos h6]
    obtain⟨jn,rfl⟩:=Int.eq_ofNat_of_zero_le h6;refine AW.le (own2:=[]::[(io,.cells false vs)]::bs::[(i3,.cells false [.int .i64 g.terms,.int .i64 g.nons,.int .i64 g.start,.slice a m c])]::own) (OwnLe.flat (List.Perm.refl _)) ?_;refine AW.draw (ps:=[(5,11)]) Z Z ?_;refine zC8 ?_;refine WT.idxA (j:=t) (s:=1) hT Z Z Z Z Z Z Z Z Z ht ?_;refine WT.loadAt hT 1 Z Z Z Z Z Z me Z Z (v:=.slice none 0 0) (by rw[Nat.zero_add,Nat.mul_one];exact htn) ?_;refine zC8 ?_;refine WT.idxL hT hrow1 Z Z Z Z Z Z Z Z Z zo (fun j3 hj3 b8 off8 ro8 cs8 lx8 hb8 hp8 hrel8=>?_);obtain rfl:lx8=_:=hrel8;rw[hj] at hj3
    obtain rfl:=Option.some.inj hj3;refine zC8 ?_;refine WT.buildT hT Z Z Z Z Z Z Z Z Z Z Z Z Z Z (fun i33 hi33=>?_);refine WT.appendT (R:=tAct) (ys:=[(1,jn)]) hT 1 (Bld.nil_ tAct F1) Z (fun _=>rfl) Z Z Z Z Z Z Z Z Z Z Z (fun h0 s0=>news_own hT s0 0 Z Z Z Z) (Cells.single (R:=tAct) (x:=(1,jn)) rfl) Z (by decide) zom (fun a3 c3 B3 hB3=>?_);refine WT.idxA (j:=t) (s:=1) hT Z Z Z Z Z Z Z Z Z ht ?_;refine WT.storeAt hT 2 0 Z Z Z Z Z Z Z Z Z Z zo Z Z ?_;refine zC8 ?_;refine⟨zrC,?_⟩;refine zC8 ?_
    refine AW.range (S:=AcS) (fun _=>[]) (fun u=>u.B::[(io,.cells false u.vs)]::bs::[(i3,.cells false [.int .i64 g.terms,.int .i64 g.nons,.int .i64 g.start,.slice a m c])]::own)
     (fun k u G=>Bld tAct G u.a u.m u.c u.B u.l∧u.vs=vs.set (0+t*1) (.slice u.a u.m u.c)∧u.l=actPre g row t++(st.take k).filterMap (actOne g t)) n ⟨vs.set (0+t*1) (.slice a3 (0+1) c3),a3,0+1,c3,B3,[]++[(1,jn)]⟩
     Z Z Z Z Z Z Z Z Z zo rfl rfl (fun _=>rfl) (fun _=>rfl) sM (zow) ⟨hB3,rfl,by rw[hpre0];rfl⟩ ?_ ?_
    ·exact shE0
    ·exact shE3
   ·have h6:¬0≤j:=by simpa using h6
    have hpre0:actPre g row t=[]:=by unfold actPre;rw[if_pos htt,hj];dsimp only;rw[if_neg h6]
    exact shE11
  ·have htt:¬t<g.terms:=by simpa using htt
   have hpre0:actPre g row t=[]:=by unfold actPre;rw[if_neg htt]
   refine zC8 ?_;refine AW.cond Z (fun h=>(by cases h)) (fun _=>?_);exact shE11
 ·intro s F1 hF1 hP;obtain⟨hvl,hold,_⟩:=hP;obtain⟨vs,bs⟩:=s;dsimp only at hvl hold;refine AW.le (own2:=((io,.cells false vs)::bs)::[(i3,.cells false [.int .i64 g.terms,.int .i64 g.nons,.int .i64 g.start,.slice a m c])]::own) (OwnLe.flat (List.Perm.refl _)) ?_;refine AW.freezeAll 0 Z Z (fun F2 hF2 hB2=>?_);refine zC8 ?_;refine AW.ret ⟨_,[],⟨_,_,rfl,rfl,rfl⟩,zsb,rfl,_,_,_,rfl,?_⟩;refine⟨by simp,.inr rfl,fun h=>zo,fun h=>(by cases h),fun p hp=>(by cases hp;rfl),fun k x hk=>?_⟩;have hk1:k<g.terms+1:=by have:=(gS hk).1;simpa using this
  rw[List.getElem?_map,List.getElem?_range hk1] at hk;obtain rfl:=Option.some.inj hk;obtain⟨xa,xn,xc,e1,e2⟩:=hold k hk1;have hv:=gS e1;refine⟨io,0,false,vs,[.slice xa xn xc],rfl,hB2 io _ me,?_,_,_,_,rfl,e2 F2 hF2 fun i b hm=>hB2 i b (List.mem_cons_of_mem _ hm)⟩;refine partL_of ?_ rfl;show _=(vs.drop (0+k*1)).take 1;rw[Nat.zero_add,Nat.mul_one,List.drop_eq_getElem_cons hv.1,List.take_succ_cons,List.take_zero,hv.2]
end Go.Proofs.D
set_option linter.unusedVariables false
set_option maxRecDepth 20000
set_option maxHeartbeats 0
open Go Go.Abs Go.Proofs Go.Proofs.D
namespace Go.Abs
end Go.Abs
namespace Go.Proofs.D
theorem nameK_spec(F:Frz){b:Option Addr}{n d:Nat}{l:List Look}(hl:Arr tLook F b n d l)(hn:n≤1000){i6:Nat}{ro:Bool}{fk:Nat}{fnk:Func}(hgk:CC.func fk=some fnk)(hbk:fnk.body.isSome=true)(hi6:F i6=some (.cells ro [.func (.func fk) ⟨[]⟩ ⟨[]⟩]))
  (key:Look→List UInt8) (hlen:∀x∈l,(key x).length≤20) (hkey:∀x∈l,∀G,Frz.le F G→Abs.Spec CC fk [.agg ⟨[.int .i64 x.item.rule,.int .i64 x.item.dot,.int .u32 x.set]⟩] G [] fun _ v o=>o=[]∧v=.string (strB (key x))) :
  Abs.Spec CC 145 [.slice b n d,.pointer (some ⟨i6,0,none⟩)] F [] fun _ v o=>o=[]∧v=.string (strB (nameF key l)):=by
 have hll:=hl.len;have htot:∀j,(nameF key (l.take j)).length≤21*j:=by
  intro j
  induction j with
  | zero=>simp[nameF]
  | succ j ih=>
   rw[List.take_add_one];cases hx:l[j]? with
   | none=>simp;omega
   | some x=>
    rw[Option.toList_some,nameF_snoc,List.length_append,List.length_append,List.length_singleton];have:=hlen x (gM hx);omega
 refine Abs.Spec.fn (n:=21) Tryz.func145 rfl rfl fun own=>?_;refine zC4 ?_;refine AW.range (S:=List UInt8) (fun s=>[(4,.string (strB s))]) (fun _=>own) (fun j s G=>s=nameF key (l.take j)) n [] Z Z Z Z Z Z Z Z Z zo Z Z (fun _=>rfl) (fun _=>rfl) sM oR Z ?_ ?_
 ·intro j s F1 hF1 hj hP;have hl1:=hl.mono hF1;have hi1:=hF1 _ _ hi6;have ht:=htot j;refine zB4 ?_;refine WT.idxL hT hl1 Z Z Z Z Z Z Z Z Z zo (fun x hxj b1 off ro1 cs lx hb1 hp1 hrel=>?_);obtain rfl:lx=_:=hrel;have hxm:=gM hxj;have hxl:=hlen x hxm;refine zB4 ?_;refine WT.allocT hT Z Z Z Z Z Z (fun i9 hi9=>?_);refine zB4 ?_;refine WT.callC (first:=[]) (args:=[.agg ⟨[.int .i64 x.item.rule,.int .i64 x.item.dot,.int .u32 x.set]⟩]) (capt:=[]) hgk hbk Z Z Z Z Z Z Z (hkey x hxm F1 hF1) (fun v hv=>?_)
  exact shE9
 ·intro s F1 hF1 hP;rw[List.take_of_length_le zo] at hP;refine zB4 ?_;exact AW.ret ⟨_,[],⟨_,_,rfl,rfl,rfl⟩,zsb,rfl,by rw[hP];rfl⟩
structure NmOK where
 i:Nat
 sts:List (List Look)
 rows:List (List Int)
 sa:Option Addr
 sn:Nat
 sc:Nat
 SB:List (Nat×Blk)
 ta:Option Addr
 tn:Nat
 tc:Nat
 TB:List (Nat×Blk)
 es:Ents (List UInt8)
structure NmRK where
 sts:List (List Look)
 row:List Int
 sa:Option Addr
 sn:Nat
 sc:Nat
 SB:List (Nat×Blk)
 ra:Option Addr
 rn:Nat
 rc:Nat
 RB:List (Nat×Blk)
 es:Ents (List UInt8)
namespace NK
abbrev zzIK0:=NmOK
abbrev zzIK1:=NmRK
abbrev zzIK2:=Tryz.func96
abbrev zzIK3:=Tryz.func145
abbrev zzIK4:=@nameK_spec
abbrev zzIK5:=tLook
end NK
open NK in
theorem numberK_spec(F:Frz)(g:Gram)(hg:Valid g){ga:Option Addr}{gm gc:Nat}{b:Option Addr}{n d:Nat}{st0:List Look}(h0:Arr tLook F b n d st0)
  {fk fx:Nat} {fnk fnx:Func} {firstx captx:List Value} (hgk:CC.func fk=some fnk) (hbk:fnk.body.isSome=true) (hgx:CC.func fx=some fnx) (hbx:fnx.body.isSome=true)
  (key:Look→List UInt8) (nx:List Look→Sym→Option (List Look)) (P:List Look→Prop) (okx:Look→Prop)
  (hP0:P st0) (hPl:∀s,P s→s.length≤1000∧∀x∈s,okx x) (hinj:∀s s',P s→P s'→nameF key s=nameF key s'→s=s') (hnP:∀s y s',P s→nx s y=some s'→P s')
  (hlen:∀x,okx x→(key x).length≤20) (hkey:∀x,okx x→∀G,Frz.le F G→Abs.Spec CC fk [.agg ⟨[.int .i64 x.item.rule,.int .i64 x.item.dot,.int .u32 x.set]⟩] G [] fun _ v o=>o=[]∧v=.string (strB (key x)))
  (hnext:∀G,Frz.le F G→∀(a:Option Addr) (m c:Nat) (s:List Look) (y:Sym),P s→Arr tLook G a m c s→SymOk g.terms g.nons y→
   Abs.Spec CC fx (firstx++[.slice a m c,.agg ⟨[.bool y.term,.int .i64 y.n]⟩]++captx) G [] fun G' v o=>o=[]∧∃a' n' c' z s',v=.tuple ⟨[.slice a' n' c',.bool z]⟩∧Arr tLook G' a' n' c' s'∧nx s y=if z=true then some s' else none) :
  Abs.Spec CC 96 [.agg ⟨gramCells g ga gm gc⟩,.slice b n d,.func (.func fk) ⟨[]⟩ ⟨[]⟩,.func (.func fx) ⟨firstx⟩ ⟨captx⟩] F [] fun F' v o=>o=[]∧
   ((numF 400 (fun s=>(symsL g).map (nx s)) 401 0 [st0] []=none∧v=.tuple ⟨[.slice none 0 0,.slice none 0 0,.bool false]⟩)∨
    ∃S rows a1 n1 c1 a2 n2 c2,numF 400 (fun s=>(symsL g).map (nx s)) 401 0 [st0] []=some (S,rows)∧v=.tuple ⟨[.slice a1 n1 c1,.slice a2 n2 c2,.bool true]⟩∧Arr (tList tLook) F' a1 n1 c1 S∧Arr (tList tInt) F' a2 n2 c2 rows):=shIKnumber_spec
theorem intClone_spec(F:Frz){a:Option Addr}{m c:Nat}{xs:List Int}(hx:Arr tInt F a m c xs)(hm:m≤1000000) :
  Abs.Spec CC 87 [.slice a m c] F [] fun F' v o=>∃B',o=[B']∧∃a' c',v=.slice a' m c'∧Vec tInt F' a' m c' B' xs:=by
 refine Abs.Spec.fn (n:=8) Tryz.func87 rfl rfl fun own=>?_;refine zB4 ?_;refine WT.sliceNil hT Z Z Z Z Z Z Z Z ?_;refine zB4 ?_;refine AW.cond Z (fun h=>?_) (fun h=>?_)
 ·exact shE10
 ·refine zB4 ?_;refine WT.buildT hT Z Z Z Z Z Z Z Z Z Z Z Z Z Z (fun i5 hi5=>?_);refine zB4 ?_;obtain⟨ds,hds,hcs⟩:=news_arr hT hx (t:=22) rfl rfl 3;refine WT.appendE hT Z Z Z Z Z Z Z Z Z Z Z Z (fun h0 s0=>hds _ h0 s0) hcs hx.len (by decide) zom (fun a' c' B' hB' _=>?_);refine zB4 ?_;refine AW.le (OwnLe.cons _ (OwnLe.skip _ oR)) ?_;exact AW.ret ⟨_,[_],⟨_,_,rfl,rfl,rfl⟩,zsb,_,rfl,_,_,rfl,hB'⟩
def PK(g:Gram)(st:List Look):Prop:=st.length≤1000∧∀x∈st,OkLr g x.item∧x.set<2 ^ (g.terms+1)
theorem closeK_PK{g:Gram}(hg:Valid g)(l:List Look):PK g (closeK g l):=by
 refine⟨?_,fun x hx=>⟨?_,closeK_small x hx⟩⟩
 ·have:=(closL_PI hg (itemsK l)).1;rw[←closeK_items] at this;unfold itemsK at this
  rwa [List.length_map] at this
 ·have:x.item∈itemsK (closeK g l):=List.mem_map.2 ⟨x,hx,rfl⟩;rw[closeK_items] at this;exact closL_ok _ this
theorem nextK_PK{g:Gram}(hg:Valid g){s:List Look}{y:Sym}{s':List Look}(h:nextK g s y=some s'):PK g s':=by
 unfold nextK at h;split at h
 ·cases h
 ·obtain rfl:=Option.some.inj h;exact closeK_PK hg _
theorem autoI_PI{g:Gram}(hg:Valid g){I:List (List Lr)}{rows:List (List Int)}(h:autoI g=some (I,rows)):∀st∈I,PI g st:=fun st hst=>by
 obtain⟨k,hk⟩:=List.getElem?_of_mem hst
 exact(autoI_ok h).2.all (P:=PI g) (closL_PI hg _) (fun st s _ hs=>by
  obtain⟨y,_,hy⟩:=List.mem_map.1 hs;split at hy
  ·cases hy
  ·obtain rfl:=Option.some.inj hy;exact closL_PI hg _) k st hk
theorem statesF_PK{g:Gram}(hg:Valid g){method:Nat}{S:List (List Look)}{rows:List (List Int)}(h:statesF g method=some (S,rows)):∀st∈S,PK g st:=by
 intro st hst;obtain⟨k,hk⟩:=List.getElem?_of_mem hst;unfold statesF at h;split at h
 ·exact(autoK_ok h).2.all (P:=PK g) (closeK_PK hg _) (fun st s _ hs=>by
   obtain⟨y,_,hy⟩:=List.mem_map.1 hs;exact nextK_PK hg (s:=st) (y:=y) hy) k st hk
 ·cases hA:autoI g with
  | none=>rw[hA] at h;cases h
  | some a=>
   obtain⟨I,rows0⟩:=a;rw[hA] at h;have e:=Option.some.inj h;simp only[Prod.mk.injEq] at e;obtain⟨rfl,rfl⟩:=e;rw[lookS_at] at hk;cases hI:I[k]? with
   | none=>rw[hI] at hk;cases hk
   | some st0=>
    rw[hI] at hk;obtain rfl:=Option.some.inj hk;obtain⟨h1,h2⟩:=autoI_PI hg hA st0 (gM hI);refine⟨by simpa using h1,fun x hx=>?_⟩;obtain⟨z,hz,rfl⟩:=List.mem_map.1 hx;exact⟨h2 z hz,maskOf_lt _ _⟩
structure AlS where
 a:Option Addr
 m:Nat
 c:Nat
 B:List (Nat×Blk)
 a2:Option Addr
 m2:Nat
 c2:Nat
 B2:List (Nat×Blk)
theorem autoK_few{g:Gram}{method:Nat}{S:List (List Look)}{rows:List (List Int)}(h:statesF g method=some (S,rows)):S.length≤400:=by
 unfold statesF at h;split at h
 ·exact(autoK_ok h).2.few
 ·cases hA:autoI g with
  | none=>rw[hA] at h;cases h
  | some a=>
   obtain⟨I,rows0⟩:=a;rw[hA] at h;have e:=Option.some.inj h;simp only[Prod.mk.injEq] at e;obtain⟨rfl,rfl⟩:=e;have:=(autoI_ok hA).2.few;have e2:=congrArg List.length (lookS_items (g:=g) (I:=I) (la:=if method=1 then fun _=>FolA g else LalA g I rows0));rw[List.length_map] at e2;rw[e2];exact this
theorem shE1{p:Prop} (h:p:=by
 intro j s F8 hF8 hj hP;obtain⟨hb,hb2⟩:=hP;have hS8:=hS.mono hF8;have hRw8:=hRw.mono hF8;have hr8:=hrG.mono hF8;have hi8:=hF8 _ _ hiG;have hal:(allF g S rows).length=S.length:=by unfold allF;simp
 have hbl:=hb.len;have hbl2:=hb2.len;rw[List.length_take] at hbl;rw[List.length_take,List.length_map] at hbl2;refine zC4 ?_;refine WT.idxL hT hS8 Z Z Z Z Z Z Z Z Z zo (fun st hsj b1 off1 ro1 cs1 lx1 hb1 hp1 hrel1=>?_);obtain⟨sa,sn,sc,rfl,hsta⟩:=hrel1;have hsl:=hsta.len;obtain⟨hP1,hP2⟩:=hSP st (gM hsj);refine zC4 ?_;refine AW.draw (ps:=[(14,7),(14,8),(14,9),(16,7),(16,8),(16,9),(17,7),(17,8),(17,9)]) Z Z ?_;refine zC4 ?_;refine WT.idxL hT hRw8 Z Z Z Z Z Z Z Z Z zo (fun row hrj b3 off3 ro3 cs3 lx3 hb3 hp3 hrel3=>?_);obtain⟨ra,rn,rc,rfl,hrow⟩:=hrel3;have hrowl:=hrow.len
 have hrow2:row.length=g.terms+g.nons:=hAC.row j (itemsK st) row (by rw[List.getElem?_map,hsj];rfl) hrj;refine zC4 ?_;have hac:=actions_spec F8 g hg hr8 hsta zo hP2 hrow zo;unfold gramCells at hac;refine WT.callF0 Tryz.func103 Z Z Z Z Z Z hac (fun F9 v hF9 hv=>?_);obtain⟨xa,xn,xc,rfl,hx⟩:=hv;have hall:(allF g S rows).take (j+1)=(allF g S rows).take j++[(List.range (g.terms+1)).map fun t=>actsF g st row t]:=by
  have e:(allF g S rows)[j]?=some ((List.range (g.terms+1)).map fun t=>actsF g st row t):=by
   unfold allF;rw[map_at (List.getElem?_range (show j<S.length by omega)),getD_some hsj,getD_some hrj]
  rw[List.take_add_one,e];rfl
 have hrw:(rows.map (·.drop g.terms)).take (j+1)=(rows.map (·.drop g.terms)).take j++[row.drop g.terms]:=by
  rw[List.take_add_one,map_at hrj];rfl
 refine WT.buildT hT Z Z Z Z Z Z Z Z Z Z Z Z Z Z (fun i33 hi33=>?_);refine WT.appendT (R:=tList (tList tAct)) (ys:=[(List.range (g.terms+1)).map fun t=>actsF g st row t]) hT 1 (hb.mono hF9) Z (fun _=>rfl) Z Z Z Z Z Z Z Z Z Z Z (fun h0 s0=>news_own hT s0 0 Z Z Z Z) (Cells.single (R:=tList (tList tAct)) (x:=(List.range (g.terms+1)).map fun t=>actsF g st row t) ⟨_,_,_,rfl,hx⟩) Z (by decide) zom (fun a3 c3 B3 hB3=>?_);refine zC4 ?_;obtain⟨b4,off4,ro4,cs4,lx4,hba,hb4,hp4,hrel4⟩:=hRw8.el j row hrj;obtain⟨ra',rn',rc',rfl,hrow'⟩:=hrel4;have hrow':=hrow'.mono hF9;have hb49:=hF9 _ _ hb4;subst hba
 refine WT.idxA (j:=j) (s:=1) hT Z Z Z Z Z Z Z Z Z zo ?_;have hrowl':=hrow'.len;have hi9:=hF9 _ _ hi8;refine zC4 ?_;obtain⟨qa,qc,hrs2,hqa⟩:=hrow'.slice (C:=CC) (lo:=g.terms) (hi:=rn') zo (Nat.le_refl _) hT (t:=22) Z Z Z (some (.int .i64 ((g.terms:Nat):Int))) none (by simp[boundA]) rfl;refine WT.slice Z Z Z Z Z Z Z Z hrs2 ?_;rw[List.take_of_length_le zo] at hqa;refine WT.callN Tryz.func87 Z Z Z Z Z Z (intClone_spec F9 hqa zo) (fun F10 v B10 hF10 hv=>?_);obtain⟨ca,cc,rfl,hv⟩:=hv;refine WT.freezeAll 0 Z Z (fun F11 hF11 hB11=>?_);have hcl:=hv.arr hF11 hB11;have hrl2:rows.length≤400:=by omega
 refine WT.buildT hT Z Z Z Z Z Z Z Z Z Z Z Z Z Z (fun i34 hi34=>?_);refine WT.appendT (R:=tList tInt) (ys:=[row.drop g.terms]) hT 4 (((hb2.mono hF9).mono hF10).mono hF11) Z (fun _=>rfl) Z Z Z Z Z Z Z Z Z Z Z (fun h0 s0=>news_own hT s0 0 Z Z Z Z) (Cells.single (R:=tList tInt) (x:=row.drop g.terms) ⟨_,_,_,rfl,hcl⟩) Z (by decide) zom (fun a5 c5 B5 hB5=>?_);refine zC4 ?_;refine⟨zrC,?_⟩;refine⟨⟨a3,s.m+1,c3,B3,a5,s.m2+1,c5,B5⟩,sM,zow,?_,?_⟩
 ·dsimp only;rw[hall];exact(hB3.mono hF10).mono hF11
 ·dsimp only;rw[hrw];exact hB5):p:=h
theorem shE4{p:Prop} (h:p:=by
 have hSR:=statesF_ok hg hst;have hSP:=statesF_PK hg hst;have hSf:=autoK_few hst;have hAC:=hSR.1;have hRl:=hRw.len;have hSl:=hS.len;have hrs:rows.length=S.length:=by have:=hAC.len;rwa [List.length_map] at this
 refine zC4 ?_;refine AW.range (S:=AlS) (fun s=>[(14,.slice s.a s.m s.c),(15,.slice s.a2 s.m2 s.c2)]) (fun s=>s.B::s.B2::[(i12,.cells false [.slice b1 m1 d1,.slice b2 m2 d2])]::[]::own) (fun j s G=>Bld (tList (tList tAct)) G s.a s.m s.c s.B ((allF g S rows).take j)∧Bld (tList tInt) G s.a2 s.m2 s.c2 s.B2 ((rows.map (·.drop g.terms)).take j)) n1 ⟨none,0,0,[],none,0,0,[]⟩
  Z Z Z Z Z Z Z Z Z zo rfl rfl (fun _=>rfl) (fun _=>rfl) sM (OwnLe.flat (List.Perm.refl _)) ⟨Bld.nil_ _ _,Bld.nil_ _ _⟩ ?_ ?_
 ·exact shE1
 ·intro s F8 hF8 hP;obtain⟨hb,hb2⟩:=hP;have hal:(allF g S rows).length=S.length:=by unfold allF;simp
  rw[List.take_of_length_le zo] at hb;rw[List.take_of_length_le (by rw[List.length_map];omega)] at hb2;refine AW.freezeAll 0 Z Z (fun F9 hF9 hB9=>?_);have h1:=hb.frozen hF9 hB9;refine AW.freezeAll 1 Z Z (fun F10 hF10 hB10=>?_);have h2:=(hb2.mono hF9).frozen hF10 hB10;refine zC4 ?_;exact AW.ret ⟨_,[],⟨_,_,rfl,⟨_,_,rfl,⟨_,_,rfl,rfl,rfl⟩,rfl⟩,rfl⟩,zsb,rfl,.inr ⟨S,rows,_,_,_,_,_,_,hst,rfl,h1.mono hF10,h2⟩⟩):p:=h
theorem all_spec(F:Frz)(g:Gram)(hg:Valid g)(ht5:g.terms≤5)(method:Nat)(hm:method=1∨method=2∨method=3){a:Option Addr}{m c:Nat}(hr:Arr tRule F a m c g.rules) :
  Abs.Spec CC 45 [.agg ⟨gramCells g a m c⟩,.int .i64 method] F [] fun F' v o=>o=[]∧((statesF g method=none∧v=.tuple ⟨[.slice none 0 0,.slice none 0 0,.int .i64 2]⟩)∨
   ∃S rows a1 n1 c1 a2 n2 c2,statesF g method=some (S,rows)∧v=.tuple ⟨[.slice a1 n1 c1,.slice a2 n2 c2,.int .i64 0]⟩∧Arr (tList (tList tAct)) F' a1 n1 c1 (allF g S rows)∧Arr (tList tInt) F' a2 n2 c2 (rows.map (·.drop g.terms))):=by
 have hgr:=hg.range.rules;have hgt:=hg.range.terms;have hgn:=hg.range.nons;have hrl:=hr.len;have hp:=pow_small hg.range.terms.2;have hp6:2 ^ (g.terms+1)≤64:=Nat.le_trans (Nat.pow_le_pow_right (by decide) (show g.terms+1≤6 by omega)) (by decide);have okK:∀{x:Look},(OkLr g x.item∧x.set<2 ^ (g.terms+1))→(x.item.rule<100∧x.item.dot<100)∧x.set<100:=fun h=>⟨okI hg h.1,by omega⟩;refine Abs.Spec.fn (n:=98) Tryz.func45 rfl rfl fun own=>?_;refine AW.seq (AW.reg ?_);refine WT.boxT Z Z Z Z Z Z (fun i2 hi2=>?_);refine WT.freezeAll 0 Z Z (fun F0 hF0 hB0=>?_);have hi2:=hB0 i2 _ me;have hr:=hr.mono hF0
 unfold gramCells at hi2 ⊢;refine zC4 ?_;have hck:=check_spec F0 g hg.range hr;unfold gramCells at hck;refine WT.callV Tryz.func85 Z Z Z Z Z Z hck (fun v hv=>?_);rw[hg.no_err] at hv;subst hv;refine zC4 ?_;refine AW.cond Z (fun h=>(by cases h)) (fun _=>?_);rcases hm with rfl | rfl | rfl
 ·refine zC4 ?_;refine AW.cond Z (fun h=>(by cases h)) (fun _=>?_);refine zC4 ?_;have hmk:=newMaker_spec F0 g hg hr;unfold gramCells at hmk;refine WT.callF0 Tryz.func95 Z Z Z Z Z Z hmk (fun F1 v hF1 hv=>?_);obtain⟨im,E,Fi,is,eb,ee,rfl,hM⟩:=hv;have hr1:=hr.mono hF1;have hi21:=hF1 _ _ hi2;refine zC4 ?_;refine AW.cond Z (fun h=>(by cases h)) (fun _=>?_);refine zC4 ?_;have hof:=itemsOf2_spec F1 g hg hr1;unfold gramCells at hof;refine WT.callF0 Tryz.func100 Z Z Z Z Z Z hof (fun F2 v hF2 hv=>?_);have hM2:=hM.mono hF2;rcases hv with ⟨hA,rfl⟩ | ⟨I,rows,b1,m1,d1,b2,m2,d2,hA,rfl,hI,hRw⟩
  ·have hst:statesF g 1=none:=by unfold statesF;rw[if_neg (by decide),hA];rfl
   refine zC4 ?_;refine WT.allocT hT Z Z Z Z Z Z (fun i12 hi12=>?_);refine zC4 ?_;refine AW.cond Z (fun _=>?_) (fun h=>(by cases h));refine zC4 ?_;exact AW.ret ⟨_,[],⟨_,_,rfl,⟨_,_,rfl,⟨_,_,rfl,rfl,rfl⟩,rfl⟩,rfl⟩,zsb,rfl,.inl ⟨hst,rfl⟩⟩
  ·refine zC4 ?_;refine WT.allocT hT Z Z Z Z Z Z (fun i12 hi12=>?_);refine zC4 ?_;refine AW.cond Z (fun h=>(by cases h)) (fun _=>?_);refine zC4 ?_;have hIf:=(autoI_ok hA).2.few;have hIl:=hI.len;refine WT.callF0 Tryz.func101 Z Z Z Z Z Z (slr_spec F2 g hg hM2 (a2:=b2) (n2:=m2) (c2:=d2) hI zo (autoI_PI hg hA)) (fun F3 v hF3 hv=>?_);obtain⟨a1,n1,c1,rfl,hS⟩:=hv;refine zC4 ?_;refine AW.cond Z (fun h=>(by cases h)) (fun _=>?_);have hst:statesF g 1=some (lookS g I (fun _=>FolA g),rows):=by unfold statesF;rw[if_neg (by decide),hA];rfl
   generalize lookS g I (fun _=>FolA g)=S at hS hst;have hRw:=hRw.mono hF3;have hrG:=(hr1.mono hF2).mono hF3;have hiG:=hF3 _ _ (hF2 _ _ hi21);exact shE4
 ·refine zC4 ?_;refine AW.cond Z (fun h=>(by cases h)) (fun _=>?_);refine zC4 ?_;have hmk:=newMaker_spec F0 g hg hr;unfold gramCells at hmk;refine WT.callF0 Tryz.func95 Z Z Z Z Z Z hmk (fun F1 v hF1 hv=>?_);obtain⟨im,E,Fi,is,eb,ee,rfl,hM⟩:=hv;have hr1:=hr.mono hF1;have hi21:=hF1 _ _ hi2;refine zC4 ?_;refine AW.cond Z (fun h=>(by cases h)) (fun _=>?_);refine zC4 ?_;have hof:=itemsOf2_spec F1 g hg hr1;unfold gramCells at hof;refine WT.callF0 Tryz.func100 Z Z Z Z Z Z hof (fun F2 v hF2 hv=>?_);have hM2:=hM.mono hF2;rcases hv with ⟨hA,rfl⟩ | ⟨I,rows,b1,m1,d1,b2,m2,d2,hA,rfl,hI,hRw⟩
  ·have hst:statesF g 2=none:=by unfold statesF;rw[if_neg (by decide),hA];rfl
   refine zC4 ?_;refine WT.allocT hT Z Z Z Z Z Z (fun i12 hi12=>?_);refine zC4 ?_;refine AW.cond Z (fun _=>?_) (fun h=>(by cases h));refine zC4 ?_;exact AW.ret ⟨_,[],⟨_,_,rfl,⟨_,_,rfl,⟨_,_,rfl,rfl,rfl⟩,rfl⟩,rfl⟩,zsb,rfl,.inl ⟨hst,rfl⟩⟩
  ·refine zC4 ?_;refine WT.allocT hT Z Z Z Z Z Z (fun i12 hi12=>?_);refine zC4 ?_;refine AW.cond Z (fun h=>(by cases h)) (fun _=>?_);refine zC4 ?_;have hIf:=(autoI_ok hA).2.few;have hIl:=hI.len;refine WT.callF0 Tryz.func101 Z Z Z Z Z Z (slr_spec F2 g hg hM2 (a2:=b2) (n2:=m2) (c2:=d2) hI zo (autoI_PI hg hA)) (fun F3 v hF3 hv=>?_);obtain⟨a1,n1,c1,rfl,hS⟩:=hv;refine zC4 ?_;refine AW.cond Z (fun _=>?_) (fun h=>(by cases h));refine zC4 ?_;refine WT.callF0 Tryz.func102 Z Z Z Z Z Z (lalr_spec F3 g hg (hM2.mono hF3) hA (hI.mono hF3) (hRw.mono hF3)) (fun F4 v hF4 hv=>?_);clear hS
   obtain⟨a1,n1,c1,rfl,hS⟩:=hv;have hst:statesF g 2=some (lookS g I (LalA g I rows),rows):=by unfold statesF;rw[if_neg (by decide),hA];rfl
   generalize lookS g I (LalA g I rows)=S at hS hst;have hRw:=(hRw.mono hF3).mono hF4;have hrG:=((hr1.mono hF2).mono hF3).mono hF4;have hiG:=hF4 _ _ (hF3 _ _ (hF2 _ _ hi21));exact shE4
 ·refine zC4 ?_;refine AW.cond Z (fun h=>(by cases h)) (fun _=>?_);refine zC4 ?_;have hmk:=newMaker_spec F0 g hg hr;unfold gramCells at hmk;refine WT.callF0 Tryz.func95 Z Z Z Z Z Z hmk (fun F1 v hF1 hv=>?_);obtain⟨im,E,Fi,is,eb,ee,rfl,hM⟩:=hv;have hr1:=hr.mono hF1;have hi21:=hF1 _ _ hi2;refine zC4 ?_;refine AW.cond Z (fun _=>?_) (fun h=>(by cases h));refine zC4 ?_;refine AW.draw (ps:=[(0,2)]) Z Z ?_;refine zC4 ?_;refine WT.callF0 Tryz.func97 Z Z Z Z Z Z (startK_spec F1 g hg hM) (fun F2 v hF2 hv=>?_);obtain⟨fa,fn,fc,rfl,hfk⟩:=hv;have hM2:=hM.mono hF2;refine zC4 ?_
  have hnm:=numberK_spec F2 g hg (ga:=a) (gm:=m) (gc:=c) hfk (fk:=98) (fx:=99) (firstx:=[.pointer (some ⟨im,0,none⟩)]) (captx:=[]) Tryz.func98 rfl Tryz.func99 rfl
   keyLk (nextK g) (PK g) (fun x=>(x.item.rule<100∧x.item.dot<100)∧x.set<100) (closeK_PK hg _) (fun s hs=>⟨hs.1,fun x hx=>okK (hs.2 x hx)⟩)
   (fun s s' hs hs' e=>nameK_inj (fun x hx=>okK (hs.2 x hx)) (fun x hx=>okK (hs'.2 x hx)) e)
   (fun s y s' _ e=>nextK_PK hg e)
   (fun x _=>by have:=keyLk_len x;omega) (fun x hx G _=>keyLk_spec G x hx.1 hx.2)
   (fun G hG a' m' c' s y hs hA hy=>after_spec G g hg (hM2.mono hG) hA (hA.len▸hs.1) hs.2 y)
  unfold gramCells at hnm;refine WT.callF0 Tryz.func96 Z Z Z Z Z Z hnm (fun F3 v hF3 hv=>?_);rcases hv with ⟨hno,rfl⟩ | ⟨S,rows,a1,n1,c1,b2,m2,d2,hyes,rfl,hS,hRw⟩
  ·have hst:statesF g 3=none:=hno;refine zC4 ?_;refine⟨zrC,?_⟩;refine zC4 ?_;refine AW.cond Z (fun _=>?_) (fun h=>(by cases h));refine zC4 ?_;exact AW.ret ⟨_,[],⟨_,_,rfl,⟨_,_,rfl,⟨_,_,rfl,rfl,rfl⟩,rfl⟩,rfl⟩,zsb,rfl,.inl ⟨hst,rfl⟩⟩
  ·have hst:statesF g 3=some (S,rows):=hyes;refine zC4 ?_;refine⟨zrC,?_⟩;refine zC4 ?_;refine AW.cond Z (fun h=>(by cases h)) (fun _=>?_);have hrG:=(hr1.mono hF2).mono hF3;have hiG:=hF3 _ _ (hF2 _ _ hi21);have hSR:=statesF_ok hg hst;have hSP:=statesF_PK hg hst;have hSf:=autoK_few hst;have hAC:=hSR.1;have hRl:=hRw.len;have hSl:=hS.len;have hrs:rows.length=S.length:=by have:=hAC.len;rwa [List.length_map] at this
   refine zC4 ?_;refine AW.range (S:=AlS) (fun s=>[(14,.slice s.a s.m s.c),(15,.slice s.a2 s.m2 s.c2)]) (fun s=>s.B::s.B2::[]::own) (fun j s G=>Bld (tList (tList tAct)) G s.a s.m s.c s.B ((allF g S rows).take j)∧Bld (tList tInt) G s.a2 s.m2 s.c2 s.B2 ((rows.map (·.drop g.terms)).take j)) n1 ⟨none,0,0,[],none,0,0,[]⟩
    Z Z Z Z Z Z Z Z Z zo rfl rfl (fun _=>rfl) (fun _=>rfl) sM (OwnLe.flat (List.Perm.refl _)) ⟨Bld.nil_ _ _,Bld.nil_ _ _⟩ ?_ ?_
   ·exact shE1
   ·intro s F8 hF8 hP;obtain⟨hb,hb2⟩:=hP;have hal:(allF g S rows).length=S.length:=by unfold allF;simp
    rw[List.take_of_length_le zo] at hb;rw[List.take_of_length_le (by rw[List.length_map];omega)] at hb2;refine AW.freezeAll 0 Z Z (fun F9 hF9 hB9=>?_);have h1:=hb.frozen hF9 hB9;refine AW.freezeAll 1 Z Z (fun F10 hF10 hB10=>?_);have h2:=(hb2.mono hF9).frozen hF10 hB10;refine zC4 ?_;exact AW.ret ⟨_,[],⟨_,_,rfl,⟨_,_,rfl,⟨_,_,rfl,rfl,rfl⟩,rfl⟩,rfl⟩,zsb,rfl,.inr ⟨S,rows,_,_,_,_,_,_,hst,rfl,h1.mono hF10,h2⟩⟩
def tConf:Ty (Nat×Nat×List (Nat×Nat)) where
 size:=3
 rel:=fun F l x=>∃a n c,l=[.int .i64 x.1,.int .i64 x.2.1,.slice a n c]∧Arr tAct F a n c x.2.2
 len:=fun _ _ _ h=>by obtain⟨a,n,c,rfl,_⟩:=h;rfl
 one:=fun _ _ _ h=>by obtain⟨a,n,c,rfl,_⟩:=h;rfl
 mono:=fun _ _ _ _ hF h=>by obtain⟨a,n,c,e,h⟩:=h;exact⟨a,n,c,e,h.mono hF⟩
def headA(l:List (Nat×Nat)):Nat×Nat:=l.head?.getD (0,0)
def confsTo(all:List (List (List (Nat×Nat))))(j:Nat):List (Nat×Nat×List (Nat×Nat)):=((List.range j).map fun s=>confRow s (all.getD s []) (all.getD s []).length).flatten
theorem confRow_succ(s:Nat)(row:List (List (Nat×Nat)))(k:Nat):confRow s row (k+1)=confRow s row k++(if 1<(row.getD k []).length then [(s,k,row.getD k [])] else []):=by
 unfold confRow;rw[List.range_succ,List.filterMap_append];congr 1;rw[List.filterMap_cons];split
 ·rename_i h;split at h
  ·cases h
  ·rw[if_neg (by assumption)];rfl
 ·rename_i b h;split at h
  ·obtain rfl:=Option.some.inj h;rw[if_pos (by assumption)];rfl
  ·cases h
theorem confRow_few(s:Nat)(row:List (List (Nat×Nat)))(k:Nat):(confRow s row k).length≤k:=by
 unfold confRow;exact Nat.le_trans (List.length_filterMap_le _ _) (by rw[List.length_range];exact Nat.le_refl _)
theorem confsTo_succ(all:List (List (List (Nat×Nat))))(j:Nat):confsTo all (j+1)=confsTo all j++confRow j (all.getD j []) (all.getD j []).length:=by
 unfold confsTo;rw[List.range_succ,List.map_append,List.flatten_append];simp
theorem confsTo_few(all:List (List (List (Nat×Nat))))(hall:∀r∈all,r.length≤6):∀j,(confsTo all j).length≤j*6
 | 0=>Nat.zero_le _
 | j+1=>by
  rw[confsTo_succ,List.length_append,Nat.succ_mul];have h1:=confsTo_few all hall j;have h2:=confRow_few j (all.getD j []) (all.getD j []).length;have h3:(all.getD j []).length≤6:=by
   rw[List.getD_eq_getElem?_getD];cases hx:all[j]? with
   | none=>exact Nat.zero_le _
   | some r=>exact hall r (gM hx)
  omega
def TabV(F:Frz)(method:Nat)(T:Tab)(v:Value):Prop:=∃a1 n1 c1 a2 n2 c2 a3 n3 c3,v=.agg ⟨[.int .i64 method,.slice a1 n1 c1,.slice a2 n2 c2,.slice a3 n3 c3]⟩∧
 Arr (tList tAct) F a1 n1 c1 T.act∧Arr (tList tInt) F a2 n2 c2 T.go∧Arr tConf F a3 n3 c3 T.conf
theorem TabV.mono{F G:Frz}{method:Nat}{T:Tab}{v:Value}(h:TabV F method T v)(hF:Frz.le F G):TabV G method T v:=by
 obtain⟨a1,n1,c1,a2,n2,c2,a3,n3,c3,e,h1,h2,h3⟩:=h;exact⟨a1,n1,c1,a2,n2,c2,a3,n3,c3,e,h1.mono hF,h2.mono hF,h3.mono hF⟩
theorem of_spec(F:Frz)(g:Gram)(hg:Valid g)(ht5:g.terms≤5)(method:Nat)(hm:method=1∨method=2∨method=3){a:Option Addr}{m c:Nat}(hr:Arr tRule F a m c g.rules) :
  Abs.Spec CC 9 [.agg ⟨gramCells g a m c⟩,.int .i64 method] F [] fun F' v o=>o=[]∧((tableF g method=none∧v=.tuple ⟨[.agg ⟨[.int .i64 0,.slice none 0 0,.slice none 0 0,.slice none 0 0]⟩,.int .i64 2]⟩)∨
   ∃T x,tableF g method=some T∧v=.tuple ⟨[x,.int .i64 0]⟩∧TabV F' method T x):=by
 have hrl:=hr.len;have hmb:method≤3:=by omega
 unfold gramCells;refine Abs.Spec.fn (n:=76) Tryz.func9 rfl rfl fun own=>?_;refine AW.seq (AW.reg ?_);refine WT.boxT Z Z Z Z Z Z (fun i2 hi2=>?_);refine WT.freezeAll 0 Z Z (fun F0 hF0 hB0=>?_);have hi2:=hB0 i2 _ me;have hr:=hr.mono hF0;refine WT.allocT hT Z Z Z Z Z Z (fun i4 hi4=>?_);refine zC4 ?_;have hal:=all_spec F0 g hg ht5 method hm hr;unfold gramCells at hal;refine WT.callF0 Tryz.func45 Z Z Z Z Z Z hal (fun F1 v hF1 hv=>?_);rcases hv with ⟨hst,rfl⟩ | ⟨S,rows,a1,n1,c1,a2,n2,c2,hst,rfl,h1,h2⟩
 ·refine zC4 ?_;refine AW.cond Z (fun _=>?_) (fun h=>(by cases h));refine zC4 ?_;refine AW.ret ⟨_,[],⟨_,_,⟨_,rfl,fun G h0 s0=>loadA_cells (s0.has (p:=0) Z me) (readT_ok hT rfl)⟩,⟨_,_,rfl,rfl,rfl⟩,rfl⟩,zsb,rfl,.inl ⟨by unfold tableF;rw[hst];rfl,rfl⟩⟩
 ·refine zC4 ?_;refine AW.cond Z (fun h=>(by cases h)) (fun _=>?_);refine zC4 ?_;refine WT.allocT hT Z Z Z Z Z Z (fun i9 hi9=>?_);refine zC4 ?_;have hfew:=autoK_few hst;have hall6:∀r∈allF g S rows,r.length≤6:=fun r hr=>by
   unfold allF at hr;obtain⟨s,_,rfl⟩:=List.mem_map.1 hr;simp only[List.length_map,List.length_range];omega
  have halen:(allF g S rows).length≤400:=by unfold allF;simpa using hfew
  have hsm:∀r∈allF g S rows,∀l∈r,l.length≤1001:=fun r hr l hl=>by
   unfold allF at hr;obtain⟨s,hs,rfl⟩:=List.mem_map.1 hr;obtain⟨t,_,rfl⟩:=List.mem_map.1 hl;have hs:=List.mem_range.1 hs;have h1:=(statesF_PK hg hst (S.getD s []) (by rw[getD_some (gE hs)];exact List.getElem_mem hs)).1;have h2:=actPre_len (g:=g) (row:=rows.getD s []) (t:=t);have h3:=List.length_filterMap_le (actOne g t) (S.getD s []);rw[actsF_eq,List.length_append];omega
  have hT2:tableF g method=some (tabF (allF g S rows) (rows.map (·.drop g.terms))):=by unfold tableF;rw[hst];rfl
  generalize allF g S rows=all at h1 hall6 halen hsm hT2;have hn1:=h1.len;refine AW.range (S:=AlS) (fun s=>[]) (fun s=>[(i9,.cells false [.int .i64 method,.slice s.a s.m s.c,.slice a2 n2 c2,.slice s.a2 s.m2 s.c2])]::s.B::s.B2::[(i4,.cells false [.int .i64 0,.slice none 0 0,.slice none 0 0,.slice none 0 0])]::[]::own) (fun j s G=>Bld (tList tAct) G s.a s.m s.c s.B ((all.take j).map (·.map headA))∧Bld tConf G s.a2 s.m2 s.c2 s.B2 (confsTo all j)) n1 ⟨none,0,0,[],none,0,0,[]⟩
   Z Z Z Z Z Z Z Z Z zo rfl rfl (fun _=>rfl) (fun _=>rfl) sM (OwnLe.flat (List.Perm.refl _)) ⟨Bld.nil_ _ _,Bld.nil_ _ _⟩ ?_ ?_
  ·intro j s F2 hF2 hj hP;obtain⟨hb,hb2⟩:=hP;have h12:=h1.mono hF2;have hbl:=hb.len;rw[List.length_map,List.length_take] at hbl;refine zC4 ?_;refine WT.idxL hT h12 Z Z Z Z Z Z Z Z Z zo (fun row hrj b1 off1 ro1 cs1 lx1 hb1 hp1 hrel1=>?_);obtain⟨ra,rn,rc,rfl,hrow⟩:=hrel1;have hrl:=hrow.len;have hr6:=hall6 row (gM hrj);have hrs:=hsm row (gM hrj);have hcf:=confsTo_few all hall6 j;have hgd:all.getD j []=row:=getD_some hrj;refine zC4 ?_
   refine AW.range (S:=AlS) (fun u=>[(12,.slice u.a u.m u.c)]) (fun u=>u.B::[(i9,.cells false [.int .i64 method,.slice s.a s.m s.c,.slice a2 n2 c2,.slice u.a2 u.m2 u.c2])]::s.B::u.B2::[(i4,.cells false [.int .i64 0,.slice none 0 0,.slice none 0 0,.slice none 0 0])]::[]::own) (fun k u G=>Bld tAct G u.a u.m u.c u.B ((row.take k).map headA)∧Bld tConf G u.a2 u.m2 u.c2 u.B2 (confsTo all j++confRow j row k)) rn ⟨none,0,0,[],s.a2,s.m2,s.c2,s.B2⟩
    Z Z Z Z Z Z Z Z Z zo rfl rfl (fun _=>rfl) (fun _=>rfl) sM (OwnLe.flat (List.Perm.refl _)) ⟨Bld.nil_ _ _,by rw[show confRow j row 0=[] from rfl,List.append_nil];exact hb2⟩ ?_ ?_
   ·intro k u F3 hF3 hk hP;obtain⟨hu,hu2⟩:=hP;have hrow3:=hrow.mono hF3;have hul:=hu.len;have hul2:=hu2.len;have hcr:=confRow_few j row k;rw[List.length_map,List.length_take] at hul;rw[List.length_append] at hul2;refine zC4 ?_;refine WT.idxL hT hrow3 Z Z Z Z Z Z Z Z Z zo (fun l hlk b2 off2 ro2 cs2 lx2 hb2 hp2 hrel2=>?_);obtain⟨la,ln,lc,rfl,hl⟩:=hrel2;have hll:=hl.len;have hl1:=hrs l (gM hlk);have htk:(row.take (k+1)).map headA=(row.take k).map headA++[headA l]:=by rw[List.take_add_one,hlk,List.map_append];rfl
    have hgk:row.getD k []=l:=getD_some hlk;refine zC4 ?_;refine WT.allocT hT Z Z Z Z Z Z (fun i15 hi15=>?_);refine zC4 ?_;refine AW.jnT (S:=Unit) (fun _=>[]) (fun _=>[(i15,.cells false [.int .i64 (headA l).1,.int .i64 (headA l).2])]::u.B::[(i9,.cells false [.int .i64 method,.slice s.a s.m s.c,.slice a2 n2 c2,.slice u.a2 u.m2 u.c2])]::s.B::u.B2::[(i4,.cells false [.int .i64 0,.slice none 0 0,.slice none 0 0,.slice none 0 0])]::[]::own) (fun _ _=>True) ?_ (fun _ F4 hF4 _=>?_)
    ·refine AW.cond Z (fun h=>?_) (fun h=>?_)
     ·have h:0<ln:=by simp at h;omega
      refine zC4 ?_;refine WT.idxL (j:=0) hT hl Z Z Z Z Z Z Z Z Z zo (fun p hp0 b3 off3 ro3 cs3 lx3 hb3 hp3 hrel3=>?_);obtain rfl:lx3=_:=hrel3;have hhp:headA l=p:=by unfold headA;rw[List.head?_eq_getElem?,hp0];rfl
      refine zC4 ?_;rw[hhp];exact⟨(),sM,zow,trivial⟩
     ·have h:ln=0:=by simp at h;omega
      have hhp:headA l=(0,0):=by
       obtain rfl:l=[]:=List.eq_nil_of_length_eq_zero zo;rfl
      refine zC4 ?_;rw[hhp];exact⟨(),sM,zow,trivial⟩
    ·have hl4:=hl.mono hF4;refine zC4 ?_;refine WT.buildT hT Z Z Z Z Z Z Z Z Z Z Z Z Z Z (fun i33 hi33=>?_);refine WT.appendT (R:=tAct) (ys:=[headA l]) hT 2 (hu.mono hF4) Z (fun _=>rfl) Z Z Z Z Z Z Z Z Z Z Z (fun h0 s0=>news_own hT s0 0 Z Z Z Z) (Cells.single (R:=tAct) (x:=headA l) rfl) Z (by decide) zom (fun a3 c3 B3 hB3=>?_);refine zC4 ?_;refine AW.cond Z (fun h=>?_) (fun h=>?_)
     ·have h:1<ln:=by simp at h;omega
      have hcs:confRow j row (k+1)=confRow j row k++[(j,k,l)]:=by rw[confRow_succ,hgk,if_pos zo]
      refine zC4 ?_;refine WT.buildT hT Z Z Z Z Z Z Z Z Z Z Z Z Z Z (fun i34 hi34=>?_);refine WT.appendT (R:=tConf) (ys:=[(j,k,l)]) hT 6 (hu2.mono hF4) Z (fun _=>rfl) Z Z Z Z Z Z Z Z Z Z Z (fun h0 s0=>news_own hT s0 0 Z Z Z Z) (Cells.single (R:=tConf) (x:=(j,k,l)) ⟨_,_,_,rfl,hl4⟩) Z (by decide) zom (fun a4 c4 B4 hB4=>?_);refine zC8 ?_;refine⟨⟨a3,u.m+1,c3,B3,a4,u.m2+1,c4,B4⟩,sM,zow,?_,?_⟩
      ·dsimp only;rw[htk];exact hB3
      ·dsimp only;rw[hcs,←List.append_assoc];exact hB4
     ·have h:ln≤1:=by simp at h;omega
      have hcs:confRow j row (k+1)=confRow j row k:=by rw[confRow_succ,hgk,if_neg zo,List.append_nil]
      refine zC4 ?_;refine⟨⟨a3,u.m+1,c3,B3,u.a2,u.m2,u.c2,u.B2⟩,sM,zow,?_,?_⟩
      ·dsimp only;rw[htk];exact hB3
      ·dsimp only;rw[hcs];exact hu2.mono hF4
   ·intro u F3 hF3 hP;obtain⟨hu,hu2⟩:=hP;rw[List.take_of_length_le zo] at hu;have hul:=hu.len;have hu2l:=hu2.len;have hcr:=confRow_few j row rn;rw[List.length_append] at hu2l;refine AW.freezeAll 0 Z Z (fun F4 hF4 hB4=>?_);have hrow4:=hu.frozen hF4 hB4;have htk:(all.take (j+1)).map (·.map headA)=(all.take j).map (·.map headA)++[row.map headA]:=by rw[List.take_add_one,hrj,List.map_append];rfl
    have hct:confsTo all (j+1)=confsTo all j++confRow j row rn:=by rw[confsTo_succ,hgd,hrl]
    refine zC8 ?_;refine WT.buildT hT Z Z Z Z Z Z Z Z Z Z Z Z Z Z (fun i35 hi35=>?_);refine WT.appendT (R:=tList tAct) (ys:=[row.map headA]) hT 3 ((hb.mono hF3).mono hF4) Z (fun _=>rfl) Z Z Z Z Z Z Z Z Z Z Z (fun h0 s0=>news_own hT s0 0 Z Z Z Z) (Cells.single (R:=tList tAct) (x:=row.map headA) ⟨_,_,_,rfl,hrow4⟩) Z (by decide) zom (fun a5 c5 B5 hB5=>?_);refine zC8 ?_;refine⟨⟨a5,s.m+1,c5,B5,u.a2,u.m2,u.c2,u.B2⟩,sM,zow,?_,?_⟩
    ·dsimp only;rw[htk];exact hB5
    ·dsimp only;rw[hct];exact hu2.mono hF4
  ·intro s F2 hF2 hP;obtain⟨hb,hb2⟩:=hP;rw[List.take_of_length_le zo] at hb;refine AW.freezeAll 1 Z Z (fun F3 hF3 hB3=>?_);have g1:=hb.frozen hF3 hB3;refine AW.freezeAll 2 Z Z (fun F4 hF4 hB4=>?_);have g2:=(hb2.mono hF3).frozen hF4 hB4;refine zC8 ?_;refine AW.ret ⟨_,[],⟨_,_,⟨_,rfl,fun G h0 s0=>loadA_cells (s0.has (p:=3) Z me) (readT_ok hT rfl)⟩,⟨_,_,rfl,rfl,rfl⟩,rfl⟩,zsb,rfl,.inr ⟨_,_,hT2,rfl,_,_,_,_,_,_,_,_,_,rfl,g1.mono hF4,((h2.mono hF2).mono hF3).mono hF4,?_⟩⟩;have e:n1=all.length:=hn1;rw[e] at g2;exact g2
theorem lal_fol{g:Gram}(hg:Valid g){I:List (List Lr)}{rows:List (List Int)}(h:autoI g=some (I,rows)){s:Nat}{x:Lr}{t:Nat}(hl:LalA g I rows s x t):FolA g x t:=by
 have key:∀{s:Nat} {x:Lr} {k t:Nat} {r:Rule},itI I s x→afterL g x=some ⟨false,r.left⟩→g.rules[k]?=some r→(BegL g (restL g x) t∨(NulL g (restL g x)∧FolA g x t))→FolA g ⟨k,0⟩ t:=by
  intro s x k t r hit ha hr hb;have hk:=(gS hr).1;obtain⟨st,hst,hx⟩:=hit;obtain⟨xr,xd⟩:=x;unfold FolA;rw[if_pos hk,leftL_at hr];by_cases hxr:xr<g.rules.length
  ·have hr2:=gE hxr;generalize g.rules[xr]=r2 at hr2;have hm2:=gM hr2;have hre:=auto_reached h s st hst _ hx hxr;have hre:Rch g (leftL g xr):=hre;rw[leftL_at hr2] at hre;have hsp:=split_at hr2 ha;rcases hb with hb | ⟨hb1,h5⟩
   ·exact .beg hm2 hre hsp hb
   ·unfold FolA at h5;rw[if_pos hxr] at h5;have h5:Fol g (leftL g xr) t:=h5;rw[leftL_at hr2] at h5;exact .pass hm2 hre hsp hb1 h5
  ·have hxe:xr=g.rules.length:=by
    have:=(afterL_right (g:=g) (x:=⟨xr,xd⟩)).symm.trans ha;have h2:(rightL g xr)[xd]?=some ⟨false,r.left⟩:=this;rcases Nat.lt_or_ge g.rules.length xr with h3 | h3
    ·unfold rightL at h2;rw[if_neg zo,List.getElem?_eq_none (l:=g.rules) (i:=xr) zo] at h2;simp at h2
    ·omega
   subst hxe;obtain⟨h1,_,h3⟩:=rest_start ha;simp only[Sym.mk.injEq,true_and] at h1;rw[h1];rcases hb with hb | ⟨_,h5⟩
   ·rw[h3] at hb;obtain⟨pre,s1,post,e,_⟩:=hb;exact absurd (congrArg List.length e) (by simp)
   ·unfold FolA at h5;rw[if_neg (Nat.lt_irrefl _)] at h5;rw[h5];exact .start
 induction hl with
 | start=>unfold FolA;rw[if_neg (Nat.lt_irrefl _)]
 | goto _ _ _ _ ih=>exact ih
 | beg0 hit ha hr hb=>exact key hit ha hr (.inl hb)
 | beg _ _ _ hit ha hr hb _=>exact key hit ha hr (.inl hb)
 | pass _ hit ha hr hn ih=>exact key hit ha hr (.inr ⟨hn,ih⟩)
def cellF(A:List (Nat×Nat)):List (Nat×Nat):=if 1<A.length then A else [headA A]
theorem mem_cellF{A:List (Nat×Nat)}{x:Nat×Nat}(h:x∈A):x∈cellF A:=by
 unfold cellF;split
 ·exact h
 ·rename_i hl
  match A,h,hl with
  | [p],h,_=>exact h
  | p::q::l,_,hl=>exact absurd (by simp) hl
theorem of_cellF{A:List (Nat×Nat)}{x:Nat×Nat}(h:x∈cellF A)(hx:x.1≠0):x∈A:=by
 unfold cellF at h;split at h
 ·exact h
 ·rw[List.mem_singleton] at h;subst h;cases A with
  | nil=>exact absurd rfl hx
  | cons p l=>exact List.mem_cons_self ..
theorem head_shift{g:Gram}{st:List Look}{row:List Int}{t:Nat}:(headA (actsF g st row t)).1=1↔actPre g row t≠[]:=by
 rw[actsF_eq];cases hp:actPre g row t with
 | nil=>
  refine⟨fun h=>?_,fun h=>absurd rfl h⟩;exfalso;have h:(headA (st.filterMap (actOne g t))).1=1:=h;unfold headA at h;cases hf:st.filterMap (actOne g t) with
  | nil=>rw[hf] at h;cases h
  | cons p l=>
   rw[hf] at h;have hm:p∈st.filterMap (actOne g t):=by rw[hf];exact List.mem_cons_self ..
   obtain⟨lk,_,e⟩:=List.mem_filterMap.1 hm;unfold actOne at e;have h:p.1=1:=h;split at e
   ·split at e
    ·obtain rfl:=Option.some.inj e;cases h
    ·obtain rfl:=Option.some.inj e;cases h
   ·cases e
 | cons p l=>
  refine⟨fun _ h=>(by cases h),fun _=>?_⟩;have hm:p∈actPre g row t:=by rw[hp];exact List.mem_cons_self ..
  unfold actPre at hm;show p.1=1;split at hm
  ·split at hm
   ·split at hm
    ·rw[List.mem_singleton.1 hm]
    ·cases hm
   ·cases hm
  ·cases hm
structure Two(g:Gram)(T1 T2:Tab)(S1 S2:List (List Look))(rows:List (List Int)):Prop where
 e1:T1=tabF (allF g S1 rows) (rows.map (·.drop g.terms))
 e2:T2=tabF (allF g S2 rows) (rows.map (·.drop g.terms))
 len:S1.length=S2.length
 sub:∀s t p,s<S2.length→t≤g.terms→p∈actsF g (S2.getD s []) (rows.getD s []) t→p∈actsF g (S1.getD s []) (rows.getD s []) t
theorem two_sub{g:Gram}(hg:Valid g){I:List (List Lr)}{rows:List (List Int)}(h:autoI g=some (I,rows))(s t:Nat)(p:Nat×Nat)(hs:s<(lookS g I (LalA g I rows)).length)(ht:t≤g.terms)
  (hp:p∈actsF g ((lookS g I (LalA g I rows)).getD s []) (rows.getD s []) t):p∈actsF g ((lookS g I fun _=>FolA g).getD s []) (rows.getD s []) t:=by
 have hA:=(autoI_ok h).1;have hs1:s<(lookS g I fun _=>FolA g).length:=by
  unfold lookS at hs ⊢;rw[List.length_map] at hs ⊢;exact hs
 have a2:=acts_mem (S:=lookS g I (LalA g I rows)) (by rw[lookS_items];exact hA) hs ht p;have a1:=acts_mem (S:=lookS g I fun _=>FolA g) (by rw[lookS_items];exact hA) hs1 ht p;rw[lookS_items] at a1 a2;obtain⟨h1,h2⟩:=a2.1 hp;refine a1.2 ⟨h1,?_⟩;have mono:∀x t,laK (lookS g I (LalA g I rows)) s x t→laK (lookS g I fun _=>FolA g) s x t:=fun x t hk=>by
  obtain⟨k1,k2,k3⟩:=laK_lookS.1 hk;exact laK_lookS.2 ⟨k1,lal_fol hg h k2,k3⟩
 generalize decA p=q at h2 ⊢;cases h2 with
 | shift a b=>exact .shift a b
 | red a b c=>exact .red a b (mono _ _ c)
 | acc a b=>exact .acc a (mono _ _ b)
theorem two_small{g:Gram}(hg:Valid g){I:List (List Lr)}{rows:List (List Int)}(h:autoI g=some (I,rows)):∃T1 T2 S1 S2,tableF g 1=some T1∧tableF g 2=some T2∧Two g T1 T2 S1 S2 rows∧
  (∀st∈S1,st.length≤1000)∧∀st∈S2,st.length≤1000:=by
 have e1:statesF g 1=some (lookS g I fun _=>FolA g,rows):=by unfold statesF;rw[if_neg (by decide),h];rfl
 have e2:statesF g 2=some (lookS g I (LalA g I rows),rows):=by unfold statesF;rw[if_neg (by decide),h];rfl
 refine⟨_,_,lookS g I fun _=>FolA g,lookS g I (LalA g I rows),by unfold tableF;rw[e1];rfl,by unfold tableF;rw[e2];rfl,⟨rfl,rfl,?_,two_sub hg h⟩,fun st hst=>(statesF_PK hg e1 st hst).1,fun st hst=>(statesF_PK hg e2 st hst).1⟩;unfold lookS;rw[List.length_map,List.length_map]
theorem act_head{g:Gram}{S:List (List Look)}{rows go:List (List Int)}{s t:Nat}{r:List (Nat×Nat)}{p:Nat×Nat}(hs:s<S.length)(ht:t≤g.terms)(hr:(tabF (allF g S rows) go).act[s]?=some r)(hp:r[t]?=some p) :
  p=headA (actsF g (S.getD s []) (rows.getD s []) t):=by
 have h1:(tabF (allF g S rows) go).act[s]?=some (((List.range (g.terms+1)).map fun t=>actsF g (S.getD s []) (rows.getD s []) t).map fun l=>l.head?.getD (0,0)):=
  map_at (map_at (List.getElem?_range hs))
 rw[hr] at h1;rw[Option.some.inj h1] at hp;have h2:(((List.range (g.terms+1)).map fun t=>actsF g (S.getD s []) (rows.getD s []) t).map fun l=>l.head?.getD (0,0))[t]?=some (headA (actsF g (S.getD s []) (rows.getD s []) t)):=
  map_at (map_at (List.getElem?_range zo))
 rw[hp] at h2;exact Option.some.inj h2
theorem mem_conf{all:List (List (List (Nat×Nat)))}{go:List (List Int)}{q:Nat×Nat×List (Nat×Nat)}:q∈(tabF all go).conf↔
  q.1<all.length∧q.2.1<(all.getD q.1 []).length∧1<((all.getD q.1 []).getD q.2.1 []).length∧q.2.2=(all.getD q.1 []).getD q.2.1 []:=by
 unfold tabF;dsimp only;rw[List.mem_flatten];constructor
 ·rintro⟨l,hl,hq⟩;obtain⟨s,hs,rfl⟩:=List.mem_map.1 hl;unfold confRow at hq;obtain⟨t,ht,e⟩:=List.mem_filterMap.1 hq;rw[List.mem_range] at hs ht;split at e
  ·obtain rfl:=Option.some.inj e;exact⟨hs,ht,by assumption,rfl⟩
  ·cases e
 ·rintro⟨h1,h2,h3,h4⟩;obtain⟨s,t,l⟩:=q;dsimp only at h1 h2 h3 h4;subst h4;refine⟨_,List.mem_map.2 ⟨s,List.mem_range.2 h1,rfl⟩,?_⟩;unfold confRow;exact List.mem_filterMap.2 ⟨t,List.mem_range.2 h2,by rw[if_pos h3]⟩
mutual
inductive Lw(g:Gram):Sym→List Nat→Prop
 | term {t:Nat}:Lw g ⟨true,t⟩ [t]
 | non {r:Rule} {u:List Nat}:r∈g.rules→Lws g r.right u→Lw g ⟨false,r.left⟩ u
inductive Lws(g:Gram):List Sym→List Nat→Prop
 | nil:Lws g [] []
 | cons {s:Sym} {l:List Sym} {u v:List Nat}:Lw g s u→Lws g l v→Lws g (s::l) (u++v)
end
section
variable {g:Gram}
def oS(O:List Int)(s:Sym):Int:=if s.term=true then 1 else O.getD s.n (-1)
def sumO(O:List Int):List Sym→Int
 | []=>0
 | s::l=>oS O s+sumO O l
def catW(W:List (List Nat)):List Sym→List Nat
 | []=>[]
 | s::l=>(if s.term=true then [s.n] else W.getD s.n [])++catW W l
structure WSnd(g:Gram)(O:List Int)(W:List (List Nat))(K:List Bool):Prop where
 wlen:W.length=g.nons
 klen:K.length=g.nons
 word:∀n,K.getD n false=true→Lw g ⟨false,n⟩ (W.getD n [])∧((W.getD n []).length:Int)=O.getD n (-1)∧O.getD n (-1)≤2000
def knownW(K:List Bool)(s:Sym):Prop:=s.term=true∨K.getD s.n false=true
end
structure LSt where
 O:List Int
 B:List (Nat×Blk)
 again:Bool
structure BtS where
 xs:List Bool
 a:Option Addr
 m:Nat
 c:Nat
 B:List (Nat×Blk)
structure DS where
 i:Nat
 j:Nat
 ys:List Rule
 B:List (Nat×Blk)
end Go.Proofs.D
set_option linter.unusedVariables false
set_option maxRecDepth 20000
set_option maxHeartbeats 0
open Go Go.Abs Go.Proofs Go.Proofs.D
namespace Go.Abs
section
variable {C:Ctx}{T:RT}{n:Nat}{k:Kno}{F:Frz}{own:Own}{ops rest:List Oper}{o:Oper}{Q:Kno→Frz→Own→List Rec→Prop}
end
end Go.Abs
namespace Go.Proofs.D
def CellsW(F:Frz)(cs:List Value)(W:List (List Nat)):Prop:=cs.length=W.length∧∀(n:Nat) (u:List Nat),W[n]?=some u→∃a m c,cs[n]?=some (.slice a m c)∧Arr tNat F a m c u
theorem CellsW.mono{F G:Frz}{cs:List Value}{W:List (List Nat)}(h:CellsW F cs W)(hF:Frz.le F G):CellsW G cs W:=
 ⟨h.1,fun n u hu=>let ⟨a,m,c,h1,h2⟩:=h.2 n u hu;⟨a,m,c,h1,h2.mono hF⟩⟩
theorem getD_set_ne{α:Type}{l:List α}{i j:Nat}{a d:α}(h:j≠i):(l.set i a).getD j d=l.getD j d:=by rw[List.getD_eq_getElem?_getD,List.getElem?_set_ne (Ne.symm h),←List.getD_eq_getElem?_getD]
structure WwS where
 cs:List Value
 W:List (List Nat)
 K:List Bool
 again:Bool
structure WiS where
 a:Option Addr
 m:Nat
 c:Nat
 B:List (Nat×Blk)
 ws:List Nat
 ok:Bool
def WOk(O:List Int)(W:List (List Nat))(K:List Bool)(left:Nat)(l:List Sym):Prop:=(0≤O.getD left (-1)∧O.getD left (-1)≤2000)∧(∀s∈l,knownW K s)∧((catW W l).length:Int)≤O.getD left (-1)
theorem catW_take(W:List (List Nat)):∀(l:List Sym) (k:Nat),(catW W (l.take k)).length≤(catW W l).length
 | [],k=>by simp[catW]
 | x::l,0=>by simp[catW]
 | x::l,k+1=>by
  have:=catW_take W l k;simp only[List.take_succ_cons,catW,List.length_append];omega
theorem WOk.take{O:List Int}{W:List (List Nat)}{K:List Bool}{left:Nat}{l:List Sym}(h:WOk O W K left l)(k:Nat):WOk O W K left (l.take k):=
 ⟨h.1,fun s hs=>h.2.1 s (List.mem_of_mem_take hs),by have:=catW_take W l k;have:=h.2.2;omega⟩
theorem shE7{p:Prop} (h:p:=by
 have hxlen:=hx.len;have hylen:=hy.len;refine zB4 ?_;refine AW.cond Z (fun hc=>(by simp at hc;omega)) (fun hc=>?_);refine zB4 ?_;refine AW.range (S:=Unit) (fun _=>[]) (fun _=>_) (fun j _ G=>True) m () Z Z Z Z Z Z Z Z Z zo Z Z (fun _=>rfl) (fun _=>rfl) sM oR trivial ?_ ?_
 ·intro j _ F1 hF1 hj _;have hx1:=hx.mono hF1;have hy1:=hy.mono hF1;refine zB4 ?_;refine WT.idxL hT hx1 Z Z Z Z Z Z Z Z Z zo (fun x hxj b1 off ro cs lx hb hp1 hrel=>?_);obtain rfl:lx=_:=hrel;refine zB4 ?_;refine WT.idxL hT hy1 Z Z Z Z Z Z Z Z Z zo (fun y hyj b2 off2 ro2 cs2 ly hb2 hp2 hrel2=>?_);obtain rfl:ly=_:=hrel2;obtain rfl:x=y:=by rw[hxj] at hyj;exact Option.some.inj hyj
  refine zB4 ?_;refine AW.cond Z (fun hc=>?_) (fun hc=>?_)
  ·exfalso;simp at hc
  ·refine zB4 ?_;exact⟨(),sM,zow,trivial⟩
 ·intro _ F1 hF1 _;refine zB4 ?_;exact AW.ret ⟨_,[],⟨_,_,rfl,rfl,rfl⟩,zsb,rfl,rfl⟩):p:=h
theorem actEqual_spec(F:Frz){a b:Option Addr}{m n c d:Nat}{xs:List (Nat×Nat)}(hx:Arr tAct F a m c xs)(hy:Arr tAct F b n d xs)(hm:m≤1000000) :
  Abs.Spec CC 157 [.slice a m c,.slice b n d] F [] fun _ v o=>o=[]∧v=.bool true:=by
 refine Abs.Spec.fn (n:=26) Tryz.func157 rfl rfl fun own=>?_;exact shE7
theorem actFn_spec(F:Frz){a b:Option Addr}{m n c d:Nat}{xs:List (Nat×Nat)}(hx:Arr tAct F a m c xs)(hy:Arr tAct F b n d xs)(hm:m≤1000000) :
  Abs.Spec CC 156 [.slice a m c,.slice b n d] F [] fun _ v o=>o=[]∧v=.bool true:=by
 refine Abs.Spec.fn (n:=8) Tryz.func156 rfl rfl fun own=>?_;refine zB4 ?_;refine WT.callV Tryz.func157 Z Z Z Z Z Z (actEqual_spec _ hx hy hm) (fun v hv=>?_);subst hv;refine zB4 ?_;exact AW.ret ⟨_,[],⟨_,_,rfl,rfl,rfl⟩,zsb,rfl,rfl⟩
theorem actRows_spec(F:Frz){a b:Option Addr}{m n c d:Nat}{xs:List (List (Nat×Nat))}(hx:Arr (tList tAct) F a m c xs)(hy:Arr (tList tAct) F b n d xs)(hm:m≤1000000)(hl:∀l∈xs,l.length≤1000000) :
  Abs.Spec CC 155 [.slice a m c,.slice b n d,.func (.func 156) ⟨[]⟩ ⟨[]⟩] F [] fun _ v o=>o=[]∧v=.bool true:=by
 refine Abs.Spec.fn (n:=32) Tryz.func155 rfl rfl fun own=>?_;have hxlen:=hx.len;have hylen:=hy.len;refine zB4 ?_;refine AW.cond Z (fun hc=>(by simp at hc;omega)) (fun hc=>?_);refine zB4 ?_;refine AW.range (S:=Unit) (fun _=>[]) (fun _=>_) (fun j _ G=>True) m () Z Z Z Z Z Z Z Z Z zo Z Z (fun _=>rfl) (fun _=>rfl) sM oR trivial ?_ ?_
 ·intro j _ F1 hF1 hj _;have hx1:=hx.mono hF1;have hy1:=hy.mono hF1;refine zB4 ?_;refine WT.idxL hT hx1 Z Z Z Z Z Z Z Z Z zo (fun x hxj b1 off ro cs lx hb hp1 hrel=>?_);obtain⟨xa,xn,xc,rfl,hxx⟩:=hrel;refine zB4 ?_;refine WT.idxL hT hy1 Z Z Z Z Z Z Z Z Z zo (fun y hyj b2 off2 ro2 cs2 ly hb2 hp2 hrel2=>?_);obtain⟨ya,yn,yc,rfl,hyy⟩:=hrel2;obtain rfl:x=y:=by rw[hxj] at hyj;exact Option.some.inj hyj
  have hxn:=hxx.len;have hxs:=hl x (gM hxj);refine zB4 ?_;refine WT.callC Tryz.func156 Z Z Z Z Z Z Z Z (actFn_spec _ hxx hyy zo) (fun v hv=>?_);subst hv;refine zB4 ?_;refine AW.cond Z (fun h=>(by cases h)) (fun _=>?_);refine zB4 ?_;exact⟨(),sM,zow,trivial⟩
 ·intro _ F1 hF1 hP;refine zB4 ?_;exact AW.ret ⟨_,[],⟨_,_,rfl,rfl,rfl⟩,zsb,rfl,rfl⟩
theorem intEqual_spec(F:Frz){a b:Option Addr}{m n c d:Nat}{xs:List Int}(hx:Arr tInt F a m c xs)(hy:Arr tInt F b n d xs)(hm:m≤1000000) :
  Abs.Spec CC 12 [.slice a m c,.slice b n d] F [] fun _ v o=>o=[]∧v=.bool true:=by
 refine Abs.Spec.fn (n:=26) Tryz.func12 rfl rfl fun own=>?_;exact shE7
theorem intFn_spec(F:Frz){a b:Option Addr}{m n c d:Nat}{xs:List Int}(hx:Arr tInt F a m c xs)(hy:Arr tInt F b n d xs)(hm:m≤1000000) :
  Abs.Spec CC 159 [.slice a m c,.slice b n d] F [] fun _ v o=>o=[]∧v=.bool true:=by
 refine Abs.Spec.fn (n:=8) Tryz.func159 rfl rfl fun own=>?_;refine zB4 ?_;refine WT.callV Tryz.func12 Z Z Z Z Z Z (intEqual_spec _ hx hy hm) (fun v hv=>?_);subst hv;refine zB4 ?_;exact AW.ret ⟨_,[],⟨_,_,rfl,rfl,rfl⟩,zsb,rfl,rfl⟩
theorem intRows_spec(F:Frz){a b:Option Addr}{m n c d:Nat}{xs:List (List Int)}(hx:Arr (tList tInt) F a m c xs)(hy:Arr (tList tInt) F b n d xs)(hm:m≤1000000)(hl:∀l∈xs,l.length≤1000000) :
  Abs.Spec CC 158 [.slice a m c,.slice b n d,.func (.func 159) ⟨[]⟩ ⟨[]⟩] F [] fun _ v o=>o=[]∧v=.bool true:=by
 refine Abs.Spec.fn (n:=32) Tryz.func158 rfl rfl fun own=>?_;have hxlen:=hx.len;have hylen:=hy.len;refine zB4 ?_;refine AW.cond Z (fun hc=>(by simp at hc;omega)) (fun hc=>?_);refine zB4 ?_;refine AW.range (S:=Unit) (fun _=>[]) (fun _=>_) (fun j _ G=>True) m () Z Z Z Z Z Z Z Z Z zo Z Z (fun _=>rfl) (fun _=>rfl) sM oR trivial ?_ ?_
 ·intro j _ F1 hF1 hj _;have hx1:=hx.mono hF1;have hy1:=hy.mono hF1;refine zB4 ?_;refine WT.idxL hT hx1 Z Z Z Z Z Z Z Z Z zo (fun x hxj b1 off ro cs lx hb hp1 hrel=>?_);obtain⟨xa,xn,xc,rfl,hxx⟩:=hrel;refine zB4 ?_;refine WT.idxL hT hy1 Z Z Z Z Z Z Z Z Z zo (fun y hyj b2 off2 ro2 cs2 ly hb2 hp2 hrel2=>?_);obtain⟨ya,yn,yc,rfl,hyy⟩:=hrel2;obtain rfl:x=y:=by rw[hxj] at hyj;exact Option.some.inj hyj
  have hxn:=hxx.len;have hxs:=hl x (gM hxj);refine zB4 ?_;refine WT.callC Tryz.func159 Z Z Z Z Z Z Z Z (intFn_spec _ hxx hyy zo) (fun v hv=>?_);subst hv;refine zB4 ?_;refine AW.cond Z (fun h=>(by cases h)) (fun _=>?_);refine zB4 ?_;exact⟨(),sM,zow,trivial⟩
 ·intro _ F1 hF1 hP;refine zB4 ?_;exact AW.ret ⟨_,[],⟨_,_,rfl,rfl,rfl⟩,zsb,rfl,rfl⟩
theorem sameConf_spec(F:Frz){lx ly:List Value}(x:Nat×Nat×List (Nat×Nat))(hf:x.2.2.length≤1000000)(hx:tConf.rel F lx x)(hy:tConf.rel F ly x):Abs.Spec CC 161 [.agg ⟨lx⟩,.agg ⟨ly⟩] F [] fun _ v o=>o=[]∧v=.bool true:=by
 obtain⟨xa,xn,xc,rfl,hxa⟩:=hx;obtain⟨ya,yn,yc,rfl,hya⟩:=hy;have hxl:=hxa.len;have hyl:=hya.len;refine Abs.Spec.fn (n:=24) Tryz.func161 rfl rfl fun own=>?_;refine AW.seq (AW.reg ?_);refine WT.boxT Z Z Z Z Z Z (fun i2 hi2=>?_);refine WT.boxT Z Z Z Z Z Z (fun i3 hi3=>?_);refine zB4 ?_;refine WT.know (v':=.bool true) 10 Z (by congr 1;simp) ?_;refine zB4 ?_;refine WT.know (v':=.bool true) 17 Z (by congr 1;simp) ?_;refine zB4 ?_;refine WT.callV Tryz.func157 Z Z Z Z Z Z (actEqual_spec _ hxa hya zo) (fun v hv=>?_);subst hv;refine zB4 ?_;exact AW.ret ⟨_,[],⟨_,_,rfl,rfl,rfl⟩,zsb,rfl,rfl⟩
theorem confEqF_spec(F:Frz){a b:Option Addr}{m c d:Nat}{xs:List (Nat×Nat×List (Nat×Nat))}(hx:Arr tConf F a m c xs)(hy:Arr tConf F b m d xs)(hm:m≤1000000)
  (hcmp:∀G lx ly (x:(Nat×Nat×List (Nat×Nat))),x∈xs→tConf.rel G lx x→tConf.rel G ly x→Abs.Spec CC 161 [.agg ⟨lx⟩,.agg ⟨ly⟩] G [] fun _ v o=>o=[]∧v=.bool true) :
  Abs.Spec CC 160 [.slice a m c,.slice b m d,.func (.func 161) ⟨[]⟩ ⟨[]⟩] F [] fun _ v o=>o=[]∧v=.bool true:=by
 refine Abs.Spec.fn (n:=32) Tryz.func160 rfl rfl fun own=>?_;have hxlen:=hx.len;refine zB4 ?_;refine AW.cond Z (fun h=>(by exfalso;simp at h)) (fun _=>?_);refine zB4 ?_;refine AW.range (S:=Unit) (fun _=>[]) (fun _=>own) (fun j _ G=>True) m () Z Z Z Z Z Z Z Z Z zo Z Z (fun _=>rfl) (fun _=>rfl) sM oR trivial ?_ ?_
 ·intro j _ F1 hF1 hj hP;have hx1:=hx.mono hF1;have hy1:=hy.mono hF1;refine zB4 ?_;refine WT.idxL hT hx1 Z Z Z Z Z Z Z Z Z zo (fun x hxj b1 off ro cs lx hb hp1 hrel=>?_);have hrelx:=hrel;obtain⟨xa,xn,xc,rfl,_⟩:=hrel;refine zB4 ?_;refine WT.allocT hT Z Z Z Z Z Z (fun i8 hi8=>?_);refine zB4 ?_;refine WT.idxL hT hy1 Z Z Z Z Z Z Z Z Z zo (fun y hyj b2 off2 ro2 cs2 ly hb2 hp2 hrel=>?_);obtain rfl:y=x:=by rw[hxj] at hyj;exact(Option.some.inj hyj).symm
  have hrely:=hrel;obtain⟨ya,yn,yc,rfl,_⟩:=hrel;refine zB4 ?_;refine WT.allocT hT Z Z Z Z Z Z (fun i9 hi9=>?_);refine zB4 ?_;refine WT.callC Tryz.func161 Z Z Z Z Z Z Z Z (hcmp _ _ _ y (gM hxj) hrelx hrely) (fun v hv=>?_);subst hv;refine zB4 ?_;refine AW.cond Z (fun h=>(by cases h)) (fun _=>?_);refine zB4 ?_;exact⟨(),sM,OwnLe.skip _ (OwnLe.skip _ oR),trivial⟩
 ·intro _ F1 hF1 hP;refine zB4 ?_;exact AW.ret ⟨_,[],⟨_,_,rfl,rfl,rfl⟩,zsb,rfl,rfl⟩
structure TabSm(T:Tab):Prop where
 act:T.act.length≤1000000
 rows:∀l∈T.act,l.length≤1000000
 go:T.go.length≤1000000
 grows:∀l∈T.go,l.length≤1000000
 conf:T.conf.length≤1000000
 acts:∀x∈T.conf,x.2.2.length≤1000000
theorem tabSame_spec(F:Frz){method:Nat}{T:Tab}(hs:TabSm T){v w:Value}(hv:TabV F method T v)(hw:TabV F method T w):Abs.Spec CC 104 [v,w] F [] fun _ v o=>o=[]∧v=.bool true:=by
 obtain⟨a1,n1,c1,a2,n2,c2,a3,n3,c3,rfl,h1,h2,h3⟩:=hv;obtain⟨b1,m1,d1,b2,m2,d2,b3,m3,d3,rfl,g1,g2,g3⟩:=hw;obtain rfl:n3=m3:=by rw[h3.len,g3.len]
 have l1:=h1.len;have l2:=h2.len;have l3:=h3.len;refine Abs.Spec.fn (n:=31) Tryz.func104 rfl rfl fun own=>?_;refine AW.seq (AW.reg ?_);refine WT.boxT Z Z Z Z Z Z (fun i2 hi2=>?_);refine WT.boxT Z Z Z Z Z Z (fun i3 hi3=>?_);refine zB4 ?_;refine WT.know (v':=.bool true) 10 Z (by congr 1;simp) ?_;refine zB4 ?_;refine WT.callV Tryz.func155 Z Z Z Z Z Z (actRows_spec _ h1 g1 (by rw[l1];exact hs.act) hs.rows) (fun v hv=>?_);subst hv;refine zB4 ?_;refine WT.callV Tryz.func158 Z Z Z Z Z Z (intRows_spec _ h2 g2 (by rw[l2];exact hs.go) hs.grows) (fun v hv=>?_);subst hv;refine zB4 ?_
 refine WT.callV Tryz.func160 Z Z Z Z Z Z (confEqF_spec _ h3 g3 (by rw[l3];exact hs.conf) (fun G lx ly x hx q1 q2=>sameConf_spec G x (hs.acts x hx) q1 q2)) (fun v hv=>?_);subst hv;refine zB4 ?_;exact AW.ret ⟨_,[],⟨_,_,rfl,rfl,rfl⟩,zsb,rfl,rfl⟩
theorem tableF_sm{g:Gram}(hg:Valid g)(ht5:g.terms≤5){method:Nat}{T:Tab}(h:tableF g method=some T):TabSm T∧T.act.length≤400∧T.go.length=T.act.length∧(∀r∈T.act,r.length=g.terms+1)∧(∀r∈T.go,r.length=g.nons):=by
 unfold tableF at h;cases hst:statesF g method with
 | none=>rw[hst] at h;cases h
 | some a=>
  obtain⟨S,rows⟩:=a;rw[hst] at h;obtain rfl:=Option.some.inj h;have hfew:=autoK_few hst;have hAC:=(statesF_ok hg hst).1;have hlen:rows.length=S.length:=by have:=hAC.len;rwa [List.length_map] at this
  have hgn:=hg.range.nons;have hall6:∀r∈allF g S rows,r.length=g.terms+1:=fun r hr=>by
   unfold allF at hr;obtain⟨s,_,rfl⟩:=List.mem_map.1 hr;simp
  have halen:(allF g S rows).length=S.length:=by unfold allF;simp
  have hrow:∀r∈rows,r.length=g.terms+g.nons:=fun r hr=>by
   obtain⟨k,hk⟩:=List.getElem?_of_mem hr;have hk1:=(gS hk).1;have hS:=gE (show k<(S.map itemsK).length by rw[List.length_map];omega);exact hAC.row k _ r hS hk
  have hsm:∀s t,(actsF g (S.getD s []) (rows.getD s []) t).length≤1001:=fun s t=>by
   have h1:(S.getD s []).length≤1000:=by
    rw[List.getD_eq_getElem?_getD];cases hx:S[s]? with
    | none=>exact Nat.zero_le _
    | some st=>exact(statesF_PK hg hst st (gM hx)).1
   have h2:=actPre_len (g:=g) (row:=rows.getD s []) (t:=t);have h3:=List.length_filterMap_le (actOne g t) (S.getD s []);rw[actsF_eq,List.length_append];omega
  have hal:∀s r,(allF g S rows)[s]?=some r→∀l∈r,List.length l≤1001:=fun s r hr l hl=>by
   have hr:=gM hr;unfold allF at hr;obtain⟨s,_,rfl⟩:=List.mem_map.1 hr;obtain⟨t,_,rfl⟩:=List.mem_map.1 hl;exact hsm s t
  have hconf:(tabF (allF g S rows) (rows.map (·.drop g.terms))).conf=confsTo (allF g S rows) (allF g S rows).length:=rfl;refine⟨⟨?_,?_,?_,?_,?_,?_⟩,?_,?_,?_,?_⟩
  ·show ((allF g S rows).map _).length≤_;rw[List.length_map];omega
  ·intro l hl;obtain⟨r,hr,rfl⟩:=List.mem_map.1 hl;rw[List.length_map,hall6 r hr];omega
  ·show (rows.map _).length≤_;rw[List.length_map];omega
  ·intro l hl;obtain⟨r,hr,rfl⟩:=List.mem_map.1 hl;have:=hrow r hr;rw[List.length_drop];omega
  ·rw[hconf];have:=confsTo_few (allF g S rows) (fun r hr=>by rw[hall6 r hr];omega) (allF g S rows).length;omega
  ·intro x hx;rw[hconf] at hx;unfold confsTo at hx;obtain⟨l,hl,hxl⟩:=List.mem_flatten.1 hx;obtain⟨s,hs,rfl⟩:=List.mem_map.1 hl;unfold confRow at hxl;obtain⟨t,ht,hxt⟩:=List.mem_filterMap.1 hxl;split at hxt
   ·obtain rfl:=Option.some.inj hxt;dsimp only;obtain⟨r,hr⟩:∃r,(allF g S rows)[s]?=some r:=⟨_,gE (List.mem_range.1 hs)⟩;rw[getD_some hr] at ht ⊢;obtain⟨l,hl2⟩:∃l,r[t]?=some l:=⟨_,gE (List.mem_range.1 ht)⟩;rw[getD_some hl2];have:=hal s r hr l (gM hl2);exact Nat.le_trans this (by decide)
   ·cases hxt
  ·show ((allF g S rows).map _).length≤_;rw[List.length_map];omega
  ·show (rows.map _).length=((allF g S rows).map _).length;rw[List.length_map,List.length_map];omega
  ·intro l hl;obtain⟨r,hr,rfl⟩:=List.mem_map.1 hl;rw[List.length_map,hall6 r hr]
  ·intro l hl;obtain⟨r,hr,rfl⟩:=List.mem_map.1 hl;have:=hrow r hr;rw[List.length_drop];omega
theorem tcheck_spec(F:Frz)(g:Gram)(hg:Valid g)(ht5:g.terms≤5){method:Nat}(hm:method=1∨method=2∨method=3){T:Tab}(hT2:tableF g method=some T){v:Value}(hv:TabV F method T v){a:Option Addr}{m c:Nat}(hr:Arr tRule F a m c g.rules) :
  Abs.Spec CC 47 [v,.agg ⟨gramCells g a m c⟩] F [] fun _ v o=>o=[]∧v=.int .i64 0:=by
 obtain⟨a1,n1,c1,a2,n2,c2,a3,n3,c3,rfl,h1,h2,h3⟩:=id hv;have hmb:method≤3:=by omega
 unfold gramCells;refine Abs.Spec.fn (n:=21) Tryz.func47 rfl rfl fun own=>?_;refine AW.seq (AW.reg ?_);refine WT.boxT Z Z Z Z Z Z (fun i2 hi2=>?_);refine WT.boxT Z Z Z Z Z Z (fun i3 hi3=>?_);refine zB4 ?_;have hof:=of_spec F g hg ht5 method hm hr;unfold gramCells at hof;refine WT.callF0 Tryz.func9 Z Z Z Z Z Z hof (fun F1 v hF1 hv1=>?_);rcases hv1 with ⟨hn,_⟩ | ⟨T',x,hx1,rfl,hx2⟩
 ·rw[hT2] at hn;cases hn
 rw[hT2] at hx1;obtain rfl:=Option.some.inj hx1;obtain⟨b1,m1,d1,b2,m2,d2,b3,m3,d3,rfl,g1,g2,g3⟩:=id hx2;refine zB4 ?_;refine WT.allocT hT Z Z Z Z Z Z (fun i5 hi5=>?_);refine zB4 ?_;refine AW.cond Z (fun h=>(by cases h)) (fun _=>?_);refine zB4 ?_;refine WT.callV Tryz.func104 Z Z Z Z Z Z (tabSame_spec _ (tableF_sm hg ht5 hT2).1 (hv.mono hF1) hx2) (fun v hv=>?_);subst hv;refine zB4 ?_;refine AW.cond Z (fun h=>(by cases h)) (fun _=>?_);refine zB4 ?_;exact AW.ret ⟨_,[],⟨_,_,rfl,rfl,rfl⟩,zsb,rfl,rfl⟩
def Min(g:Gram)(w:List Nat)(s:Sym)(T:Tree)(i j:Nat):Prop:=TreeOf g w s T i j∧∀T',TreeOf g w s T' i j→T.pre.length≤T'.pre.length
inductive MTs(g:Gram)(w:List Nat):List Sym→List Tree→Nat→Nat→Prop
 | nil {i:Nat}:MTs g w [] [] i i
 | cons {s:Sym} {l:List Sym} {t:Tree} {ts:List Tree} {i m j:Nat}:Min g w s t i m→MTs g w l ts m j→MTs g w (s::l) (t::ts) i j
section
variable {g:Gram}{w:List Nat}
theorem MTs.of:∀{ts:List Tree} {l:List Sym} {i j:Nat},MTs g w l ts i j→TreesOf g w l ts i j
 | _,_,_,_,.nil=>.nil
 | _,_,_,_,.cons h1 h2=>.cons h1.1 (MTs.of h2)
end
mutual
theorem TreeOf.ends{g:Gram}{w:List Nat}:∀{t:Tree} {s s':Sym} {i j j':Nat},TreeOf g w s t i j→TreeOf g w s' t i j'→j=j'
 | .mk _ _ _,_,_,_,_,_,.leaf _,h=>by
  generalize hr:(-1:Int)=r at h;cases h with
  | leaf _=>rfl
  | node _ _=>omega
 | .mk _ _ ks,_,_,_,_,_,.node (k:=k) h h2,h'=>by
  generalize hr:(k:Int)=r at h';cases h' with
  | leaf _=>omega
  | node _ h3=>exact TreesOf.ends h2 h3
theorem TreesOf.ends{g:Gram}{w:List Nat}:∀{ts:List Tree} {l l':List Sym} {i j j':Nat},TreesOf g w l ts i j→TreesOf g w l' ts i j'→j=j'
 | [],_,_,_,_,_,.nil,h=>by cases h;rfl
 | t::ts,_,_,_,_,_,.cons h1 h2,h=>by
  cases h with
  | cons h3 h4=>
   obtain rfl:=TreeOf.ends h1 h3;exact TreesOf.ends h2 h4
end
mutual
theorem TreeOf.toDer{g:Gram}{w:List Nat}:∀{t:Tree} {s:Sym} {i j:Nat},TreeOf g w s t i j→Der g w s i j
 | .mk _ _ _,_,_,_,.leaf h=>.term h
 | .mk _ _ ks,_,_,_,.node h h2=>.non (gM h) (TreesOf.toDer h2)
theorem TreesOf.toDer{g:Gram}{w:List Nat}:∀{ts:List Tree} {l:List Sym} {i j:Nat},TreesOf g w l ts i j→Ders g w l i j
 | [],_,_,_,.nil=>.nil
 | t::ts,_,_,_,.cons h1 h2=>.cons (TreeOf.toDer h1) (TreesOf.toDer h2)
end
section
variable {g:Gram}{w:List Nat}
end
structure ChP where
 ic:Nat
 ra:Option Addr
 rm:Nat
 rc:Nat
structure CSt where
 k:Nat
 old:List (List Item)
 last:List Item
 sa:Option Addr
 sc:Nat
 BS:List (Nat×Blk)
 vs:List Value
 la:Option Addr
 lc:Nat
 BL:List (Nat×Blk)
 us:List Value
 im:Nat
 es:Ents Item
 xa:Option Addr
 xn:Nat
 xc:Nat
 BX:List (Nat×Blk)
structure QInv(g:Gram)(Q:Nat→Item→Prop):Prop where
 ok:∀k x,Q k x→ItemOk g.rules k x
 predict:∀k x n i r,Q k x→nextOf g.rules x=some ⟨false,n⟩→g.rules[i]?=some r→r.left=n→Q k ⟨i,0,k⟩
 complete:∀k x y r,Q k x→g.rules[x.rule]?=some r→x.dot=r.right.length→Q x.frm y→nextOf g.rules y=some ⟨false,r.left⟩→Q k (stepItem y)
structure COk(g:Gram)(Q:Nat→Item→Prop)(q:ChP)(F:Frz)(s:CSt):Prop where
 rules:Arr tRule F q.ra q.rm q.rc g.rules
 sets:Bld tRaw F s.sa (s.k+1) s.sc s.BS (s.vs++[.map (some s.im)])
 list:Bld tRaw F s.la (s.k+1) s.lc s.BL (s.us++[.slice s.xa s.xn s.xc])
 usl:s.us.length=s.k
 oldl:s.old.length=s.k
 olds:∀(j:Nat) (l:List Item),s.old[j]?=some l→∃a n c,s.us[j]?=some (.slice a n c)∧Arr tItem F a n c l
 map:∀y,Abs.look s.es y=if y∈s.last then some (.bool true) else none
 last:Bld tItem F s.xa s.xn s.xc s.BX s.last
 nodup:s.last.Nodup
 qold:∀(j:Nat) (l:List Item),s.old[j]?=some l→∀x∈l,Q j x
 qlast:∀x∈s.last,Q s.k x
 small:s.k≤20
 olen:∀(j:Nat) (l:List Item),s.old[j]?=some l→l.length≤3360
 ndold:∀(j:Nat) (l:List Item),s.old[j]?=some l→l.Nodup
theorem COk.mono{g:Gram}{Q:Nat→Item→Prop}{q:ChP}{F G:Frz}{s:CSt}(h:COk g Q q F s)(hF:Frz.le F G):COk g Q q G s:=
 ⟨h.rules.mono hF,h.sets.mono hF,h.list.mono hF,h.usl,h.oldl,fun j l hj=>by obtain⟨a,n,c,h1,h2⟩:=h.olds j l hj;exact⟨a,n,c,h1,h2.mono hF⟩,h.map,h.last.mono hF,h.nodup,h.qold,h.qlast,h.small,h.olen,h.ndold⟩
structure Grows(s s':CSt)(P:Item→Prop):Prop where
 k:s'.k=s.k
 old:s'.old=s.old
 last:∃new,s'.last=s.last++new∧∀y∈new,P y
theorem Grows.refl(s:CSt)(P:Item→Prop):Grows s s P:=⟨rfl,rfl,[],by simp,fun _ h=>by cases h⟩
theorem Grows.trans{s t u:CSt}{P:Item→Prop}(h1:Grows s t P)(h2:Grows t u P):Grows s u P:=by
 obtain⟨n1,e1,p1⟩:=h1.last;obtain⟨n2,e2,p2⟩:=h2.last;refine⟨h2.k.trans h1.k,h2.old.trans h1.old,n1++n2,by rw[e2,e1,List.append_assoc],fun y hy=>?_⟩;rcases List.mem_append.1 hy with hy | hy
 ·exact p1 y hy
 ·exact p2 y hy
theorem Grows.mono{s t:CSt}{P P':Item→Prop}(h:Grows s t P)(hp:∀y,P y→P' y):Grows s t P':=by
 obtain⟨n,e,p⟩:=h.last;exact⟨h.k,h.old,n,e,fun y hy=>hp y (p y hy)⟩
def LS(s:CSt):Nat→List Item:=fun j=>if j=s.k then s.last else s.old.getD j []
structure CI where
 s:CSt
 n:Int
structure CJ where
 s:CSt
 i:Nat
structure NB where
 xs:List Bool
 B:List (Nat×Blk)
end Go.Proofs.D