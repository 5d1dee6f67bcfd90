/-
  Walks: what functions of the program do, over the abstract machine.
-/
import Derived.Test.YtebndojjghnhoaaGreatDoorWk3
set_option linter.unusedVariables false
set_option maxRecDepth 20000
set_option maxHeartbeats 0
open Go Go.Abs Go.Proofs Go.Proofs.D
namespace Go.Proofs.D
def tAct:Ty (Nat×Nat) where
 size:=2
 rel:=fun _ l x=>l=[.int .i64 x.1,.int .i64 x.2]
 len:=fun _ _ _ h=>by rw[h];rfl
 one:=fun _ _ _ h=>by rw[h];rfl
 mono:=fun _ _ _ _ _ h=>h
def actOne(g:Gram)(t:Nat)(lk:Look):Option (Nat×Nat):=if afterL g lk.item=none∧lk.set.testBit t=true then some (if lk.item.rule<g.rules.length then (2,lk.item.rule) else (3,0)) else none
def actPre(g:Gram)(row:List Int)(t:Nat):List (Nat×Nat):=if t<g.terms then (match row[t]? with | some j=>if 0≤j then [(1,j.toNat)] else [] | none=>[]) else []
theorem actsF_eq(g:Gram)(st:List Look)(row:List Int)(t:Nat):actsF g st row t=actPre g row t++st.filterMap (actOne g t):=rfl
theorem actPre_len{g:Gram}{row:List Int}{t:Nat}:(actPre g row t).length≤1:=by
 unfold actPre;by_cases h:t<g.terms
 ·rw[if_pos h];cases row[t]? with
  | none=>exact Nat.zero_le _
  | some j=>
   dsimp only;by_cases h2:0≤j
   ·rw[if_pos h2];exact Nat.le_refl _
   ·rw[if_neg h2];exact Nat.zero_le _
 ·rw[if_neg h];exact Nat.zero_le _
structure AcS where
 vs:List Value
 a:Option Addr
 m:Nat
 c:Nat
 B:List (Nat×Blk)
 l:List (Nat×Nat)
theorem fm_take{α β:Type}{f:α→Option β}{l:List α}{k:Nat}{x:α}(h:l[k]?=some x):(l.take (k+1)).filterMap f=(l.take k).filterMap f++(f x).toList:=by
 rw[List.take_add_one,h,List.filterMap_append];cases hf:f x<;>simp[hf]
theorem fm_len{α β:Type}(f:α→Option β)(l:List α)(k:Nat):((l.take k).filterMap f).length≤k:=Nat.le_trans (List.length_filterMap_le _ _) (by simp;omega)
theorem perm_tail3{α:Type}(B:List α)(x:α)(bs:List α)(own:List (List α)):(B::[x]::bs::own).flatten.Perm ([x]::(bs++B)::own).flatten:=by
 classical
 rw[List.perm_iff_count];intro y;simp only[List.flatten_cons,List.count_append];omega
theorem shE0{p:Prop} (h:p:=by
 intro k u F2 hF2 hk hP;obtain⟨hub,huv,hul⟩:=hP;have hst2:=hst1.mono hF2;have hr2:=(hr.mono hF1).mono hF2;have hubl:=hub.len;have hf1:=fm_len (actOne g t) st k;have hpre:(actPre g row t).length≤1:=by
  exact actPre_len
 have hull:u.l.length≤1+k:=by rw[hul,List.length_append];omega
 have hvs1:u.vs[0+t*1]?=some (.slice u.a u.m u.c):=by rw[huv,List.getElem?_set_self zo]
 have huvl:u.vs.length=g.terms+1:=by rw[huv,List.length_set];exact hvl
 refine zC8 ?_;refine WT.idxL hT hst2 Z Z Z Z Z Z Z Z Z zo (fun x hxk b5 off5 ro5 cs5 lx5 hb5 hp5 hrel5=>?_);obtain rfl:lx5=_:=hrel5;obtain⟨hxo,hxs⟩:=hok x (gM hxk);have hfm:=fm_take (f:=actOne g t) hxk;have hxr:=hxo.1;refine zC8 ?_;refine WT.allocT hT Z Z Z Z Z Z (fun i10 hi10=>?_);refine zC8 ?_;have haf:=lrAfter_spec F2 g hg4 hr2 zo x.item zo;unfold gramCells at haf;refine WT.callV Tryz.func131 Z Z Z Z Z Z haf (fun v hv=>?_);obtain⟨z,bo,rfl,hay,han⟩:=hv;obtain⟨zt,zn⟩:=z;refine zC8 ?_;refine WT.allocT hT Z Z Z Z Z Z (fun i11 hi11=>?_);refine zC8 ?_
 have skip:actOne g t x=none→u.l=actPre g row t++(st.take (k+1)).filterMap (actOne g t):=fun e=>by rw[hfm,e,hul];simp
 refine WT.split 61 Z (fun hbo=>?_) (fun hbo=>?_)
 ·refine zC8 ?_;refine AW.cond Z (fun _=>?_) (fun h=>(by cases h));refine AW.exit ?_;refine⟨u,sM,zow,hub,huv,skip ?_⟩;unfold actOne;rw[if_neg (by rw[hay hbo];simp)]
 ·have han:=han hbo;refine zC8 ?_;refine WT.shr32 (x:=x.set) (y:=t) Z Z Z Z Z Z zo ?_;refine WT.and32 (x:=x.set / 2 ^ t) (y:=1) Z Z Z Z Z Z (Nat.lt_of_le_of_lt (Nat.div_le_self _ _) zo) (by decide) ?_;rw[shift_bit];refine zC8 ?_;refine AW.cond Z (fun h=>?_) (fun h=>?_)
  ·have h:x.set.testBit t=false:=by
    cases hb:x.set.testBit t with
    | false=>rfl
    | true=>rw[hb] at h;simp at h
   refine AW.exit ?_;refine⟨u,sM,zow,hub,huv,skip ?_⟩;unfold actOne;rw[if_neg (by rw[h];simp)]
  ·have h:x.set.testBit t=true:=by
    cases hb:x.set.testBit t with
    | true=>rfl
    | false=>rw[hb] at h;simp at h
   refine zC8 ?_;refine AW.cond Z (fun h2=>?_) (fun h2=>?_)
   ·have h2:x.item.rule<g.rules.length:=by simp at h2;omega
    have hone:actOne g t x=some (2,x.item.rule):=by unfold actOne;rw[if_pos ⟨han,h⟩,if_pos h2]
    refine AW.draw (ps:=[(5,10)]) Z Z ?_;refine zC8 ?_;refine WT.idxA (j:=t) (s:=1) hT Z Z Z Z Z Z Z Z Z ht ?_;refine WT.loadAt hT 3 Z Z Z Z Z Z me Z Z hvs1 ?_;refine zC8 ?_;refine WT.buildT hT Z Z Z Z Z Z Z Z Z Z Z Z Z Z (fun i33 hi33=>?_);refine WT.appendT (R:=tAct) (ys:=[(2,x.item.rule)]) hT 3 hub Z (fun _=>rfl) Z Z Z Z Z Z Z Z Z Z Z (fun h0 s0=>news_own hT s0 0 Z Z Z Z) (Cells.single (R:=tAct) (x:=(2,x.item.rule)) rfl) Z (by decide) zom (fun a3 c3 B3 hB3=>?_);refine WT.idxA (j:=t) (s:=1) hT Z Z Z Z Z Z Z Z Z ht ?_;refine WT.storeAt hT 4 0 Z Z Z Z Z Z Z Z Z Z zo Z Z ?_;refine zC8 ?_
    refine⟨zrC,?_⟩;refine⟨⟨u.vs.set (0+t*1) (.slice a3 (u.m+1) c3),a3,u.m+1,c3,B3,u.l++[(2,x.item.rule)]⟩,sM,zow,hB3,?_,?_⟩
    ·dsimp only;rw[huv,List.set_set]
    ·dsimp only;rw[hul,hfm,List.append_assoc,hone];rfl
   ·have h2:x.item.rule=g.rules.length:=by simp at h2;omega
    have hone:actOne g t x=some (3,0):=by unfold actOne;rw[if_pos ⟨han,h⟩,if_neg zo]
    refine zC8 ?_;refine WT.idxA (j:=t) (s:=1) hT Z Z Z Z Z Z Z Z Z ht ?_;refine WT.loadAt hT 3 Z Z Z Z Z Z me Z Z hvs1 ?_;refine zC8 ?_;refine WT.buildT hT Z Z Z Z Z Z Z Z Z Z Z Z Z Z (fun i33 hi33=>?_);refine WT.appendT (R:=tAct) (ys:=[((3,0):Nat×Nat)]) hT 3 hub Z (fun _=>rfl) Z Z Z Z Z Z Z Z Z Z Z (fun h0 s0=>news_own hT s0 0 Z Z Z Z) (Cells.single (R:=tAct) (x:=((3,0):Nat×Nat)) rfl) Z (by decide) zom (fun a3 c3 B3 hB3=>?_);refine WT.idxA (j:=t) (s:=1) hT Z Z Z Z Z Z Z Z Z ht ?_;refine WT.storeAt hT 4 0 Z Z Z Z Z Z Z Z Z Z zo Z Z ?_;refine zC8 ?_
    refine⟨⟨u.vs.set (0+t*1) (.slice a3 (u.m+1) c3),a3,u.m+1,c3,B3,u.l++[((3,0):Nat×Nat)]⟩,sM,zow,hB3,?_,?_⟩
    ·dsimp only;rw[huv,List.set_set]
    ·dsimp only;rw[hul,hfm,List.append_assoc,hone];rfl):p:=h
theorem shE3{p:Prop} (h:p:=by
 intro u F2 hF2 hP;obtain⟨hub,huv,hul⟩:=hP;rw[List.take_of_length_le zo] at hul;have huvl:u.vs.length=g.terms+1:=by rw[huv,List.length_set];exact hvl
 rw[←actsF_eq] at hul;rw[hul] at hub;refine⟨⟨u.vs,bs++u.B⟩,sM,OwnLe.flat (perm_tail3 _ _ _ _),huvl,fun k hk=>?_,fun k h1 h2=>?_⟩
 ·rcases Nat.lt_or_ge k t with h6 | h6
  ·obtain⟨xa,xn,xc,e1,e2⟩:=hold k h6;exact⟨xa,xn,xc,by dsimp only;rw[huv,List.getElem?_set_ne zo];exact e1,fun H h1 h2=>e2 H (hF2.trans h1) fun i b hm=>h2 i b (List.mem_append_left _ hm)⟩
  ·obtain rfl:k=t:=by omega
   exact⟨_,_,_,by dsimp only;rw[huv,Nat.zero_add,Nat.mul_one,List.getElem?_set_self zo],fun H h1 h2=>hub.frozen h1 fun i b hm=>h2 i b (List.mem_append_right _ hm)⟩
 ·dsimp only;rw[huv,List.getElem?_set_ne zo];exact hrest k zo h2):p:=h
theorem shE9{p:Prop} (h:p:=by
 refine zC8 ?_;refine AW.range (S:=AcS) (fun _=>[]) (fun u=>u.B::[(io,.cells false u.vs)]::bs::[(i3,.cells false [.int .i64 g.terms,.int .i64 g.nons,.int .i64 g.start,.slice a m c])]::own)
  (fun k u G=>Bld tAct G u.a u.m u.c u.B u.l∧u.vs=vs.set (0+t*1) (.slice u.a u.m u.c)∧u.l=actPre g row t++(st.take k).filterMap (actOne g t)) n ⟨vs,none,0,0,[],[]⟩
  Z Z Z Z Z Z Z Z Z zo rfl rfl (fun _=>rfl) (fun _=>rfl) sM (OwnLe.flat (List.Perm.refl _)) ⟨Bld.nil_ _ _,hset0.symm,by rw[hpre0];rfl⟩ ?_ ?_
 ·exact shE0
 ·exact shE3):p:=h
theorem actions_spec(F:Frz)(g:Gram)(hg:Valid g){a:Option Addr}{m c:Nat}(hr:Arr tRule F a m c g.rules){b:Option Addr}{n d:Nat}{st:List Look}(hst:Arr tLook F b n d st)(hn:n≤1000)(hok:∀x∈st,OkLr g x.item∧x.set<2 ^ (g.terms+1))
  {rb:Option Addr} {rn rd:Nat} {row:List Int} (hrow:Arr tInt F rb rn rd row) (hrn:g.terms≤rn) :
  Abs.Spec CC 89 [.agg ⟨gramCells g a m c⟩,.slice b n d,.slice rb rn rd] F [] fun F' v o=>o=[]∧∃a' n' c',v=.slice a' n' c'∧Arr (tList tAct) F' a' n' c' ((List.range (g.terms+1)).map fun t=>actsF g st row t):=by
 have hgr:=hg.range.rules;have hgt:=hg.range.terms;have hrl:=hr.len;have hsl:=hst.len;have hrwl:=hrow.len;have hp:=pow_small hg.range.terms.2;have hg4:∀r∈g.rules,r.right.length≤100:=fun r h=>by have:=(hg.right r h).2.1;omega
 unfold gramCells;refine Abs.Spec.fn (n:=102) Tryz.func89 rfl rfl fun own=>?_;refine AW.seq (AW.reg ?_);refine WT.boxT Z Z Z Z Z Z (fun i3 hi3=>?_);refine zC8 ?_;refine WT.makeT (l:=g.terms+1) hT Z Z Z Z Z Z Z Z Z Z Z Z zom (fun io hio=>?_);rw[cap_eq,if_neg (show ¬g.terms+1=0 by omega)];refine zC8 ?_;refine AW.range (S:=P1S) (fun _=>[]) (fun s=>[(io,.cells false s.vs)]::s.bs::[(i3,.cells false [.int .i64 g.terms,.int .i64 g.nons,.int .i64 g.start,.slice a m c])]::own)
  (fun t s G=>s.vs.length=g.terms+1∧(∀k,k<t→∃xa xn xc,s.vs[k]?=some (.slice xa xn xc)∧∀H,Frz.le G H→(∀i b,(i,b)∈s.bs→H i=some b)→Arr tAct H xa xn xc (actsF g st row k))∧∀k,t≤k→k<g.terms+1→s.vs[k]?=some (.slice none 0 0)) (g.terms+1) ⟨List.replicate (g.terms+1) (.slice none 0 0),[]⟩
  Z Z Z Z Z Z Z Z Z zo rfl rfl (fun _=>rfl) (fun _=>rfl) sM (OwnLe.flat (List.Perm.refl _)) ⟨by simp,fun k hk=>absurd hk (Nat.not_lt_zero _),fun k _ hk=>by rw[List.getElem?_replicate,if_pos hk]⟩ ?_ ?_
 ·intro t s F1 hF1 ht hP;obtain⟨hvl,hold,hrest⟩:=hP;obtain⟨vs,bs⟩:=s;dsimp only at hvl hold hrest;have hst1:=hst.mono hF1;have hrow1:=hrow.mono hF1;have htn:=hrest t (Nat.le_refl _) ht;have hset0:vs.set (0+t*1) (.slice none 0 0)=vs:=by
   apply List.ext_getElem?;intro i;by_cases e:i=t
   ·subst e;rw[Nat.zero_add,Nat.mul_one,List.getElem?_set_self zo,htn]
   ·rw[Nat.zero_add,Nat.mul_one,List.getElem?_set_ne (fun e2=>e e2.symm)]
  refine zC8 ?_;refine WT.split 26 Z (fun htt=>?_) (fun htt=>?_)
  ·have htt:t<g.terms:=by simpa using htt
   obtain⟨j,hj⟩:∃j,row[t]?=some j:=⟨_,gE zo⟩;refine zC8 ?_;refine WT.idxL hT hrow1 Z Z Z Z Z Z Z Z Z zo (fun j2 hj2 b7 off7 ro7 cs7 lx7 hb7 hp7 hrel7=>?_);obtain rfl:lx7=_:=hrel7;rw[hj] at hj2;obtain rfl:=Option.some.inj hj2;refine zC8 ?_;refine AW.cond Z (fun h6=>?_) (fun h6=>?_)
   ·have h6:0≤j:=by simpa using h6
    have hpre0:actPre g row t=[(1,j.toNat)]:=by unfold actPre;rw[if_pos htt,hj];dsimp only;rw[if_pos h6]
    obtain⟨jn,rfl⟩:=Int.eq_ofNat_of_zero_le h6;refine AW.le (own2:=[]::[(io,.cells false vs)]::bs::[(i3,.cells false [.int .i64 g.terms,.int .i64 g.nons,.int .i64 g.start,.slice a m c])]::own) (OwnLe.flat (List.Perm.refl _)) ?_;refine AW.draw (ps:=[(5,11)]) Z Z ?_;refine zC8 ?_;refine WT.idxA (j:=t) (s:=1) hT Z Z Z Z Z Z Z Z Z ht ?_;refine WT.loadAt hT 1 Z Z Z Z Z Z me Z Z (v:=.slice none 0 0) (by rw[Nat.zero_add,Nat.mul_one];exact htn) ?_;refine zC8 ?_;refine WT.idxL hT hrow1 Z Z Z Z Z Z Z Z Z zo (fun j3 hj3 b8 off8 ro8 cs8 lx8 hb8 hp8 hrel8=>?_);obtain rfl:lx8=_:=hrel8;rw[hj] at hj3
    obtain rfl:=Option.some.inj hj3;refine zC8 ?_;refine WT.buildT hT Z Z Z Z Z Z Z Z Z Z Z Z Z Z (fun i33 hi33=>?_);refine WT.appendT (R:=tAct) (ys:=[(1,jn)]) hT 1 (Bld.nil_ tAct F1) Z (fun _=>rfl) Z Z Z Z Z Z Z Z Z Z Z (fun h0 s0=>news_own hT s0 0 Z Z Z Z) (Cells.single (R:=tAct) (x:=(1,jn)) rfl) Z (by decide) zom (fun a3 c3 B3 hB3=>?_);refine WT.idxA (j:=t) (s:=1) hT Z Z Z Z Z Z Z Z Z ht ?_;refine WT.storeAt hT 2 0 Z Z Z Z Z Z Z Z Z Z zo Z Z ?_;refine zC8 ?_;refine⟨zrC,?_⟩;refine zC8 ?_
    refine AW.range (S:=AcS) (fun _=>[]) (fun u=>u.B::[(io,.cells false u.vs)]::bs::[(i3,.cells false [.int .i64 g.terms,.int .i64 g.nons,.int .i64 g.start,.slice a m c])]::own)
     (fun k u G=>Bld tAct G u.a u.m u.c u.B u.l∧u.vs=vs.set (0+t*1) (.slice u.a u.m u.c)∧u.l=actPre g row t++(st.take k).filterMap (actOne g t)) n ⟨vs.set (0+t*1) (.slice a3 (0+1) c3),a3,0+1,c3,B3,[]++[(1,jn)]⟩
     Z Z Z Z Z Z Z Z Z zo rfl rfl (fun _=>rfl) (fun _=>rfl) sM (zow) ⟨hB3,rfl,by rw[hpre0];rfl⟩ ?_ ?_
    ·exact shE0
    ·exact shE3
   ·have h6:¬0≤j:=by simpa using h6
    have hpre0:actPre g row t=[]:=by unfold actPre;rw[if_pos htt,hj];dsimp only;rw[if_neg h6]
    exact shE9
  ·have htt:¬t<g.terms:=by simpa using htt
   have hpre0:actPre g row t=[]:=by unfold actPre;rw[if_neg htt]
   refine zC8 ?_;refine AW.cond Z (fun h=>(by cases h)) (fun _=>?_);exact shE9
 ·intro s F1 hF1 hP;obtain⟨hvl,hold,_⟩:=hP;obtain⟨vs,bs⟩:=s;dsimp only at hvl hold;refine AW.le (own2:=((io,.cells false vs)::bs)::[(i3,.cells false [.int .i64 g.terms,.int .i64 g.nons,.int .i64 g.start,.slice a m c])]::own) (OwnLe.flat (List.Perm.refl _)) ?_;refine AW.freezeAll 0 Z Z (fun F2 hF2 hB2=>?_);refine zC8 ?_;refine AW.ret ⟨_,[],⟨_,_,rfl,rfl,rfl⟩,zsb,rfl,_,_,_,rfl,?_⟩;refine⟨by simp,.inr rfl,fun h=>zo,fun h=>(by cases h),fun p hp=>(by cases hp;rfl),fun k x hk=>?_⟩;have hk1:k<g.terms+1:=by have:=(gS hk).1;simpa using this
  rw[List.getElem?_map,List.getElem?_range hk1] at hk;obtain rfl:=Option.some.inj hk;obtain⟨xa,xn,xc,e1,e2⟩:=hold k hk1;have hv:=gS e1;refine⟨io,0,false,vs,[.slice xa xn xc],rfl,hB2 io _ me,?_,_,_,_,rfl,e2 F2 hF2 fun i b hm=>hB2 i b (List.mem_cons_of_mem _ hm)⟩;refine partL_of ?_ rfl;show _=(vs.drop (0+k*1)).take 1;rw[Nat.zero_add,Nat.mul_one,List.drop_eq_getElem_cons hv.1,List.take_succ_cons,List.take_zero,hv.2]
end Go.Proofs.D
set_option linter.unusedVariables false
set_option maxRecDepth 20000
set_option maxHeartbeats 0
open Go Go.Abs Go.Proofs Go.Proofs.D
namespace Go.Abs
end Go.Abs
namespace Go.Proofs.D
theorem nameK_spec(F:Frz){b:Option Addr}{n d:Nat}{l:List Look}(hl:Arr tLook F b n d l)(hn:n≤1000){i6:Nat}{ro:Bool}{fk:Nat}{fnk:Func}(hgk:CC.func fk=some fnk)(hbk:fnk.body.isSome=true)(hi6:F i6=some (.cells ro [.func (.func fk) ⟨[]⟩ ⟨[]⟩]))
  (key:Look→List UInt8) (hlen:∀x∈l,(key x).length≤20) (hkey:∀x∈l,∀G,Frz.le F G→Abs.Spec CC fk [.agg ⟨[.int .i64 x.item.rule,.int .i64 x.item.dot,.int .u32 x.set]⟩] G [] fun _ v o=>o=[]∧v=.string (strB (key x))) :
  Abs.Spec CC 126 [.slice b n d,.pointer (some ⟨i6,0,none⟩)] F [] fun _ v o=>o=[]∧v=.string (strB (nameF key l)):=by
 have hll:=hl.len;have htot:∀j,(nameF key (l.take j)).length≤21*j:=by
  intro j
  induction j with
  | zero=>simp[nameF]
  | succ j ih=>
   rw[List.take_add_one];cases hx:l[j]? with
   | none=>simp;omega
   | some x=>
    rw[Option.toList_some,nameF_snoc,List.length_append,List.length_append,List.length_singleton];have:=hlen x (gM hx);omega
 refine Abs.Spec.fn (n:=21) Tryz.func126 rfl rfl fun own=>?_;refine zC4 ?_;refine AW.range (S:=List UInt8) (fun s=>[(4,.string (strB s))]) (fun _=>own) (fun j s G=>s=nameF key (l.take j)) n [] Z Z Z Z Z Z Z Z Z zo Z Z (fun _=>rfl) (fun _=>rfl) sM oR Z ?_ ?_
 ·intro j s F1 hF1 hj hP;have hl1:=hl.mono hF1;have hi1:=hF1 _ _ hi6;have ht:=htot j;refine zB4 ?_;refine WT.idxL hT hl1 Z Z Z Z Z Z Z Z Z zo (fun x hxj b1 off ro1 cs lx hb1 hp1 hrel=>?_);obtain rfl:lx=_:=hrel;have hxm:=gM hxj;have hxl:=hlen x hxm;refine zB4 ?_;refine WT.allocT hT Z Z Z Z Z Z (fun i9 hi9=>?_);refine zB4 ?_;refine WT.callC (first:=[]) (args:=[.agg ⟨[.int .i64 x.item.rule,.int .i64 x.item.dot,.int .u32 x.set]⟩]) (capt:=[]) hgk hbk Z Z Z Z Z Z Z (hkey x hxm F1 hF1) (fun v hv=>?_)
  exact shE7
 ·intro s F1 hF1 hP;rw[List.take_of_length_le zo] at hP;refine zB4 ?_;exact AW.ret ⟨_,[],⟨_,_,rfl,rfl,rfl⟩,zsb,rfl,by rw[hP];rfl⟩
structure NmOK where
 i:Nat
 sts:List (List Look)
 rows:List (List Int)
 sa:Option Addr
 sn:Nat
 sc:Nat
 SB:List (Nat×Blk)
 ta:Option Addr
 tn:Nat
 tc:Nat
 TB:List (Nat×Blk)
 es:Ents (List UInt8)
structure NmRK where
 sts:List (List Look)
 row:List Int
 sa:Option Addr
 sn:Nat
 sc:Nat
 SB:List (Nat×Blk)
 ra:Option Addr
 rn:Nat
 rc:Nat
 RB:List (Nat×Blk)
 es:Ents (List UInt8)
namespace NK
abbrev zzIK0:=NmOK
abbrev zzIK1:=NmRK
abbrev zzIK2:=Tryz.func82
abbrev zzIK3:=Tryz.func126
abbrev zzIK4:=@nameK_spec
abbrev zzIK5:=tLook
end NK
open NK in
theorem numberK_spec(F:Frz)(g:Gram)(hg:Valid g){ga:Option Addr}{gm gc:Nat}{b:Option Addr}{n d:Nat}{st0:List Look}(h0:Arr tLook F b n d st0)
  {fk fx:Nat} {fnk fnx:Func} {firstx captx:List Value} (hgk:CC.func fk=some fnk) (hbk:fnk.body.isSome=true) (hgx:CC.func fx=some fnx) (hbx:fnx.body.isSome=true)
  (key:Look→List UInt8) (nx:List Look→Sym→Option (List Look)) (P:List Look→Prop) (okx:Look→Prop)
  (hP0:P st0) (hPl:∀s,P s→s.length≤1000∧∀x∈s,okx x) (hinj:∀s s',P s→P s'→nameF key s=nameF key s'→s=s') (hnP:∀s y s',P s→nx s y=some s'→P s')
  (hlen:∀x,okx x→(key x).length≤20) (hkey:∀x,okx x→∀G,Frz.le F G→Abs.Spec CC fk [.agg ⟨[.int .i64 x.item.rule,.int .i64 x.item.dot,.int .u32 x.set]⟩] G [] fun _ v o=>o=[]∧v=.string (strB (key x)))
  (hnext:∀G,Frz.le F G→∀(a:Option Addr) (m c:Nat) (s:List Look) (y:Sym),P s→Arr tLook G a m c s→SymOk g.terms g.nons y→
   Abs.Spec CC fx (firstx++[.slice a m c,.agg ⟨[.bool y.term,.int .i64 y.n]⟩]++captx) G [] fun G' v o=>o=[]∧∃a' n' c' z s',v=.tuple ⟨[.slice a' n' c',.bool z]⟩∧Arr tLook G' a' n' c' s'∧nx s y=if z=true then some s' else none) :
  Abs.Spec CC 82 [.agg ⟨gramCells g ga gm gc⟩,.slice b n d,.func (.func fk) ⟨[]⟩ ⟨[]⟩,.func (.func fx) ⟨firstx⟩ ⟨captx⟩] F [] fun F' v o=>o=[]∧
   ((numF 400 (fun s=>(symsL g).map (nx s)) 401 0 [st0] []=none∧v=.tuple ⟨[.slice none 0 0,.slice none 0 0,.bool false]⟩)∨
    ∃S rows a1 n1 c1 a2 n2 c2,numF 400 (fun s=>(symsL g).map (nx s)) 401 0 [st0] []=some (S,rows)∧v=.tuple ⟨[.slice a1 n1 c1,.slice a2 n2 c2,.bool true]⟩∧Arr (tList tLook) F' a1 n1 c1 S∧Arr (tList tInt) F' a2 n2 c2 rows):=shIKnumber_spec
theorem intClone_spec(F:Frz){a:Option Addr}{m c:Nat}{xs:List Int}(hx:Arr tInt F a m c xs)(hm:m≤1000000) :
  Abs.Spec CC 66 [.slice a m c] F [] fun F' v o=>∃B',o=[B']∧∃a' c',v=.slice a' m c'∧Vec tInt F' a' m c' B' xs:=by
 refine Abs.Spec.fn (n:=8) Tryz.func66 rfl rfl fun own=>?_;refine zB4 ?_;refine WT.sliceNil hT Z Z Z Z Z Z Z Z ?_;refine zB4 ?_;refine AW.cond Z (fun h=>?_) (fun h=>?_)
 ·exact shE8
 ·refine zB4 ?_;refine WT.buildT hT Z Z Z Z Z Z Z Z Z Z Z Z Z Z (fun i5 hi5=>?_);refine zB4 ?_;obtain⟨ds,hds,hcs⟩:=news_arr hT hx (t:=22) rfl rfl 3;exact shE10
def PK(g:Gram)(st:List Look):Prop:=st.length≤1000∧∀x∈st,OkLr g x.item∧x.set<2 ^ (g.terms+1)
theorem closeK_PK{g:Gram}(hg:Valid g)(l:List Look):PK g (closeK g l):=by
 refine⟨?_,fun x hx=>⟨?_,closeK_small x hx⟩⟩
 ·have:=(closL_PI hg (itemsK l)).1;rw[←closeK_items] at this;unfold itemsK at this
  rwa [List.length_map] at this
 ·have:x.item∈itemsK (closeK g l):=List.mem_map.2 ⟨x,hx,rfl⟩;rw[closeK_items] at this;exact closL_ok _ this
theorem nextK_PK{g:Gram}(hg:Valid g){s:List Look}{y:Sym}{s':List Look}(h:nextK g s y=some s'):PK g s':=by
 unfold nextK at h;split at h
 ·cases h
 ·obtain rfl:=Option.some.inj h;exact closeK_PK hg _
theorem autoI_PI{g:Gram}(hg:Valid g){I:List (List Lr)}{rows:List (List Int)}(h:autoI g=some (I,rows)):∀st∈I,PI g st:=fun st hst=>by
 obtain⟨k,hk⟩:=List.getElem?_of_mem hst
 exact(autoI_ok h).2.all (P:=PI g) (closL_PI hg _) (fun st s _ hs=>by
  obtain⟨y,_,hy⟩:=List.mem_map.1 hs;split at hy
  ·cases hy
  ·obtain rfl:=Option.some.inj hy;exact closL_PI hg _) k st hk
theorem statesF_PK{g:Gram}(hg:Valid g){method:Nat}{S:List (List Look)}{rows:List (List Int)}(h:statesF g method=some (S,rows)):∀st∈S,PK g st:=by
 intro st hst;obtain⟨k,hk⟩:=List.getElem?_of_mem hst;unfold statesF at h;split at h
 ·exact(autoK_ok h).2.all (P:=PK g) (closeK_PK hg _) (fun st s _ hs=>by
   obtain⟨y,_,hy⟩:=List.mem_map.1 hs;exact nextK_PK hg (s:=st) (y:=y) hy) k st hk
 ·cases hA:autoI g with
  | none=>rw[hA] at h;cases h
  | some a=>
   obtain⟨I,rows0⟩:=a;rw[hA] at h;have e:=Option.some.inj h;simp only[Prod.mk.injEq] at e;obtain⟨rfl,rfl⟩:=e;rw[lookS_at] at hk;cases hI:I[k]? with
   | none=>rw[hI] at hk;cases hk
   | some st0=>
    rw[hI] at hk;obtain rfl:=Option.some.inj hk;obtain⟨h1,h2⟩:=autoI_PI hg hA st0 (gM hI);refine⟨by simpa using h1,fun x hx=>?_⟩;obtain⟨z,hz,rfl⟩:=List.mem_map.1 hx;exact⟨h2 z hz,maskOf_lt _ _⟩
structure AlS where
 a:Option Addr
 m:Nat
 c:Nat
 B:List (Nat×Blk)
 a2:Option Addr
 m2:Nat
 c2:Nat
 B2:List (Nat×Blk)
theorem autoK_few{g:Gram}{method:Nat}{S:List (List Look)}{rows:List (List Int)}(h:statesF g method=some (S,rows)):S.length≤400:=by
 unfold statesF at h;split at h
 ·exact(autoK_ok h).2.few
 ·cases hA:autoI g with
  | none=>rw[hA] at h;cases h
  | some a=>
   obtain⟨I,rows0⟩:=a;rw[hA] at h;have e:=Option.some.inj h;simp only[Prod.mk.injEq] at e;obtain⟨rfl,rfl⟩:=e;have:=(autoI_ok hA).2.few;have e2:=congrArg List.length (lookS_items (g:=g) (I:=I) (la:=if method=1 then fun _=>FolA g else LalA g I rows0));rw[List.length_map] at e2;rw[e2];exact this
theorem shE1{p:Prop} (h:p:=by
 intro j s F8 hF8 hj hP;obtain⟨hb,hb2⟩:=hP;have hS8:=hS.mono hF8;have hRw8:=hRw.mono hF8;have hr8:=hrG.mono hF8;have hi8:=hF8 _ _ hiG;have hal:(allF g S rows).length=S.length:=by unfold allF;simp
 have hbl:=hb.len;have hbl2:=hb2.len;rw[List.length_take] at hbl;rw[List.length_take,List.length_map] at hbl2;refine zC4 ?_;refine WT.idxL hT hS8 Z Z Z Z Z Z Z Z Z zo (fun st hsj b1 off1 ro1 cs1 lx1 hb1 hp1 hrel1=>?_);obtain⟨sa,sn,sc,rfl,hsta⟩:=hrel1;have hsl:=hsta.len;obtain⟨hP1,hP2⟩:=hSP st (gM hsj);refine zC4 ?_;refine AW.draw (ps:=[(14,7),(14,8),(14,9),(16,7),(16,8),(16,9),(17,7),(17,8),(17,9)]) Z Z ?_;refine zC4 ?_;refine WT.idxL hT hRw8 Z Z Z Z Z Z Z Z Z zo (fun row hrj b3 off3 ro3 cs3 lx3 hb3 hp3 hrel3=>?_);obtain⟨ra,rn,rc,rfl,hrow⟩:=hrel3;have hrowl:=hrow.len
 have hrow2:row.length=g.terms+g.nons:=hAC.row j (itemsK st) row (by rw[List.getElem?_map,hsj];rfl) hrj;refine zC4 ?_;have hac:=actions_spec F8 g hg hr8 hsta zo hP2 hrow zo;unfold gramCells at hac;refine WT.callF0 Tryz.func89 Z Z Z Z Z Z hac (fun F9 v hF9 hv=>?_);obtain⟨xa,xn,xc,rfl,hx⟩:=hv;have hall:(allF g S rows).take (j+1)=(allF g S rows).take j++[(List.range (g.terms+1)).map fun t=>actsF g st row t]:=by
  have e:(allF g S rows)[j]?=some ((List.range (g.terms+1)).map fun t=>actsF g st row t):=by
   unfold allF;rw[map_at (List.getElem?_range (show j<S.length by omega)),getD_some hsj,getD_some hrj]
  rw[List.take_add_one,e];rfl
 have hrw:(rows.map (·.drop g.terms)).take (j+1)=(rows.map (·.drop g.terms)).take j++[row.drop g.terms]:=by
  rw[List.take_add_one,map_at hrj];rfl
 refine WT.buildT hT Z Z Z Z Z Z Z Z Z Z Z Z Z Z (fun i33 hi33=>?_);refine WT.appendT (R:=tList (tList tAct)) (ys:=[(List.range (g.terms+1)).map fun t=>actsF g st row t]) hT 1 (hb.mono hF9) Z (fun _=>rfl) Z Z Z Z Z Z Z Z Z Z Z (fun h0 s0=>news_own hT s0 0 Z Z Z Z) (Cells.single (R:=tList (tList tAct)) (x:=(List.range (g.terms+1)).map fun t=>actsF g st row t) ⟨_,_,_,rfl,hx⟩) Z (by decide) zom (fun a3 c3 B3 hB3=>?_);refine zC4 ?_;obtain⟨b4,off4,ro4,cs4,lx4,hba,hb4,hp4,hrel4⟩:=hRw8.el j row hrj;obtain⟨ra',rn',rc',rfl,hrow'⟩:=hrel4;have hrow':=hrow'.mono hF9;have hb49:=hF9 _ _ hb4;subst hba
 refine WT.idxA (j:=j) (s:=1) hT Z Z Z Z Z Z Z Z Z zo ?_;have hrowl':=hrow'.len;have hi9:=hF9 _ _ hi8;refine zC4 ?_;obtain⟨qa,qc,hrs2,hqa⟩:=hrow'.slice (C:=CC) (lo:=g.terms) (hi:=rn') zo (Nat.le_refl _) hT (t:=22) Z Z Z (some (.int .i64 ((g.terms:Nat):Int))) none (by simp[boundA]) rfl;refine WT.slice Z Z Z Z Z Z Z Z hrs2 ?_;rw[List.take_of_length_le zo] at hqa;refine WT.callN Tryz.func66 Z Z Z Z Z Z (intClone_spec F9 hqa zo) (fun F10 v B10 hF10 hv=>?_);obtain⟨ca,cc,rfl,hv⟩:=hv;refine WT.freezeAll 0 Z Z (fun F11 hF11 hB11=>?_);have hcl:=hv.arr hF11 hB11;have hrl2:rows.length≤400:=by omega
 refine WT.buildT hT Z Z Z Z Z Z Z Z Z Z Z Z Z Z (fun i34 hi34=>?_);refine WT.appendT (R:=tList tInt) (ys:=[row.drop g.terms]) hT 4 (((hb2.mono hF9).mono hF10).mono hF11) Z (fun _=>rfl) Z Z Z Z Z Z Z Z Z Z Z (fun h0 s0=>news_own hT s0 0 Z Z Z Z) (Cells.single (R:=tList tInt) (x:=row.drop g.terms) ⟨_,_,_,rfl,hcl⟩) Z (by decide) zom (fun a5 c5 B5 hB5=>?_);refine zC4 ?_;refine⟨zrC,?_⟩;refine⟨⟨a3,s.m+1,c3,B3,a5,s.m2+1,c5,B5⟩,sM,zow,?_,?_⟩
 ·dsimp only;rw[hall];exact(hB3.mono hF10).mono hF11
 ·dsimp only;rw[hrw];exact hB5):p:=h
theorem shE4{p:Prop} (h:p:=by
 have hSR:=statesF_ok hg hst;have hSP:=statesF_PK hg hst;have hSf:=autoK_few hst;have hAC:=hSR.1;have hRl:=hRw.len;have hSl:=hS.len;have hrs:rows.length=S.length:=by have:=hAC.len;rwa [List.length_map] at this
 refine zC4 ?_;refine AW.range (S:=AlS) (fun s=>[(14,.slice s.a s.m s.c),(15,.slice s.a2 s.m2 s.c2)]) (fun s=>s.B::s.B2::[(i12,.cells false [.slice b1 m1 d1,.slice b2 m2 d2])]::[]::own) (fun j s G=>Bld (tList (tList tAct)) G s.a s.m s.c s.B ((allF g S rows).take j)∧Bld (tList tInt) G s.a2 s.m2 s.c2 s.B2 ((rows.map (·.drop g.terms)).take j)) n1 ⟨none,0,0,[],none,0,0,[]⟩
  Z Z Z Z Z Z Z Z Z zo rfl rfl (fun _=>rfl) (fun _=>rfl) sM (OwnLe.flat (List.Perm.refl _)) ⟨Bld.nil_ _ _,Bld.nil_ _ _⟩ ?_ ?_
 ·exact shE1
 ·intro s F8 hF8 hP;obtain⟨hb,hb2⟩:=hP;have hal:(allF g S rows).length=S.length:=by unfold allF;simp
  rw[List.take_of_length_le zo] at hb;rw[List.take_of_length_le (by rw[List.length_map];omega)] at hb2;refine AW.freezeAll 0 Z Z (fun F9 hF9 hB9=>?_);have h1:=hb.frozen hF9 hB9;refine AW.freezeAll 1 Z Z (fun F10 hF10 hB10=>?_);have h2:=(hb2.mono hF9).frozen hF10 hB10;refine zC4 ?_;exact AW.ret ⟨_,[],⟨_,_,rfl,⟨_,_,rfl,⟨_,_,rfl,rfl,rfl⟩,rfl⟩,rfl⟩,zsb,rfl,.inr ⟨S,rows,_,_,_,_,_,_,hst,rfl,h1.mono hF10,h2⟩⟩):p:=h
theorem all_spec(F:Frz)(g:Gram)(hg:Valid g)(ht5:g.terms≤5)(method:Nat)(hm:method=1∨method=2∨method=3){a:Option Addr}{m c:Nat}(hr:Arr tRule F a m c g.rules) :
  Abs.Spec CC 46 [.agg ⟨gramCells g a m c⟩,.int .i64 method] F [] fun F' v o=>o=[]∧((statesF g method=none∧v=.tuple ⟨[.slice none 0 0,.slice none 0 0,.int .i64 2]⟩)∨
   ∃S rows a1 n1 c1 a2 n2 c2,statesF g method=some (S,rows)∧v=.tuple ⟨[.slice a1 n1 c1,.slice a2 n2 c2,.int .i64 0]⟩∧Arr (tList (tList tAct)) F' a1 n1 c1 (allF g S rows)∧Arr (tList tInt) F' a2 n2 c2 (rows.map (·.drop g.terms))):=by
 have hgr:=hg.range.rules;have hgt:=hg.range.terms;have hgn:=hg.range.nons;have hrl:=hr.len;have hp:=pow_small hg.range.terms.2;have hp6:2 ^ (g.terms+1)≤64:=Nat.le_trans (Nat.pow_le_pow_right (by decide) (show g.terms+1≤6 by omega)) (by decide);have okK:∀{x:Look},(OkLr g x.item∧x.set<2 ^ (g.terms+1))→(x.item.rule<100∧x.item.dot<100)∧x.set<100:=fun h=>⟨okI hg h.1,by omega⟩;refine Abs.Spec.fn (n:=98) Tryz.func46 rfl rfl fun own=>?_;refine AW.seq (AW.reg ?_);refine WT.boxT Z Z Z Z Z Z (fun i2 hi2=>?_);refine WT.freezeAll 0 Z Z (fun F0 hF0 hB0=>?_);have hi2:=hB0 i2 _ me;have hr:=hr.mono hF0
 unfold gramCells at hi2 ⊢;refine zC4 ?_;have hck:=check_spec F0 g hg.range hr;unfold gramCells at hck;refine WT.callV Tryz.func35 Z Z Z Z Z Z hck (fun v hv=>?_);rw[hg.no_err] at hv;subst hv;refine zC4 ?_;refine AW.cond Z (fun h=>(by cases h)) (fun _=>?_);rcases hm with rfl | rfl | rfl
 ·refine zC4 ?_;refine AW.cond Z (fun h=>(by cases h)) (fun _=>?_);refine zC4 ?_;have hmk:=newMaker_spec F0 g hg hr;unfold gramCells at hmk;refine WT.callF0 Tryz.func81 Z Z Z Z Z Z hmk (fun F1 v hF1 hv=>?_);obtain⟨im,E,Fi,is,eb,ee,rfl,hM⟩:=hv;have hr1:=hr.mono hF1;have hi21:=hF1 _ _ hi2;refine zC4 ?_;refine AW.cond Z (fun h=>(by cases h)) (fun _=>?_);refine zC4 ?_;have hof:=itemsOf2_spec F1 g hg hr1;unfold gramCells at hof;refine WT.callF0 Tryz.func86 Z Z Z Z Z Z hof (fun F2 v hF2 hv=>?_);have hM2:=hM.mono hF2;rcases hv with ⟨hA,rfl⟩ | ⟨I,rows,b1,m1,d1,b2,m2,d2,hA,rfl,hI,hRw⟩
  ·have hst:statesF g 1=none:=by unfold statesF;rw[if_neg (by decide),hA];rfl
   refine zC4 ?_;refine WT.allocT hT Z Z Z Z Z Z (fun i12 hi12=>?_);refine zC4 ?_;refine AW.cond Z (fun _=>?_) (fun h=>(by cases h));refine zC4 ?_;exact AW.ret ⟨_,[],⟨_,_,rfl,⟨_,_,rfl,⟨_,_,rfl,rfl,rfl⟩,rfl⟩,rfl⟩,zsb,rfl,.inl ⟨hst,rfl⟩⟩
  ·refine zC4 ?_;refine WT.allocT hT Z Z Z Z Z Z (fun i12 hi12=>?_);refine zC4 ?_;refine AW.cond Z (fun h=>(by cases h)) (fun _=>?_);refine zC4 ?_;have hIf:=(autoI_ok hA).2.few;have hIl:=hI.len;refine WT.callF0 Tryz.func87 Z Z Z Z Z Z (slr_spec F2 g hg hM2 (a2:=b2) (n2:=m2) (c2:=d2) hI zo (autoI_PI hg hA)) (fun F3 v hF3 hv=>?_);obtain⟨a1,n1,c1,rfl,hS⟩:=hv;refine zC4 ?_;refine AW.cond Z (fun h=>(by cases h)) (fun _=>?_);have hst:statesF g 1=some (lookS g I (fun _=>FolA g),rows):=by unfold statesF;rw[if_neg (by decide),hA];rfl
   generalize lookS g I (fun _=>FolA g)=S at hS hst;have hRw:=hRw.mono hF3;have hrG:=(hr1.mono hF2).mono hF3;have hiG:=hF3 _ _ (hF2 _ _ hi21);exact shE4
 ·refine zC4 ?_;refine AW.cond Z (fun h=>(by cases h)) (fun _=>?_);refine zC4 ?_;have hmk:=newMaker_spec F0 g hg hr;unfold gramCells at hmk;refine WT.callF0 Tryz.func81 Z Z Z Z Z Z hmk (fun F1 v hF1 hv=>?_);obtain⟨im,E,Fi,is,eb,ee,rfl,hM⟩:=hv;have hr1:=hr.mono hF1;have hi21:=hF1 _ _ hi2;refine zC4 ?_;refine AW.cond Z (fun h=>(by cases h)) (fun _=>?_);refine zC4 ?_;have hof:=itemsOf2_spec F1 g hg hr1;unfold gramCells at hof;refine WT.callF0 Tryz.func86 Z Z Z Z Z Z hof (fun F2 v hF2 hv=>?_);have hM2:=hM.mono hF2;rcases hv with ⟨hA,rfl⟩ | ⟨I,rows,b1,m1,d1,b2,m2,d2,hA,rfl,hI,hRw⟩
  ·have hst:statesF g 2=none:=by unfold statesF;rw[if_neg (by decide),hA];rfl
   refine zC4 ?_;refine WT.allocT hT Z Z Z Z Z Z (fun i12 hi12=>?_);refine zC4 ?_;refine AW.cond Z (fun _=>?_) (fun h=>(by cases h));refine zC4 ?_;exact AW.ret ⟨_,[],⟨_,_,rfl,⟨_,_,rfl,⟨_,_,rfl,rfl,rfl⟩,rfl⟩,rfl⟩,zsb,rfl,.inl ⟨hst,rfl⟩⟩
  ·refine zC4 ?_;refine WT.allocT hT Z Z Z Z Z Z (fun i12 hi12=>?_);refine zC4 ?_;refine AW.cond Z (fun h=>(by cases h)) (fun _=>?_);refine zC4 ?_;have hIf:=(autoI_ok hA).2.few;have hIl:=hI.len;refine WT.callF0 Tryz.func87 Z Z Z Z Z Z (slr_spec F2 g hg hM2 (a2:=b2) (n2:=m2) (c2:=d2) hI zo (autoI_PI hg hA)) (fun F3 v hF3 hv=>?_);obtain⟨a1,n1,c1,rfl,hS⟩:=hv;refine zC4 ?_;refine AW.cond Z (fun _=>?_) (fun h=>(by cases h));refine zC4 ?_;refine WT.callF0 Tryz.func88 Z Z Z Z Z Z (lalr_spec F3 g hg (hM2.mono hF3) hA (hI.mono hF3) (hRw.mono hF3)) (fun F4 v hF4 hv=>?_);clear hS
   obtain⟨a1,n1,c1,rfl,hS⟩:=hv;have hst:statesF g 2=some (lookS g I (LalA g I rows),rows):=by unfold statesF;rw[if_neg (by decide),hA];rfl
   generalize lookS g I (LalA g I rows)=S at hS hst;have hRw:=(hRw.mono hF3).mono hF4;have hrG:=((hr1.mono hF2).mono hF3).mono hF4;have hiG:=hF4 _ _ (hF3 _ _ (hF2 _ _ hi21));exact shE4
 ·refine zC4 ?_;refine AW.cond Z (fun h=>(by cases h)) (fun _=>?_);refine zC4 ?_;have hmk:=newMaker_spec F0 g hg hr;unfold gramCells at hmk;refine WT.callF0 Tryz.func81 Z Z Z Z Z Z hmk (fun F1 v hF1 hv=>?_);obtain⟨im,E,Fi,is,eb,ee,rfl,hM⟩:=hv;have hr1:=hr.mono hF1;have hi21:=hF1 _ _ hi2;refine zC4 ?_;refine AW.cond Z (fun _=>?_) (fun h=>(by cases h));refine zC4 ?_;refine AW.draw (ps:=[(0,2)]) Z Z ?_;refine zC4 ?_;refine WT.callF0 Tryz.func83 Z Z Z Z Z Z (startK_spec F1 g hg hM) (fun F2 v hF2 hv=>?_);obtain⟨fa,fn,fc,rfl,hfk⟩:=hv;have hM2:=hM.mono hF2;refine zC4 ?_
  have hnm:=numberK_spec F2 g hg (ga:=a) (gm:=m) (gc:=c) hfk (fk:=84) (fx:=85) (firstx:=[.pointer (some ⟨im,0,none⟩)]) (captx:=[]) Tryz.func84 rfl Tryz.func85 rfl
   keyLk (nextK g) (PK g) (fun x=>(x.item.rule<100∧x.item.dot<100)∧x.set<100) (closeK_PK hg _) (fun s hs=>⟨hs.1,fun x hx=>okK (hs.2 x hx)⟩)
   (fun s s' hs hs' e=>nameK_inj (fun x hx=>okK (hs.2 x hx)) (fun x hx=>okK (hs'.2 x hx)) e)
   (fun s y s' _ e=>nextK_PK hg e)
   (fun x _=>by have:=keyLk_len x;omega) (fun x hx G _=>keyLk_spec G x hx.1 hx.2)
   (fun G hG a' m' c' s y hs hA hy=>after_spec G g hg (hM2.mono hG) hA (hA.len▸hs.1) hs.2 y)
  unfold gramCells at hnm;refine WT.callF0 Tryz.func82 Z Z Z Z Z Z hnm (fun F3 v hF3 hv=>?_);rcases hv with ⟨hno,rfl⟩ | ⟨S,rows,a1,n1,c1,b2,m2,d2,hyes,rfl,hS,hRw⟩
  ·have hst:statesF g 3=none:=hno;refine zC4 ?_;refine⟨zrC,?_⟩;refine zC4 ?_;refine AW.cond Z (fun _=>?_) (fun h=>(by cases h));refine zC4 ?_;exact AW.ret ⟨_,[],⟨_,_,rfl,⟨_,_,rfl,⟨_,_,rfl,rfl,rfl⟩,rfl⟩,rfl⟩,zsb,rfl,.inl ⟨hst,rfl⟩⟩
  ·have hst:statesF g 3=some (S,rows):=hyes;refine zC4 ?_;refine⟨zrC,?_⟩;refine zC4 ?_;refine AW.cond Z (fun h=>(by cases h)) (fun _=>?_);have hrG:=(hr1.mono hF2).mono hF3;have hiG:=hF3 _ _ (hF2 _ _ hi21);have hSR:=statesF_ok hg hst;have hSP:=statesF_PK hg hst;have hSf:=autoK_few hst;have hAC:=hSR.1;have hRl:=hRw.len;have hSl:=hS.len;have hrs:rows.length=S.length:=by have:=hAC.len;rwa [List.length_map] at this
   refine zC4 ?_;refine AW.range (S:=AlS) (fun s=>[(14,.slice s.a s.m s.c),(15,.slice s.a2 s.m2 s.c2)]) (fun s=>s.B::s.B2::[]::own) (fun j s G=>Bld (tList (tList tAct)) G s.a s.m s.c s.B ((allF g S rows).take j)∧Bld (tList tInt) G s.a2 s.m2 s.c2 s.B2 ((rows.map (·.drop g.terms)).take j)) n1 ⟨none,0,0,[],none,0,0,[]⟩
    Z Z Z Z Z Z Z Z Z zo rfl rfl (fun _=>rfl) (fun _=>rfl) sM (OwnLe.flat (List.Perm.refl _)) ⟨Bld.nil_ _ _,Bld.nil_ _ _⟩ ?_ ?_
   ·exact shE1
   ·intro s F8 hF8 hP;obtain⟨hb,hb2⟩:=hP;have hal:(allF g S rows).length=S.length:=by unfold allF;simp
    rw[List.take_of_length_le zo] at hb;rw[List.take_of_length_le (by rw[List.length_map];omega)] at hb2;refine AW.freezeAll 0 Z Z (fun F9 hF9 hB9=>?_);have h1:=hb.frozen hF9 hB9;refine AW.freezeAll 1 Z Z (fun F10 hF10 hB10=>?_);have h2:=(hb2.mono hF9).frozen hF10 hB10;refine zC4 ?_;exact AW.ret ⟨_,[],⟨_,_,rfl,⟨_,_,rfl,⟨_,_,rfl,rfl,rfl⟩,rfl⟩,rfl⟩,zsb,rfl,.inr ⟨S,rows,_,_,_,_,_,_,hst,rfl,h1.mono hF10,h2⟩⟩
def tConf:Ty (Nat×Nat×List (Nat×Nat)) where
 size:=3
 rel:=fun F l x=>∃a n c,l=[.int .i64 x.1,.int .i64 x.2.1,.slice a n c]∧Arr tAct F a n c x.2.2
 len:=fun _ _ _ h=>by obtain⟨a,n,c,rfl,_⟩:=h;rfl
 one:=fun _ _ _ h=>by obtain⟨a,n,c,rfl,_⟩:=h;rfl
 mono:=fun _ _ _ _ hF h=>by obtain⟨a,n,c,e,h⟩:=h;exact⟨a,n,c,e,h.mono hF⟩
def headA(l:List (Nat×Nat)):Nat×Nat:=l.head?.getD (0,0)
def confsTo(all:List (List (List (Nat×Nat))))(j:Nat):List (Nat×Nat×List (Nat×Nat)):=((List.range j).map fun s=>confRow s (all.getD s []) (all.getD s []).length).flatten
theorem confRow_succ(s:Nat)(row:List (List (Nat×Nat)))(k:Nat):confRow s row (k+1)=confRow s row k++(if 1<(row.getD k []).length then [(s,k,row.getD k [])] else []):=by
 unfold confRow;rw[List.range_succ,List.filterMap_append];congr 1;rw[List.filterMap_cons];split
 ·rename_i h;split at h
  ·cases h
  ·rw[if_neg (by assumption)];rfl
 ·rename_i b h;split at h
  ·obtain rfl:=Option.some.inj h;rw[if_pos (by assumption)];rfl
  ·cases h
theorem confRow_few(s:Nat)(row:List (List (Nat×Nat)))(k:Nat):(confRow s row k).length≤k:=by
 unfold confRow;exact Nat.le_trans (List.length_filterMap_le _ _) (by rw[List.length_range];exact Nat.le_refl _)
theorem confsTo_succ(all:List (List (List (Nat×Nat))))(j:Nat):confsTo all (j+1)=confsTo all j++confRow j (all.getD j []) (all.getD j []).length:=by
 unfold confsTo;rw[List.range_succ,List.map_append,List.flatten_append];simp
theorem confsTo_few(all:List (List (List (Nat×Nat))))(hall:∀r∈all,r.length≤6):∀j,(confsTo all j).length≤j*6
 | 0=>Nat.zero_le _
 | j+1=>by
  rw[confsTo_succ,List.length_append,Nat.succ_mul];have h1:=confsTo_few all hall j;have h2:=confRow_few j (all.getD j []) (all.getD j []).length;have h3:(all.getD j []).length≤6:=by
   rw[List.getD_eq_getElem?_getD];cases hx:all[j]? with
   | none=>exact Nat.zero_le _
   | some r=>exact hall r (gM hx)
  omega
def TabV(F:Frz)(method:Nat)(T:Tab)(v:Value):Prop:=∃a1 n1 c1 a2 n2 c2 a3 n3 c3,v=.agg ⟨[.int .i64 method,.slice a1 n1 c1,.slice a2 n2 c2,.slice a3 n3 c3]⟩∧
 Arr (tList tAct) F a1 n1 c1 T.act∧Arr (tList tInt) F a2 n2 c2 T.go∧Arr tConf F a3 n3 c3 T.conf
theorem TabV.mono{F G:Frz}{method:Nat}{T:Tab}{v:Value}(h:TabV F method T v)(hF:Frz.le F G):TabV G method T v:=by
 obtain⟨a1,n1,c1,a2,n2,c2,a3,n3,c3,e,h1,h2,h3⟩:=h;exact⟨a1,n1,c1,a2,n2,c2,a3,n3,c3,e,h1.mono hF,h2.mono hF,h3.mono hF⟩
theorem of_spec(F:Frz)(g:Gram)(hg:Valid g)(ht5:g.terms≤5)(method:Nat)(hm:method=1∨method=2∨method=3){a:Option Addr}{m c:Nat}(hr:Arr tRule F a m c g.rules) :
  Abs.Spec CC 18 [.agg ⟨gramCells g a m c⟩,.int .i64 method] F [] fun F' v o=>o=[]∧((tableF g method=none∧v=.tuple ⟨[.agg ⟨[.int .i64 0,.slice none 0 0,.slice none 0 0,.slice none 0 0]⟩,.int .i64 2]⟩)∨
   ∃T x,tableF g method=some T∧v=.tuple ⟨[x,.int .i64 0]⟩∧TabV F' method T x):=by
 have hrl:=hr.len;have hmb:method≤3:=by omega
 unfold gramCells;refine Abs.Spec.fn (n:=76) Tryz.func18 rfl rfl fun own=>?_;refine AW.seq (AW.reg ?_);refine WT.boxT Z Z Z Z Z Z (fun i2 hi2=>?_);refine WT.freezeAll 0 Z Z (fun F0 hF0 hB0=>?_);have hi2:=hB0 i2 _ me;have hr:=hr.mono hF0;refine WT.allocT hT Z Z Z Z Z Z (fun i4 hi4=>?_);refine zC4 ?_;have hal:=all_spec F0 g hg ht5 method hm hr;unfold gramCells at hal;refine WT.callF0 Tryz.func46 Z Z Z Z Z Z hal (fun F1 v hF1 hv=>?_);rcases hv with ⟨hst,rfl⟩ | ⟨S,rows,a1,n1,c1,a2,n2,c2,hst,rfl,h1,h2⟩
 ·refine zC4 ?_;refine AW.cond Z (fun _=>?_) (fun h=>(by cases h));refine zC4 ?_;refine AW.ret ⟨_,[],⟨_,_,⟨_,rfl,fun G h0 s0=>loadA_cells (s0.has (p:=0) Z me) (readT_ok hT rfl)⟩,⟨_,_,rfl,rfl,rfl⟩,rfl⟩,zsb,rfl,.inl ⟨by unfold tableF;rw[hst];rfl,rfl⟩⟩
 ·refine zC4 ?_;refine AW.cond Z (fun h=>(by cases h)) (fun _=>?_);refine zC4 ?_;refine WT.allocT hT Z Z Z Z Z Z (fun i9 hi9=>?_);refine zC4 ?_;have hfew:=autoK_few hst;have hall6:∀r∈allF g S rows,r.length≤6:=fun r hr=>by
   unfold allF at hr;obtain⟨s,_,rfl⟩:=List.mem_map.1 hr;simp only[List.length_map,List.length_range];omega
  have halen:(allF g S rows).length≤400:=by unfold allF;simpa using hfew
  have hsm:∀r∈allF g S rows,∀l∈r,l.length≤1001:=fun r hr l hl=>by
   unfold allF at hr;obtain⟨s,hs,rfl⟩:=List.mem_map.1 hr;obtain⟨t,_,rfl⟩:=List.mem_map.1 hl;have hs:=List.mem_range.1 hs;have h1:=(statesF_PK hg hst (S.getD s []) (by rw[getD_some (gE hs)];exact List.getElem_mem hs)).1;have h2:=actPre_len (g:=g) (row:=rows.getD s []) (t:=t);have h3:=List.length_filterMap_le (actOne g t) (S.getD s []);rw[actsF_eq,List.length_append];omega
  have hT2:tableF g method=some (tabF (allF g S rows) (rows.map (·.drop g.terms))):=by unfold tableF;rw[hst];rfl
  generalize allF g S rows=all at h1 hall6 halen hsm hT2;have hn1:=h1.len;refine AW.range (S:=AlS) (fun s=>[]) (fun s=>[(i9,.cells false [.int .i64 method,.slice s.a s.m s.c,.slice a2 n2 c2,.slice s.a2 s.m2 s.c2])]::s.B::s.B2::[(i4,.cells false [.int .i64 0,.slice none 0 0,.slice none 0 0,.slice none 0 0])]::[]::own) (fun j s G=>Bld (tList tAct) G s.a s.m s.c s.B ((all.take j).map (·.map headA))∧Bld tConf G s.a2 s.m2 s.c2 s.B2 (confsTo all j)) n1 ⟨none,0,0,[],none,0,0,[]⟩
   Z Z Z Z Z Z Z Z Z zo rfl rfl (fun _=>rfl) (fun _=>rfl) sM (OwnLe.flat (List.Perm.refl _)) ⟨Bld.nil_ _ _,Bld.nil_ _ _⟩ ?_ ?_
  ·intro j s F2 hF2 hj hP;obtain⟨hb,hb2⟩:=hP;have h12:=h1.mono hF2;have hbl:=hb.len;rw[List.length_map,List.length_take] at hbl;refine zC4 ?_;refine WT.idxL hT h12 Z Z Z Z Z Z Z Z Z zo (fun row hrj b1 off1 ro1 cs1 lx1 hb1 hp1 hrel1=>?_);obtain⟨ra,rn,rc,rfl,hrow⟩:=hrel1;have hrl:=hrow.len;have hr6:=hall6 row (gM hrj);have hrs:=hsm row (gM hrj);have hcf:=confsTo_few all hall6 j;have hgd:all.getD j []=row:=getD_some hrj;refine zC4 ?_
   refine AW.range (S:=AlS) (fun u=>[(12,.slice u.a u.m u.c)]) (fun u=>u.B::[(i9,.cells false [.int .i64 method,.slice s.a s.m s.c,.slice a2 n2 c2,.slice u.a2 u.m2 u.c2])]::s.B::u.B2::[(i4,.cells false [.int .i64 0,.slice none 0 0,.slice none 0 0,.slice none 0 0])]::[]::own) (fun k u G=>Bld tAct G u.a u.m u.c u.B ((row.take k).map headA)∧Bld tConf G u.a2 u.m2 u.c2 u.B2 (confsTo all j++confRow j row k)) rn ⟨none,0,0,[],s.a2,s.m2,s.c2,s.B2⟩
    Z Z Z Z Z Z Z Z Z zo rfl rfl (fun _=>rfl) (fun _=>rfl) sM (OwnLe.flat (List.Perm.refl _)) ⟨Bld.nil_ _ _,by rw[show confRow j row 0=[] from rfl,List.append_nil];exact hb2⟩ ?_ ?_
   ·intro k u F3 hF3 hk hP;obtain⟨hu,hu2⟩:=hP;have hrow3:=hrow.mono hF3;have hul:=hu.len;have hul2:=hu2.len;have hcr:=confRow_few j row k;rw[List.length_map,List.length_take] at hul;rw[List.length_append] at hul2;refine zC4 ?_;refine WT.idxL hT hrow3 Z Z Z Z Z Z Z Z Z zo (fun l hlk b2 off2 ro2 cs2 lx2 hb2 hp2 hrel2=>?_);obtain⟨la,ln,lc,rfl,hl⟩:=hrel2;have hll:=hl.len;have hl1:=hrs l (gM hlk);have htk:(row.take (k+1)).map headA=(row.take k).map headA++[headA l]:=by rw[List.take_add_one,hlk,List.map_append];rfl
    have hgk:row.getD k []=l:=getD_some hlk;refine zC4 ?_;refine WT.allocT hT Z Z Z Z Z Z (fun i15 hi15=>?_);refine zC4 ?_;refine AW.jnT (S:=Unit) (fun _=>[]) (fun _=>[(i15,.cells false [.int .i64 (headA l).1,.int .i64 (headA l).2])]::u.B::[(i9,.cells false [.int .i64 method,.slice s.a s.m s.c,.slice a2 n2 c2,.slice u.a2 u.m2 u.c2])]::s.B::u.B2::[(i4,.cells false [.int .i64 0,.slice none 0 0,.slice none 0 0,.slice none 0 0])]::[]::own) (fun _ _=>True) ?_ (fun _ F4 hF4 _=>?_)
    ·refine AW.cond Z (fun h=>?_) (fun h=>?_)
     ·have h:0<ln:=by simp at h;omega
      refine zC4 ?_;refine WT.idxL (j:=0) hT hl Z Z Z Z Z Z Z Z Z zo (fun p hp0 b3 off3 ro3 cs3 lx3 hb3 hp3 hrel3=>?_);obtain rfl:lx3=_:=hrel3;have hhp:headA l=p:=by unfold headA;rw[List.head?_eq_getElem?,hp0];rfl
      refine zC4 ?_;rw[hhp];exact⟨(),sM,zow,trivial⟩
     ·have h:ln=0:=by simp at h;omega
      have hhp:headA l=(0,0):=by
       obtain rfl:l=[]:=List.eq_nil_of_length_eq_zero zo;rfl
      refine zC4 ?_;rw[hhp];exact⟨(),sM,zow,trivial⟩
    ·have hl4:=hl.mono hF4;refine zC4 ?_;refine WT.buildT hT Z Z Z Z Z Z Z Z Z Z Z Z Z Z (fun i33 hi33=>?_);refine WT.appendT (R:=tAct) (ys:=[headA l]) hT 2 (hu.mono hF4) Z (fun _=>rfl) Z Z Z Z Z Z Z Z Z Z Z (fun h0 s0=>news_own hT s0 0 Z Z Z Z) (Cells.single (R:=tAct) (x:=headA l) rfl) Z (by decide) zom (fun a3 c3 B3 hB3=>?_);refine zC4 ?_;refine AW.cond Z (fun h=>?_) (fun h=>?_)
     ·have h:1<ln:=by simp at h;omega
      have hcs:confRow j row (k+1)=confRow j row k++[(j,k,l)]:=by rw[confRow_succ,hgk,if_pos zo]
      refine zC4 ?_;refine WT.buildT hT Z Z Z Z Z Z Z Z Z Z Z Z Z Z (fun i34 hi34=>?_);refine WT.appendT (R:=tConf) (ys:=[(j,k,l)]) hT 6 (hu2.mono hF4) Z (fun _=>rfl) Z Z Z Z Z Z Z Z Z Z Z (fun h0 s0=>news_own hT s0 0 Z Z Z Z) (Cells.single (R:=tConf) (x:=(j,k,l)) ⟨_,_,_,rfl,hl4⟩) Z (by decide) zom (fun a4 c4 B4 hB4=>?_);refine zC8 ?_;refine⟨⟨a3,u.m+1,c3,B3,a4,u.m2+1,c4,B4⟩,sM,zow,?_,?_⟩
      ·dsimp only;rw[htk];exact hB3
      ·dsimp only;rw[hcs,←List.append_assoc];exact hB4
     ·have h:ln≤1:=by simp at h;omega
      have hcs:confRow j row (k+1)=confRow j row k:=by rw[confRow_succ,hgk,if_neg zo,List.append_nil]
      refine zC4 ?_;refine⟨⟨a3,u.m+1,c3,B3,u.a2,u.m2,u.c2,u.B2⟩,sM,zow,?_,?_⟩
      ·dsimp only;rw[htk];exact hB3
      ·dsimp only;rw[hcs];exact hu2.mono hF4
   ·intro u F3 hF3 hP;obtain⟨hu,hu2⟩:=hP;rw[List.take_of_length_le zo] at hu;have hul:=hu.len;have hu2l:=hu2.len;have hcr:=confRow_few j row rn;rw[List.length_append] at hu2l;refine AW.freezeAll 0 Z Z (fun F4 hF4 hB4=>?_);have hrow4:=hu.frozen hF4 hB4;have htk:(all.take (j+1)).map (·.map headA)=(all.take j).map (·.map headA)++[row.map headA]:=by rw[List.take_add_one,hrj,List.map_append];rfl
    have hct:confsTo all (j+1)=confsTo all j++confRow j row rn:=by rw[confsTo_succ,hgd,hrl]
    refine zC8 ?_;refine WT.buildT hT Z Z Z Z Z Z Z Z Z Z Z Z Z Z (fun i35 hi35=>?_);refine WT.appendT (R:=tList tAct) (ys:=[row.map headA]) hT 3 ((hb.mono hF3).mono hF4) Z (fun _=>rfl) Z Z Z Z Z Z Z Z Z Z Z (fun h0 s0=>news_own hT s0 0 Z Z Z Z) (Cells.single (R:=tList tAct) (x:=row.map headA) ⟨_,_,_,rfl,hrow4⟩) Z (by decide) zom (fun a5 c5 B5 hB5=>?_);refine zC8 ?_;refine⟨⟨a5,s.m+1,c5,B5,u.a2,u.m2,u.c2,u.B2⟩,sM,zow,?_,?_⟩
    ·dsimp only;rw[htk];exact hB5
    ·dsimp only;rw[hct];exact hu2.mono hF4
  ·intro s F2 hF2 hP;obtain⟨hb,hb2⟩:=hP;rw[List.take_of_length_le zo] at hb;refine AW.freezeAll 1 Z Z (fun F3 hF3 hB3=>?_);have g1:=hb.frozen hF3 hB3;refine AW.freezeAll 2 Z Z (fun F4 hF4 hB4=>?_);have g2:=(hb2.mono hF3).frozen hF4 hB4;refine zC8 ?_;refine AW.ret ⟨_,[],⟨_,_,⟨_,rfl,fun G h0 s0=>loadA_cells (s0.has (p:=3) Z me) (readT_ok hT rfl)⟩,⟨_,_,rfl,rfl,rfl⟩,rfl⟩,zsb,rfl,.inr ⟨_,_,hT2,rfl,_,_,_,_,_,_,_,_,_,rfl,g1.mono hF4,((h2.mono hF2).mono hF3).mono hF4,?_⟩⟩;have e:n1=all.length:=hn1;rw[e] at g2;exact g2
theorem shE5{p:Prop} (h:p:=by
 have hxlen:=hx.len;have hylen:=hy.len;refine zB4 ?_;refine AW.cond Z (fun hc=>(by simp at hc;omega)) (fun hc=>?_);refine zB4 ?_;refine AW.range (S:=Unit) (fun _=>[]) (fun _=>_) (fun j _ G=>True) m () Z Z Z Z Z Z Z Z Z zo Z Z (fun _=>rfl) (fun _=>rfl) sM oR trivial ?_ ?_
 ·intro j _ F1 hF1 hj _;have hx1:=hx.mono hF1;have hy1:=hy.mono hF1;refine zB4 ?_;refine WT.idxL hT hx1 Z Z Z Z Z Z Z Z Z zo (fun x hxj b1 off ro cs lx hb hp1 hrel=>?_);obtain rfl:lx=_:=hrel;refine zB4 ?_;refine WT.idxL hT hy1 Z Z Z Z Z Z Z Z Z zo (fun y hyj b2 off2 ro2 cs2 ly hb2 hp2 hrel2=>?_);obtain rfl:ly=_:=hrel2;obtain rfl:x=y:=by rw[hxj] at hyj;exact Option.some.inj hyj
  refine zB4 ?_;refine AW.cond Z (fun hc=>?_) (fun hc=>?_)
  ·exfalso;simp at hc
  ·refine zB4 ?_;exact⟨(),sM,zow,trivial⟩
 ·intro _ F1 hF1 _;refine zB4 ?_;exact AW.ret ⟨_,[],⟨_,_,rfl,rfl,rfl⟩,zsb,rfl,rfl⟩):p:=h
theorem actEqual_spec(F:Frz){a b:Option Addr}{m n c d:Nat}{xs:List (Nat×Nat)}(hx:Arr tAct F a m c xs)(hy:Arr tAct F b n d xs)(hm:m≤1000000) :
  Abs.Spec CC 118 [.slice a m c,.slice b n d] F [] fun _ v o=>o=[]∧v=.bool true:=by
 refine Abs.Spec.fn (n:=26) Tryz.func118 rfl rfl fun own=>?_;exact shE5
theorem actFn_spec(F:Frz){a b:Option Addr}{m n c d:Nat}{xs:List (Nat×Nat)}(hx:Arr tAct F a m c xs)(hy:Arr tAct F b n d xs)(hm:m≤1000000) :
  Abs.Spec CC 117 [.slice a m c,.slice b n d] F [] fun _ v o=>o=[]∧v=.bool true:=by
 refine Abs.Spec.fn (n:=8) Tryz.func117 rfl rfl fun own=>?_;refine zB4 ?_;refine WT.callV Tryz.func118 Z Z Z Z Z Z (actEqual_spec _ hx hy hm) (fun v hv=>?_);subst hv;refine zB4 ?_;exact AW.ret ⟨_,[],⟨_,_,rfl,rfl,rfl⟩,zsb,rfl,rfl⟩
theorem actRows_spec(F:Frz){a b:Option Addr}{m n c d:Nat}{xs:List (List (Nat×Nat))}(hx:Arr (tList tAct) F a m c xs)(hy:Arr (tList tAct) F b n d xs)(hm:m≤1000000)(hl:∀l∈xs,l.length≤1000000) :
  Abs.Spec CC 116 [.slice a m c,.slice b n d,.func (.func 117) ⟨[]⟩ ⟨[]⟩] F [] fun _ v o=>o=[]∧v=.bool true:=by
 refine Abs.Spec.fn (n:=32) Tryz.func116 rfl rfl fun own=>?_;have hxlen:=hx.len;have hylen:=hy.len;refine zB4 ?_;refine AW.cond Z (fun hc=>(by simp at hc;omega)) (fun hc=>?_);refine zB4 ?_;refine AW.range (S:=Unit) (fun _=>[]) (fun _=>_) (fun j _ G=>True) m () Z Z Z Z Z Z Z Z Z zo Z Z (fun _=>rfl) (fun _=>rfl) sM oR trivial ?_ ?_
 ·intro j _ F1 hF1 hj _;have hx1:=hx.mono hF1;have hy1:=hy.mono hF1;refine zB4 ?_;refine WT.idxL hT hx1 Z Z Z Z Z Z Z Z Z zo (fun x hxj b1 off ro cs lx hb hp1 hrel=>?_);obtain⟨xa,xn,xc,rfl,hxx⟩:=hrel;refine zB4 ?_;refine WT.idxL hT hy1 Z Z Z Z Z Z Z Z Z zo (fun y hyj b2 off2 ro2 cs2 ly hb2 hp2 hrel2=>?_);obtain⟨ya,yn,yc,rfl,hyy⟩:=hrel2;obtain rfl:x=y:=by rw[hxj] at hyj;exact Option.some.inj hyj
  have hxn:=hxx.len;have hxs:=hl x (gM hxj);refine zB4 ?_;refine WT.callC Tryz.func117 Z Z Z Z Z Z Z Z (actFn_spec _ hxx hyy zo) (fun v hv=>?_);subst hv;refine zB4 ?_;refine AW.cond Z (fun h=>(by cases h)) (fun _=>?_);refine zB4 ?_;exact⟨(),sM,zow,trivial⟩
 ·intro _ F1 hF1 hP;refine zB4 ?_;exact AW.ret ⟨_,[],⟨_,_,rfl,rfl,rfl⟩,zsb,rfl,rfl⟩
theorem intEqual_spec(F:Frz){a b:Option Addr}{m n c d:Nat}{xs:List Int}(hx:Arr tInt F a m c xs)(hy:Arr tInt F b n d xs)(hm:m≤1000000) :
  Abs.Spec CC 40 [.slice a m c,.slice b n d] F [] fun _ v o=>o=[]∧v=.bool true:=by
 refine Abs.Spec.fn (n:=26) Tryz.func40 rfl rfl fun own=>?_;exact shE5
theorem intFn_spec(F:Frz){a b:Option Addr}{m n c d:Nat}{xs:List Int}(hx:Arr tInt F a m c xs)(hy:Arr tInt F b n d xs)(hm:m≤1000000) :
  Abs.Spec CC 120 [.slice a m c,.slice b n d] F [] fun _ v o=>o=[]∧v=.bool true:=by
 refine Abs.Spec.fn (n:=8) Tryz.func120 rfl rfl fun own=>?_;refine zB4 ?_;refine WT.callV Tryz.func40 Z Z Z Z Z Z (intEqual_spec _ hx hy hm) (fun v hv=>?_);subst hv;refine zB4 ?_;exact AW.ret ⟨_,[],⟨_,_,rfl,rfl,rfl⟩,zsb,rfl,rfl⟩
theorem intRows_spec(F:Frz){a b:Option Addr}{m n c d:Nat}{xs:List (List Int)}(hx:Arr (tList tInt) F a m c xs)(hy:Arr (tList tInt) F b n d xs)(hm:m≤1000000)(hl:∀l∈xs,l.length≤1000000) :
  Abs.Spec CC 119 [.slice a m c,.slice b n d,.func (.func 120) ⟨[]⟩ ⟨[]⟩] F [] fun _ v o=>o=[]∧v=.bool true:=by
 refine Abs.Spec.fn (n:=32) Tryz.func119 rfl rfl fun own=>?_;have hxlen:=hx.len;have hylen:=hy.len;refine zB4 ?_;refine AW.cond Z (fun hc=>(by simp at hc;omega)) (fun hc=>?_);refine zB4 ?_;refine AW.range (S:=Unit) (fun _=>[]) (fun _=>_) (fun j _ G=>True) m () Z Z Z Z Z Z Z Z Z zo Z Z (fun _=>rfl) (fun _=>rfl) sM oR trivial ?_ ?_
 ·intro j _ F1 hF1 hj _;have hx1:=hx.mono hF1;have hy1:=hy.mono hF1;refine zB4 ?_;refine WT.idxL hT hx1 Z Z Z Z Z Z Z Z Z zo (fun x hxj b1 off ro cs lx hb hp1 hrel=>?_);obtain⟨xa,xn,xc,rfl,hxx⟩:=hrel;refine zB4 ?_;refine WT.idxL hT hy1 Z Z Z Z Z Z Z Z Z zo (fun y hyj b2 off2 ro2 cs2 ly hb2 hp2 hrel2=>?_);obtain⟨ya,yn,yc,rfl,hyy⟩:=hrel2;obtain rfl:x=y:=by rw[hxj] at hyj;exact Option.some.inj hyj
  have hxn:=hxx.len;have hxs:=hl x (gM hxj);refine zB4 ?_;refine WT.callC Tryz.func120 Z Z Z Z Z Z Z Z (intFn_spec _ hxx hyy zo) (fun v hv=>?_);subst hv;refine zB4 ?_;refine AW.cond Z (fun h=>(by cases h)) (fun _=>?_);refine zB4 ?_;exact⟨(),sM,zow,trivial⟩
 ·intro _ F1 hF1 hP;refine zB4 ?_;exact AW.ret ⟨_,[],⟨_,_,rfl,rfl,rfl⟩,zsb,rfl,rfl⟩
theorem sameConf_spec(F:Frz){lx ly:List Value}(x:Nat×Nat×List (Nat×Nat))(hf:x.2.2.length≤1000000)(hx:tConf.rel F lx x)(hy:tConf.rel F ly x):Abs.Spec CC 122 [.agg ⟨lx⟩,.agg ⟨ly⟩] F [] fun _ v o=>o=[]∧v=.bool true:=by
 obtain⟨xa,xn,xc,rfl,hxa⟩:=hx;obtain⟨ya,yn,yc,rfl,hya⟩:=hy;have hxl:=hxa.len;have hyl:=hya.len;refine Abs.Spec.fn (n:=24) Tryz.func122 rfl rfl fun own=>?_;refine AW.seq (AW.reg ?_);refine WT.boxT Z Z Z Z Z Z (fun i2 hi2=>?_);refine WT.boxT Z Z Z Z Z Z (fun i3 hi3=>?_);refine zB4 ?_;refine WT.know (v':=.bool true) 10 Z (by congr 1;simp) ?_;refine zB4 ?_;refine WT.know (v':=.bool true) 17 Z (by congr 1;simp) ?_;refine zB4 ?_;refine WT.callV Tryz.func118 Z Z Z Z Z Z (actEqual_spec _ hxa hya zo) (fun v hv=>?_);subst hv;refine zB4 ?_;exact AW.ret ⟨_,[],⟨_,_,rfl,rfl,rfl⟩,zsb,rfl,rfl⟩
theorem confEqF_spec(F:Frz){a b:Option Addr}{m c d:Nat}{xs:List (Nat×Nat×List (Nat×Nat))}(hx:Arr tConf F a m c xs)(hy:Arr tConf F b m d xs)(hm:m≤1000000)
  (hcmp:∀G lx ly (x:(Nat×Nat×List (Nat×Nat))),x∈xs→tConf.rel G lx x→tConf.rel G ly x→Abs.Spec CC 122 [.agg ⟨lx⟩,.agg ⟨ly⟩] G [] fun _ v o=>o=[]∧v=.bool true) :
  Abs.Spec CC 121 [.slice a m c,.slice b m d,.func (.func 122) ⟨[]⟩ ⟨[]⟩] F [] fun _ v o=>o=[]∧v=.bool true:=by
 refine Abs.Spec.fn (n:=32) Tryz.func121 rfl rfl fun own=>?_;have hxlen:=hx.len;refine zB4 ?_;refine AW.cond Z (fun h=>(by exfalso;simp at h)) (fun _=>?_);refine zB4 ?_;refine AW.range (S:=Unit) (fun _=>[]) (fun _=>own) (fun j _ G=>True) m () Z Z Z Z Z Z Z Z Z zo Z Z (fun _=>rfl) (fun _=>rfl) sM oR trivial ?_ ?_
 ·intro j _ F1 hF1 hj hP;have hx1:=hx.mono hF1;have hy1:=hy.mono hF1;refine zB4 ?_;refine WT.idxL hT hx1 Z Z Z Z Z Z Z Z Z zo (fun x hxj b1 off ro cs lx hb hp1 hrel=>?_);have hrelx:=hrel;obtain⟨xa,xn,xc,rfl,_⟩:=hrel;refine zB4 ?_;refine WT.allocT hT Z Z Z Z Z Z (fun i8 hi8=>?_);refine zB4 ?_;refine WT.idxL hT hy1 Z Z Z Z Z Z Z Z Z zo (fun y hyj b2 off2 ro2 cs2 ly hb2 hp2 hrel=>?_);obtain rfl:y=x:=by rw[hxj] at hyj;exact(Option.some.inj hyj).symm
  have hrely:=hrel;obtain⟨ya,yn,yc,rfl,_⟩:=hrel;refine zB4 ?_;refine WT.allocT hT Z Z Z Z Z Z (fun i9 hi9=>?_);refine zB4 ?_;refine WT.callC Tryz.func122 Z Z Z Z Z Z Z Z (hcmp _ _ _ y (gM hxj) hrelx hrely) (fun v hv=>?_);subst hv;refine zB4 ?_;refine AW.cond Z (fun h=>(by cases h)) (fun _=>?_);refine zB4 ?_;exact⟨(),sM,OwnLe.skip _ (OwnLe.skip _ oR),trivial⟩
 ·intro _ F1 hF1 hP;refine zB4 ?_;exact AW.ret ⟨_,[],⟨_,_,rfl,rfl,rfl⟩,zsb,rfl,rfl⟩
structure TabSm(T:Tab):Prop where
 act:T.act.length≤1000000
 rows:∀l∈T.act,l.length≤1000000
 go:T.go.length≤1000000
 grows:∀l∈T.go,l.length≤1000000
 conf:T.conf.length≤1000000
 acts:∀x∈T.conf,x.2.2.length≤1000000
theorem tabSame_spec(F:Frz){method:Nat}{T:Tab}(hs:TabSm T){v w:Value}(hv:TabV F method T v)(hw:TabV F method T w):Abs.Spec CC 80 [v,w] F [] fun _ v o=>o=[]∧v=.bool true:=by
 obtain⟨a1,n1,c1,a2,n2,c2,a3,n3,c3,rfl,h1,h2,h3⟩:=hv;obtain⟨b1,m1,d1,b2,m2,d2,b3,m3,d3,rfl,g1,g2,g3⟩:=hw;obtain rfl:n3=m3:=by rw[h3.len,g3.len]
 have l1:=h1.len;have l2:=h2.len;have l3:=h3.len;refine Abs.Spec.fn (n:=31) Tryz.func80 rfl rfl fun own=>?_;refine AW.seq (AW.reg ?_);refine WT.boxT Z Z Z Z Z Z (fun i2 hi2=>?_);refine WT.boxT Z Z Z Z Z Z (fun i3 hi3=>?_);refine zB4 ?_;refine WT.know (v':=.bool true) 10 Z (by congr 1;simp) ?_;refine zB4 ?_;refine WT.callV Tryz.func116 Z Z Z Z Z Z (actRows_spec _ h1 g1 (by rw[l1];exact hs.act) hs.rows) (fun v hv=>?_);subst hv;refine zB4 ?_;refine WT.callV Tryz.func119 Z Z Z Z Z Z (intRows_spec _ h2 g2 (by rw[l2];exact hs.go) hs.grows) (fun v hv=>?_);subst hv;refine zB4 ?_
 refine WT.callV Tryz.func121 Z Z Z Z Z Z (confEqF_spec _ h3 g3 (by rw[l3];exact hs.conf) (fun G lx ly x hx q1 q2=>sameConf_spec G x (hs.acts x hx) q1 q2)) (fun v hv=>?_);subst hv;refine zB4 ?_;exact AW.ret ⟨_,[],⟨_,_,rfl,rfl,rfl⟩,zsb,rfl,rfl⟩
theorem tableF_sm{g:Gram}(hg:Valid g)(ht5:g.terms≤5){method:Nat}{T:Tab}(h:tableF g method=some T):TabSm T∧T.act.length≤400∧T.go.length=T.act.length∧(∀r∈T.act,r.length=g.terms+1)∧(∀r∈T.go,r.length=g.nons):=by
 unfold tableF at h;cases hst:statesF g method with
 | none=>rw[hst] at h;cases h
 | some a=>
  obtain⟨S,rows⟩:=a;rw[hst] at h;obtain rfl:=Option.some.inj h;have hfew:=autoK_few hst;have hAC:=(statesF_ok hg hst).1;have hlen:rows.length=S.length:=by have:=hAC.len;rwa [List.length_map] at this
  have hgn:=hg.range.nons;have hall6:∀r∈allF g S rows,r.length=g.terms+1:=fun r hr=>by
   unfold allF at hr;obtain⟨s,_,rfl⟩:=List.mem_map.1 hr;simp
  have halen:(allF g S rows).length=S.length:=by unfold allF;simp
  have hrow:∀r∈rows,r.length=g.terms+g.nons:=fun r hr=>by
   obtain⟨k,hk⟩:=List.getElem?_of_mem hr;have hk1:=(gS hk).1;have hS:=gE (show k<(S.map itemsK).length by rw[List.length_map];omega);exact hAC.row k _ r hS hk
  have hsm:∀s t,(actsF g (S.getD s []) (rows.getD s []) t).length≤1001:=fun s t=>by
   have h1:(S.getD s []).length≤1000:=by
    rw[List.getD_eq_getElem?_getD];cases hx:S[s]? with
    | none=>exact Nat.zero_le _
    | some st=>exact(statesF_PK hg hst st (gM hx)).1
   have h2:=actPre_len (g:=g) (row:=rows.getD s []) (t:=t);have h3:=List.length_filterMap_le (actOne g t) (S.getD s []);rw[actsF_eq,List.length_append];omega
  have hal:∀s r,(allF g S rows)[s]?=some r→∀l∈r,List.length l≤1001:=fun s r hr l hl=>by
   have hr:=gM hr;unfold allF at hr;obtain⟨s,_,rfl⟩:=List.mem_map.1 hr;obtain⟨t,_,rfl⟩:=List.mem_map.1 hl;exact hsm s t
  have hconf:(tabF (allF g S rows) (rows.map (·.drop g.terms))).conf=confsTo (allF g S rows) (allF g S rows).length:=rfl;refine⟨⟨?_,?_,?_,?_,?_,?_⟩,?_,?_,?_,?_⟩
  ·show ((allF g S rows).map _).length≤_;rw[List.length_map];omega
  ·intro l hl;obtain⟨r,hr,rfl⟩:=List.mem_map.1 hl;rw[List.length_map,hall6 r hr];omega
  ·show (rows.map _).length≤_;rw[List.length_map];omega
  ·intro l hl;obtain⟨r,hr,rfl⟩:=List.mem_map.1 hl;have:=hrow r hr;rw[List.length_drop];omega
  ·rw[hconf];have:=confsTo_few (allF g S rows) (fun r hr=>by rw[hall6 r hr];omega) (allF g S rows).length;omega
  ·intro x hx;rw[hconf] at hx;unfold confsTo at hx;obtain⟨l,hl,hxl⟩:=List.mem_flatten.1 hx;obtain⟨s,hs,rfl⟩:=List.mem_map.1 hl;unfold confRow at hxl;obtain⟨t,ht,hxt⟩:=List.mem_filterMap.1 hxl;split at hxt
   ·obtain rfl:=Option.some.inj hxt;dsimp only;obtain⟨r,hr⟩:∃r,(allF g S rows)[s]?=some r:=⟨_,gE (List.mem_range.1 hs)⟩;rw[getD_some hr] at ht ⊢;obtain⟨l,hl2⟩:∃l,r[t]?=some l:=⟨_,gE (List.mem_range.1 ht)⟩;rw[getD_some hl2];have:=hal s r hr l (gM hl2);exact Nat.le_trans this (by decide)
   ·cases hxt
  ·show ((allF g S rows).map _).length≤_;rw[List.length_map];omega
  ·show (rows.map _).length=((allF g S rows).map _).length;rw[List.length_map,List.length_map];omega
  ·intro l hl;obtain⟨r,hr,rfl⟩:=List.mem_map.1 hl;rw[List.length_map,hall6 r hr]
  ·intro l hl;obtain⟨r,hr,rfl⟩:=List.mem_map.1 hl;have:=hrow r hr;rw[List.length_drop];omega
theorem tcheck_spec(F:Frz)(g:Gram)(hg:Valid g)(ht5:g.terms≤5){method:Nat}(hm:method=1∨method=2∨method=3){T:Tab}(hT2:tableF g method=some T){v:Value}(hv:TabV F method T v){a:Option Addr}{m c:Nat}(hr:Arr tRule F a m c g.rules) :
  Abs.Spec CC 43 [v,.agg ⟨gramCells g a m c⟩] F [] fun _ v o=>o=[]∧v=.int .i64 0:=by
 obtain⟨a1,n1,c1,a2,n2,c2,a3,n3,c3,rfl,h1,h2,h3⟩:=id hv;have hmb:method≤3:=by omega
 unfold gramCells;refine Abs.Spec.fn (n:=21) Tryz.func43 rfl rfl fun own=>?_;refine AW.seq (AW.reg ?_);refine WT.boxT Z Z Z Z Z Z (fun i2 hi2=>?_);refine WT.boxT Z Z Z Z Z Z (fun i3 hi3=>?_);refine zB4 ?_;have hof:=of_spec F g hg ht5 method hm hr;unfold gramCells at hof;refine WT.callF0 Tryz.func18 Z Z Z Z Z Z hof (fun F1 v hF1 hv1=>?_);rcases hv1 with ⟨hn,_⟩ | ⟨T',x,hx1,rfl,hx2⟩
 ·rw[hT2] at hn;cases hn
 rw[hT2] at hx1;obtain rfl:=Option.some.inj hx1;obtain⟨b1,m1,d1,b2,m2,d2,b3,m3,d3,rfl,g1,g2,g3⟩:=id hx2;refine zB4 ?_;refine WT.allocT hT Z Z Z Z Z Z (fun i5 hi5=>?_);refine zB4 ?_;refine AW.cond Z (fun h=>(by cases h)) (fun _=>?_);refine zB4 ?_;refine WT.callV Tryz.func80 Z Z Z Z Z Z (tabSame_spec _ (tableF_sm hg ht5 hT2).1 (hv.mono hF1) hx2) (fun v hv=>?_);subst hv;refine zB4 ?_;refine AW.cond Z (fun h=>(by cases h)) (fun _=>?_);refine zB4 ?_;exact AW.ret ⟨_,[],⟨_,_,rfl,rfl,rfl⟩,zsb,rfl,rfl⟩
def Min(g:Gram)(w:List Nat)(s:Sym)(T:Tree)(i j:Nat):Prop:=TreeOf g w s T i j∧∀T',TreeOf g w s T' i j→T.pre.length≤T'.pre.length
inductive MTs(g:Gram)(w:List Nat):List Sym→List Tree→Nat→Nat→Prop
 | nil {i:Nat}:MTs g w [] [] i i
 | cons {s:Sym} {l:List Sym} {t:Tree} {ts:List Tree} {i m j:Nat}:Min g w s t i m→MTs g w l ts m j→MTs g w (s::l) (t::ts) i j
section
variable {g:Gram}{w:List Nat}
theorem min_exists{s:Sym}{i j:Nat}:∀(n:Nat) {T:Tree},T.pre.length≤n→TreeOf g w s T i j→∃T',Min g w s T' i j∧T'.pre.length≤T.pre.length
 | 0,.mk _ _ _,h,_=>by
  exact absurd h (by show ¬(List.length (_::_)≤0);simp)
 | n+1,T,h,hT=>by
  by_cases hc:∃T',TreeOf g w s T' i j∧T'.pre.length<T.pre.length
  ·obtain⟨T',h1,h2⟩:=hc;obtain⟨T2,h3,h4⟩:=min_exists n zo h1;exact⟨T2,h3,by omega⟩
  ·refine⟨T,⟨hT,fun T' h1=>?_⟩,Nat.le_refl _⟩;rcases Nat.lt_or_ge T'.pre.length T.pre.length with h2 | h2
   ·exact absurd ⟨T',h1,h2⟩ hc
   ·exact h2
theorem TreesOf.toMin:∀{ts:List Tree} {l:List Sym} {i j:Nat},TreesOf g w l ts i j→∃ts',MTs g w l ts' i j∧(preL ts').length≤(preL ts).length
 | [],_,_,_,.nil=>⟨[],.nil,Nat.le_refl _⟩
 | t::ts,_,_,_,.cons h1 h2=>by
  obtain⟨t',a1,a2⟩:=min_exists _ (Nat.le_refl _) h1;obtain⟨ts',b1,b2⟩:=TreesOf.toMin h2;refine⟨t'::ts',.cons a1 b1,?_⟩;show (t'.pre++preL ts').length≤(t.pre++preL ts).length;rw[List.length_append,List.length_append];omega
theorem MTs.of:∀{ts:List Tree} {l:List Sym} {i j:Nat},MTs g w l ts i j→TreesOf g w l ts i j
 | _,_,_,_,.nil=>.nil
 | _,_,_,_,.cons h1 h2=>.cons h1.1 (MTs.of h2)
theorem Min.eq{s:Sym}{T T':Tree}{i j:Nat}(h:Min g w s T i j)(h':Min g w s T' i j):T.pre.length=T'.pre.length:=Nat.le_antisymm (h.2 _ h'.1) (h'.2 _ h.1)
theorem Min.kids{n:Nat}{T:Tree}{i j:Nat}(h:Min g w ⟨false,n⟩ T i j):∃(k:Nat) (r:Rule) (ks:List Tree),g.rules[k]?=some r∧MTs g w r.right ks i j∧T.pre.length=1+(preL ks).length:=by
 obtain⟨h1,h2⟩:=h;cases h1 with
 | node h3 h4=>
  rename_i k r kids;obtain⟨ks,h5,h6⟩:=TreesOf.toMin h4;have h7:=h2 _ (.node h3 h5.of);have e1:(Tree.mk (k:Int) 0 kids).pre.length=(preL kids).length+1:=rfl;have e2:(Tree.mk (k:Int) 0 ks).pre.length=(preL ks).length+1:=rfl;rw[e1,e2] at h7;exact⟨k,r,ks,h3,h5,by rw[e1];omega⟩
def eB:Nat→Nat
 | 0=>1
 | k+1=>1+3*eB k
theorem mem_erase'{U:List Nat}{m x:Nat}(h:x∈U)(hne:x≠m):x∈U.erase m:=(List.mem_erase_of_ne hne).2 h
theorem MTs.sum{P:Sym→Tree→Nat→Nat→Prop}{B:Nat}:∀{ts:List Tree} {l:List Sym} {i j:Nat},MTs g w l ts i j→(∀s t a b,Min g w s t a b→i≤a→a≤b→b≤j→t.pre.length≤(preL ts).length→t.pre.length≤B)→(preL ts).length≤l.length*B
 | _,_,_,_,.nil,_=>Nat.zero_le _
 | t::ts,s::l,i,j,.cons (m:=m) h1 h2,h=>by
  have ha:=(TreeOf.le h1.1).1;have hb:=(TreesOf.le h2.of).1;have e2:(preL (t::ts)).length=t.pre.length+(preL ts).length:=by show (t.pre++preL ts).length=_;rw[List.length_append]
  have g1:=h s t i m h1 (Nat.le_refl _) ha hb zo;have g2:=MTs.sum (P:=P) h2 fun s' t' a b q1 q2 q3 q4 q5=>h s' t' a b q1 zo q3 q4 zo;rw[e2,List.length_cons,Nat.succ_mul];omega
theorem emp_bound(hg:Valid g)(h3:∀r∈g.rules,r.right.length≤3):∀(k:Nat) (U:List Nat) (n i:Nat) (T:Tree),U.length≤k→Min g w ⟨false,n⟩ T i i→(∀m T',Min g w ⟨false,m⟩ T' i i→T'.pre.length<T.pre.length→m∈U)→T.pre.length≤eB k:=by
 intro k
 induction k with
 | zero=>
  intro U n i T hU hT hlow;obtain⟨q,r,ks,hr,hks,e⟩:=hT.kids;have hUn:U=[]:=List.eq_nil_of_length_eq_zero zo;subst hUn;generalize r.right=rr at hks;cases hks with
  | nil=>rw[e];exact Nat.le_refl _
  | @cons s l t ts _ m _ a b=>
   exfalso;have ha:=(TreeOf.le a.1).1;have hb:=(TreesOf.le b.of).1;obtain rfl:m=i:=by omega
   have hnt:=(TreeOf.begin a.1).1 rfl;obtain⟨sb,sn⟩:=s;obtain rfl:sb=false:=hnt.1;have e2:(preL (t::ts)).length=t.pre.length+(preL ts).length:=by show (t.pre++preL ts).length=_;rw[List.length_append]
   have:=hlow sn t a zo;cases this
 | succ k ih=>
  intro U n i T hU hT hlow;obtain⟨q,r,ks,hr,hks,e⟩:=hT.kids;have hone:∀{s:Sym} {t:Tree} {m:Nat},Min g w s t i m→m=i→t.pre.length<T.pre.length→t.pre.length≤eB k:=by
   intro s t m a hm hlt;subst hm;have hnt:=(TreeOf.begin a.1).1 rfl;obtain⟨sb,sn⟩:=s;obtain rfl:sb=false:=hnt.1;have hin:=hlow sn t a hlt;refine ih (U.erase sn) sn m t (by rw[List.length_erase_of_mem hin];omega) a fun m' T' hT' hlt'=>?_;refine mem_erase' (hlow m' T' hT' zo) fun e=>?_;subst e;have:=a.eq hT';omega
  have hl:=h3 r (gM hr);have h5:=hks.sum (P:=fun _ _ _ _=>True) (B:=eB k) fun s t a b q1 q2 q3 q4 q5=>by
   obtain rfl:a=i:=by omega
   exact hone q1 zo zo
  rw[e];have:r.right.length*eB k≤3*eB k:=Nat.mul_le_mul_right _ hl;show _≤1+3*eB k;omega
theorem three_bound{len K i j:Nat}(hlen:j-i=len)(hij:i<j):∀{l:List Sym} {ks:List Tree},MTs g w l ks i j→l.length≤3→
  (∀s t a b,Min g w s t a b→i≤a→a≤b→b≤j→t.pre.length≤(preL ks).length→(a=b→t.pre.length≤40)∧(a<b→b-a<len→t.pre.length+322≤650*(b-a))∧(b-a=len→t.pre.length+650≤650*len+82*K∨(t.pre.length=1∧len=1)))→
  1+(preL ks).length+650≤650*len+82*(K+1):=by
 intro l ks h hl hk;cases h with
 | nil=>omega
 | @cons s1 l t1 ts _ m1 _ h1 h=>
  have a1:=(TreeOf.le h1.1).1;have b1:=(TreesOf.le h.of).1;have e1:(preL (t1::ts)).length=t1.pre.length+(preL ts).length:=by show (t1.pre++preL ts).length=_;rw[List.length_append]
  obtain⟨p1,p2,p3⟩:=hk s1 t1 i m1 h1 (Nat.le_refl _) a1 b1 zo;cases h with
  | nil=>
   have e2:(preL ([]:List Tree)).length=0:=rfl;omega
  | @cons s2 l t2 ts _ m2 _ h2 h=>
   have a2:=(TreeOf.le h2.1).1;have b2:=(TreesOf.le h.of).1;have e2:(preL (t2::ts)).length=t2.pre.length+(preL ts).length:=by show (t2.pre++preL ts).length=_;rw[List.length_append]
   obtain⟨q1,q2,q3⟩:=hk s2 t2 m1 m2 h2 a1 a2 b2 zo;cases h with
   | nil=>
    have e3:(preL ([]:List Tree)).length=0:=rfl;omega
   | @cons s3 l t3 ts _ m3 _ h3 h=>
    have a3:=(TreeOf.le h3.1).1;have b3:=(TreesOf.le h.of).1;have e3:(preL (t3::ts)).length=t3.pre.length+(preL ts).length:=by show (t3.pre++preL ts).length=_;rw[List.length_append]
    obtain⟨r1,r2,r3⟩:=hk s3 t3 m2 m3 h3 zo a3 b3 zo;cases h with
    | nil=>
     have e4:(preL ([]:List Tree)).length=0:=rfl;omega
    | cons _ _=>simp only[List.length_cons] at hl;omega
theorem part_bound(hg:Valid g)(hn4:g.nons≤4)(h3:∀r∈g.rules,r.right.length≤3):∀(len k:Nat) (U:List Nat) (n i j:Nat) (T:Tree),j-i=len→i<j→U.length≤k→Min g w ⟨false,n⟩ T i j→(∀m T',Min g w ⟨false,m⟩ T' i j→T'.pre.length<T.pre.length→m∈U)→T.pre.length+650≤650*len+82*(k+1):=by
 have hnon:∀{m a b:Nat} {T':Tree},Min g w ⟨false,m⟩ T' a b→m<g.nons:=fun {m a b T'} h=>by
  cases h.1 with
  | node h1 _=>exact(hg.right _ (gM h1)).1
 have hrange:∀{n:Nat} {a b:Nat} {T:Tree},Min g w ⟨false,n⟩ T a b→((List.range g.nons).erase n).length≤3∧∀m T',Min g w ⟨false,m⟩ T' a b→T'.pre.length<T.pre.length→m∈(List.range g.nons).erase n:=fun {n a b T} h=>by
  refine⟨?_,fun m T' h1 h2=>mem_erase' (List.mem_range.2 (hnon h1)) fun e=>?_⟩
  ·rw[List.length_erase_of_mem (List.mem_range.2 (hnon h)),List.length_range];omega
  ·subst e;have:=h.eq h1;omega
 have hemp:∀{s:Sym} {a:Nat} {T:Tree},Min g w s T a a→T.pre.length≤40:=fun {s a T} h=>by
  have hnt:=(TreeOf.begin h.1).1 rfl;obtain⟨sb,sn⟩:=s;obtain rfl:sb=false:=hnt.1;obtain⟨h1,h2⟩:=hrange h;exact emp_bound hg h3 3 _ sn a T h1 h h2
 intro len
 induction len using Nat.strongRecOn with
 | _ len ihl=>
  have main:∀(K:Nat) {n i j:Nat} {T:Tree},j-i=len→i<j→Min g w ⟨false,n⟩ T i j→(∀m T',Min g w ⟨false,m⟩ T' i j→T'.pre.length<T.pre.length→T'.pre.length+650≤650*len+82*K)→T.pre.length+650≤650*len+82*(K+1):=by
   intro K n i j T hlen hij hT hF;obtain⟨q,r,ks,hr,hks,e⟩:=hT.kids;rw[e];refine three_bound hlen hij hks (h3 r (gM hr)) fun s t a b h1 h2 h4 h5 h6=>⟨fun hab=>?_,fun hab hlt=>?_,fun hab=>?_⟩
   ·subst hab;exact hemp h1
   ·obtain⟨sb,sn⟩:=s;cases sb with
    | true=>
     cases h1.1 with
     | leaf _=>
      show 1+322≤_;omega
    | false=>
     obtain⟨g1,g2⟩:=hrange h1;have:=ihl (b-a) hlt 3 _ sn a b t rfl hab g1 h1 g2;omega
   ·have ha:a=i:=by omega
    have hb:b=j:=by omega
    subst ha hb;obtain⟨sb,sn⟩:=s;cases sb with
    | true=>
     cases h1.1 with
     | leaf _=>exact .inr ⟨rfl,by omega⟩
    | false=>exact .inl (hF sn t h1 zo)
  intro k
  induction k with
  | zero=>
   intro U n i j T hlen hij hU hT hlow;have hUn:U=[]:=List.eq_nil_of_length_eq_zero zo;subst hUn;exact main 0 hlen hij hT fun m T' h1 h2=>by have:=hlow m T' h1 h2;cases this
  | succ k ihk=>
   intro U n i j T hlen hij hU hT hlow;refine main (k+1) hlen hij hT fun m T' h1 h2=>?_;have hin:=hlow m T' h1 h2;refine ihk (U.erase m) m i j T' hlen hij (by rw[List.length_erase_of_mem hin];omega) h1 fun m' T2 h4 h5=>?_;refine mem_erase' (hlow m' T2 h4 zo) fun e=>?_;subst e;have:=h1.eq h4;omega
theorem tree_small(hg:Small g){T:Tree}(h:TreeOf g w ⟨false,g.start⟩ T 0 w.length):∃T',TreeOf g w ⟨false,g.start⟩ T' 0 w.length∧T'.pre.length≤650*w.length+40:=by
 obtain⟨T',h1,_⟩:=min_exists _ (Nat.le_refl _) h;have hgv:=hg.valid;have hnon:∀{m a b:Nat} {T':Tree},Min g w ⟨false,m⟩ T' a b→m<g.nons:=fun {m a b T'} h=>by
  cases h.1 with
  | node h1 _=>exact(hgv.right _ (gM h1)).1
 have hn:=hnon h1;have hlen:((List.range g.nons).erase g.start).length≤3:=by
  rw[List.length_erase_of_mem (List.mem_range.2 hn),List.length_range];have:=hg.nons.2;omega
 have hlow:∀m T2,Min g w ⟨false,m⟩ T2 0 w.length→T2.pre.length<T'.pre.length→m∈(List.range g.nons).erase g.start:=fun m T2 h2 h3=>mem_erase' (List.mem_range.2 (hnon h2)) fun e=>by
  subst e;have:=h1.eq h2;omega
 have h3:∀r∈g.rules,r.right.length≤3:=fun r hr=>(hg.ok r hr).2.1;refine⟨T',h1.1,?_⟩;rcases Nat.eq_zero_or_pos w.length with e | e
 ·rw[e] at h1 hlow ⊢;have:=emp_bound hgv h3 3 _ g.start 0 T' hlen h1 hlow;exact this
 ·have:=part_bound hgv hg.nons.2 h3 w.length 3 _ g.start 0 w.length T' zo e hlen h1 hlow;omega
end
mutual
theorem TreeOf.ends{g:Gram}{w:List Nat}:∀{t:Tree} {s s':Sym} {i j j':Nat},TreeOf g w s t i j→TreeOf g w s' t i j'→j=j'
 | .mk _ _ _,_,_,_,_,_,.leaf _,h=>by
  generalize hr:(-1:Int)=r at h;cases h with
  | leaf _=>rfl
  | node _ _=>omega
 | .mk _ _ ks,_,_,_,_,_,.node (k:=k) h h2,h'=>by
  generalize hr:(k:Int)=r at h';cases h' with
  | leaf _=>omega
  | node _ h3=>exact TreesOf.ends h2 h3
theorem TreesOf.ends{g:Gram}{w:List Nat}:∀{ts:List Tree} {l l':List Sym} {i j j':Nat},TreesOf g w l ts i j→TreesOf g w l' ts i j'→j=j'
 | [],_,_,_,_,_,.nil,h=>by cases h;rfl
 | t::ts,_,_,_,_,_,.cons h1 h2,h=>by
  cases h with
  | cons h3 h4=>
   obtain rfl:=TreeOf.ends h1 h3;exact TreesOf.ends h2 h4
end
mutual
theorem TreeOf.toDer{g:Gram}{w:List Nat}:∀{t:Tree} {s:Sym} {i j:Nat},TreeOf g w s t i j→Der g w s i j
 | .mk _ _ _,_,_,_,.leaf h=>.term h
 | .mk _ _ ks,_,_,_,.node h h2=>.non (gM h) (TreesOf.toDer h2)
theorem TreesOf.toDer{g:Gram}{w:List Nat}:∀{ts:List Tree} {l:List Sym} {i j:Nat},TreesOf g w l ts i j→Ders g w l i j
 | [],_,_,_,.nil=>.nil
 | t::ts,_,_,_,.cons h1 h2=>.cons (TreeOf.toDer h1) (TreesOf.toDer h2)
end
theorem two_sum:∀{l:List Nat},2≤l.sum→(∃(a:Nat) (x:Nat),l[a]?=some x∧2≤x)∨∃(a b x y:Nat),a<b∧l[a]?=some x∧l[b]?=some y∧1≤x∧1≤y
 | [],h=>by simp at h
 | z::l,h=>by
  rw[List.sum_cons] at h;by_cases h2:2≤z
  ·exact .inl ⟨0,z,rfl,h2⟩
  ·by_cases h0:z=0
   ·rcases two_sum (l:=l) zo with ⟨a,x,h3,h4⟩ | ⟨a,b,x,y,h3,h4,h5,h6,h7⟩
    ·exact .inl ⟨a+1,x,h3,h4⟩
    ·exact .inr ⟨a+1,b+1,x,y,by omega,h4,h5,h6,h7⟩
   ·obtain⟨y,hy,h3⟩:=sum_pos (l:=l) zo;obtain⟨b,hb,hb2⟩:=List.getElem_of_mem hy;exact .inr ⟨0,b+1,z,y,by omega,rfl,by rw[List.getElem?_cons_succ,gE hb,hb2],by omega,h3⟩
theorem mul_pos'{a b:Nat}(h:1≤a*b):1≤a∧1≤b:=by
 constructor
 ·rcases Nat.eq_zero_or_pos a with e | e
  ·rw[e,Nat.zero_mul] at h;omega
  ·exact e
 ·rcases Nat.eq_zero_or_pos b with e | e
  ·rw[e,Nat.mul_zero] at h;omega
  ·exact e
theorem mul_two{a b:Nat}(h:2≤a*b):(2≤a∧1≤b)∨(1≤a∧2≤b):=by
 obtain⟨h1,h2⟩:=mul_pos' (a:=a) (b:=b) zo;by_cases e:2≤a
 ·exact .inl ⟨e,h2⟩
 ·obtain rfl:a=1:=by omega
  exact .inr ⟨Nat.le_refl _,by omega⟩
section
variable {g:Gram}{w:List Nat}
theorem listT_trees{f:Sym→Nat→Nat→Nat}(h1:∀s i j,1≤f s i j→∃T,TreeOf g w s T i j)(h2:∀s i j,2≤f s i j→∃T T',T≠T'∧TreeOf g w s T i j∧TreeOf g w s T' i j) :
  ∀(l:List Sym) (i j:Nat),(1≤listT f l i j→∃ts,TreesOf g w l ts i j)∧(2≤listT f l i j→∃ts ts',ts≠ts'∧TreesOf g w l ts i j∧TreesOf g w l ts' i j)
 | [],i,j=>by
  unfold listT;split
  ·rename_i e;subst e;exact⟨fun _=>⟨[],.nil⟩,fun h=>by omega⟩
  ·exact⟨fun h=>by omega,fun h=>by omega⟩
 | s::l,i,j=>by
  have ih:=listT_trees h1 h2 l;unfold listT;have hat:∀{a x:Nat},((List.range (j+1)).map fun m=>f s i m*listT f l m j)[a]?=some x→x=f s i a*listT f l a j:=fun {a x} h=>by
   rw[List.getElem?_map] at h;cases hm:(List.range (j+1))[a]? with
   | none=>rw[hm] at h;cases h
   | some m=>
    rw[hm] at h;have h3:=gS hm;obtain⟨h3,h4⟩:=h3;rw[List.getElem_range] at h4;subst h4;exact(Option.some.inj h).symm
  constructor
  ·intro h;obtain⟨x,hx,h3⟩:=sum_pos h;obtain⟨m,_,rfl⟩:=List.mem_map.1 hx;obtain⟨h4,h5⟩:=mul_pos' h3;obtain⟨T,hT⟩:=h1 _ _ _ h4;obtain⟨ts,hts⟩:=(ih m j).1 h5;exact⟨T::ts,.cons hT hts⟩
  ·intro h;rcases two_sum h with ⟨a,x,h3,h4⟩ | ⟨a,b,x,y,h3,h4,h5,h6,h7⟩
   ·rw[hat h3] at h4;rcases mul_two h4 with ⟨h5,h6⟩ | ⟨h5,h6⟩
    ·obtain⟨T,T',hne,hT,hT'⟩:=h2 _ _ _ h5;obtain⟨ts,hts⟩:=(ih a j).1 h6;exact⟨T::ts,T'::ts,fun e=>hne (List.head_eq_of_cons_eq e),.cons hT hts,.cons hT' hts⟩
    ·obtain⟨T,hT⟩:=h1 _ _ _ h5;obtain⟨ts,ts',hne,hts,hts'⟩:=(ih a j).2 h6;exact⟨T::ts,T::ts',fun e=>hne (List.tail_eq_of_cons_eq e),.cons hT hts,.cons hT hts'⟩
   ·rw[hat h4] at h6;rw[hat h5] at h7;obtain⟨a1,a2⟩:=mul_pos' h6;obtain⟨b1,b2⟩:=mul_pos' h7;obtain⟨T,hT⟩:=h1 _ _ _ a1;obtain⟨ts,hts⟩:=(ih a j).1 a2;obtain⟨T',hT'⟩:=h1 _ _ _ b1;obtain⟨ts',hts'⟩:=(ih b j).1 b2;refine⟨T::ts,T'::ts',fun e=>?_,.cons hT hts,.cons hT' hts'⟩;have e:=List.head_eq_of_cons_eq e;subst e;have:=hT.ends hT';omega
theorem symT_trees:∀(d:Nat) (s:Sym) (i j:Nat),(1≤symT g w d s i j→∃T,TreeOf g w s T i j)∧(2≤symT g w d s i j→∃T T',T≠T'∧TreeOf g w s T i j∧TreeOf g w s T' i j)
 | 0,s,i,j=>⟨fun h=>absurd h (by show ¬1≤0;omega),fun h=>absurd h (by show ¬2≤0;omega)⟩
 | d+1,⟨b,n⟩,i,j=>by
  have ih:=listT_trees (g:=g) (w:=w) (f:=symT g w d) (fun s i j=>(symT_trees d s i j).1) (fun s i j=>(symT_trees d s i j).2);unfold symT;cases b with
  | true=>
   rw[if_pos rfl];split
   ·rename_i h;obtain⟨h,rfl⟩:=h;exact⟨fun _=>⟨_,.leaf h⟩,fun h=>by omega⟩
   ·exact⟨fun h=>by omega,fun h=>by omega⟩
  | false=>
   rw[if_neg (by simp)];have hat:∀{a x:Nat},(g.rules.map fun r=>if r.left=n then listT (symT g w d) r.right i j else 0)[a]?=some x→1≤x→∃r,g.rules[a]?=some r∧r.left=n∧x=listT (symT g w d) r.right i j:=fun {a x} h hx=>by
    rw[List.getElem?_map] at h;cases hm:g.rules[a]? with
    | none=>rw[hm] at h;cases h
    | some r=>
     rw[hm] at h;have h:=Option.some.inj h;dsimp only at h;split at h
     ·rename_i hl;exact⟨r,rfl,hl,h.symm⟩
     ·omega
   constructor
   ·intro h;obtain⟨x,hx,h3⟩:=sum_pos h;obtain⟨a,ha,ha2⟩:=List.getElem_of_mem hx;obtain⟨r,hr,rfl,rfl⟩:=hat (by rw[gE ha,ha2]) h3;obtain⟨ts,hts⟩:=(ih r.right i j).1 h3;exact⟨_,.node hr hts⟩
   ·intro h;rcases two_sum h with ⟨a,x,h3,h4⟩ | ⟨a,b,x,y,h3,h4,h5,h6,h7⟩
    ·obtain⟨r,hr,rfl,rfl⟩:=hat h3 zo;obtain⟨ts,ts',hne,hts,hts'⟩:=(ih r.right i j).2 h4;exact⟨_,_,fun e=>hne (by simpa using e),.node hr hts,.node hr hts'⟩
    ·obtain⟨r,hr,hl,rfl⟩:=hat h4 h6;obtain⟨r',hr',hl',rfl⟩:=hat h5 h7;obtain⟨ts,hts⟩:=(ih r.right i j).1 h6;obtain⟨ts',hts'⟩:=(ih r'.right i j).1 h7;have t1:=TreeOf.node hr hts;have t2:=TreeOf.node hr' hts';rw[hl] at t1;rw[hl'] at t2;refine⟨_,_,fun e=>?_,t1,t2⟩;simp only[Tree.mk.injEq] at e;omega
theorem count_only{c:Int}(hc:CountVal (fun d=>symT g w d ⟨false,g.start⟩ 0 w.length) c)(hu:∀T T',TreeOf g w ⟨false,g.start⟩ T 0 w.length→TreeOf g w ⟨false,g.start⟩ T' 0 w.length→T=T') :
  ((∃T,TreeOf g w ⟨false,g.start⟩ T 0 w.length)→c=1)∧((¬∃T,TreeOf g w ⟨false,g.start⟩ T 0 w.length)→c=0):=by
 have hle:∀d,symT g w d ⟨false,g.start⟩ 0 w.length≤1:=fun d=>by
  rcases Nat.lt_or_ge 1 (symT g w d ⟨false,g.start⟩ 0 w.length) with h | h
  ·obtain⟨T,T',hne,h1,h2⟩:=(symT_trees d _ _ _).2 h;exact absurd (hu T T' h1 h2) hne
  ·exact h
 have hM:MAXC=1000000000:=rfl;rcases hc with ⟨n,⟨D,hD⟩,rfl⟩ | ⟨hU,_⟩
 ·have hn:=hD D (Nat.le_refl _);dsimp only at hn;have hn1:=hle D;constructor
  ·rintro⟨T,hT⟩;obtain⟨d,hd⟩:=der_symT hT.toDer;have h1:=hD (max D d) zo;dsimp only at h1;have h2:=symT_le g w (show d≤max D d by omega) ⟨false,g.start⟩ 0 w.length;have:n=1:=by omega
   subst this;rw[hM];decide
  ·intro hno;have:n=0:=by
    rcases Nat.eq_zero_or_pos n with e | e
    ·exact e
    ·exact absurd ((symT_trees (g:=g) (w:=w) D _ _ _).1 zo) hno
   subst this;rw[hM];decide
 ·obtain⟨d,hd⟩:=hU 2;have:=hle d;dsimp only at hd;omega
end
structure LSt where
 O:List Int
 B:List (Nat×Blk)
 again:Bool
structure BtS where
 xs:List Bool
 a:Option Addr
 m:Nat
 c:Nat
 B:List (Nat×Blk)
structure DS where
 i:Nat
 j:Nat
 ys:List Rule
 B:List (Nat×Blk)
structure ChP where
 ic:Nat
 ra:Option Addr
 rm:Nat
 rc:Nat
structure CSt where
 k:Nat
 old:List (List Item)
 last:List Item
 sa:Option Addr
 sc:Nat
 BS:List (Nat×Blk)
 vs:List Value
 la:Option Addr
 lc:Nat
 BL:List (Nat×Blk)
 us:List Value
 im:Nat
 es:Ents Item
 xa:Option Addr
 xn:Nat
 xc:Nat
 BX:List (Nat×Blk)
structure QInv(g:Gram)(Q:Nat→Item→Prop):Prop where
 ok:∀k x,Q k x→ItemOk g.rules k x
 predict:∀k x n i r,Q k x→nextOf g.rules x=some ⟨false,n⟩→g.rules[i]?=some r→r.left=n→Q k ⟨i,0,k⟩
 complete:∀k x y r,Q k x→g.rules[x.rule]?=some r→x.dot=r.right.length→Q x.frm y→nextOf g.rules y=some ⟨false,r.left⟩→Q k (stepItem y)
structure COk(g:Gram)(Q:Nat→Item→Prop)(q:ChP)(F:Frz)(s:CSt):Prop where
 rules:Arr tRule F q.ra q.rm q.rc g.rules
 sets:Bld tRaw F s.sa (s.k+1) s.sc s.BS (s.vs++[.map (some s.im)])
 list:Bld tRaw F s.la (s.k+1) s.lc s.BL (s.us++[.slice s.xa s.xn s.xc])
 usl:s.us.length=s.k
 oldl:s.old.length=s.k
 olds:∀(j:Nat) (l:List Item),s.old[j]?=some l→∃a n c,s.us[j]?=some (.slice a n c)∧Arr tItem F a n c l
 map:∀y,Abs.look s.es y=if y∈s.last then some (.bool true) else none
 last:Bld tItem F s.xa s.xn s.xc s.BX s.last
 nodup:s.last.Nodup
 qold:∀(j:Nat) (l:List Item),s.old[j]?=some l→∀x∈l,Q j x
 qlast:∀x∈s.last,Q s.k x
 small:s.k≤20
 olen:∀(j:Nat) (l:List Item),s.old[j]?=some l→l.length≤3360
 ndold:∀(j:Nat) (l:List Item),s.old[j]?=some l→l.Nodup
theorem COk.mono{g:Gram}{Q:Nat→Item→Prop}{q:ChP}{F G:Frz}{s:CSt}(h:COk g Q q F s)(hF:Frz.le F G):COk g Q q G s:=
 ⟨h.rules.mono hF,h.sets.mono hF,h.list.mono hF,h.usl,h.oldl,fun j l hj=>by obtain⟨a,n,c,h1,h2⟩:=h.olds j l hj;exact⟨a,n,c,h1,h2.mono hF⟩,h.map,h.last.mono hF,h.nodup,h.qold,h.qlast,h.small,h.olen,h.ndold⟩
structure Grows(s s':CSt)(P:Item→Prop):Prop where
 k:s'.k=s.k
 old:s'.old=s.old
 last:∃new,s'.last=s.last++new∧∀y∈new,P y
theorem Grows.refl(s:CSt)(P:Item→Prop):Grows s s P:=⟨rfl,rfl,[],by simp,fun _ h=>by cases h⟩
theorem Grows.trans{s t u:CSt}{P:Item→Prop}(h1:Grows s t P)(h2:Grows t u P):Grows s u P:=by
 obtain⟨n1,e1,p1⟩:=h1.last;obtain⟨n2,e2,p2⟩:=h2.last;refine⟨h2.k.trans h1.k,h2.old.trans h1.old,n1++n2,by rw[e2,e1,List.append_assoc],fun y hy=>?_⟩;rcases List.mem_append.1 hy with hy | hy
 ·exact p1 y hy
 ·exact p2 y hy
theorem Grows.mono{s t:CSt}{P P':Item→Prop}(h:Grows s t P)(hp:∀y,P y→P' y):Grows s t P':=by
 obtain⟨n,e,p⟩:=h.last;exact⟨h.k,h.old,n,e,fun y hy=>hp y (p y hy)⟩
def LS(s:CSt):Nat→List Item:=fun j=>if j=s.k then s.last else s.old.getD j []
structure CI where
 s:CSt
 n:Int
structure CJ where
 s:CSt
 i:Nat
structure NB where
 xs:List Bool
 B:List (Nat×Blk)
def QI(g:Gram):Nat→Item→Prop:=fun k x=>ItemOk g.rules k x
structure FSt where
 fi:Nat
 ga:Option Addr
 gm:Nat
 gc:Nat
 q:ChP
 s:CSt
 wa:Option Addr
 wn:Nat
 wc:Nat
 BW:List (Nat×Blk)
 w:List Nat
 E:List Bool
structure FdOk(g:Gram)(F:Frz)(f:FSt):Prop where
 rules:Arr tRule F f.ga f.gm f.gc g.rules
 ends:EndsIn g f.E
 chart:COk (trimmed f.E g) (QI (trimmed f.E g)) f.q F f.s
 k:f.s.k=f.w.length
 sets:Sets (trimmed f.E g) f.w (LS f.s)
 word:Bld tNat F f.wa f.wn f.wc f.BW f.w
 ok:∀t∈f.w,t<g.terms
theorem FdOk.mono{g:Gram}{F G:Frz}{f:FSt}(h:FdOk g F f)(hF:Frz.le F G):FdOk g G f:=⟨h.rules.mono hF,h.ends,h.chart.mono hF,h.k,h.sets,h.word.mono hF,h.ok⟩
structure NextOk(g:Gram)(f:FSt)(xs:List Bool):Prop where
 len:xs.length=g.terms+1
 term:∀t,t<g.terms→(xs[t]?=some true↔∃x∈f.s.last,nextOf (trimmed f.E g).rules x=some ⟨true,t⟩)
 done:xs[g.terms]?=some (derives g f.w g.start 0 f.w.length)
structure SSt where
 k:Nat
 lists:List (List Item)
 sa:Option Addr
 sc:Nat
 BS:List (Nat×Blk)
 vs:List Value
 la:Option Addr
 lc:Nat
 BL:List (Nat×Blk)
 us:List Value
structure SOk(g:Gram)(Q:Nat→Item→Prop)(q:ChP)(F:Frz)(s:SSt):Prop where
 rules:Arr tRule F q.ra q.rm q.rc g.rules
 sets:GB tRaw F s.sa (s.k+1) s.sc s.BS s.vs
 list:GB tRaw F s.la (s.k+1) s.lc s.BL s.us
 len:s.lists.length=s.k+1
 olds:∀(j:Nat) (l:List Item),s.lists[j]?=some l→∃a n c,s.us[j]?=some (.slice a n c)∧Arr tItem F a n c l
 all:∀(j:Nat) (l:List Item),s.lists[j]?=some l→∀x∈l,Q j x
 small:s.k≤20
 olen:∀(j:Nat) (l:List Item),s.lists[j]?=some l→l.length≤3360
 nd:∀(j:Nat) (l:List Item),s.lists[j]?=some l→l.Nodup
theorem SOk.mono{g:Gram}{Q:Nat→Item→Prop}{q:ChP}{F G:Frz}{s:SSt}(h:SOk g Q q F s)(hF:Frz.le F G):SOk g Q q G s:=
 ⟨h.rules.mono hF,h.sets.mono hF,h.list.mono hF,h.len,fun j l hj=>by obtain⟨a,n,c,h1,h2⟩:=h.olds j l hj;exact⟨a,n,c,h1,h2.mono hF⟩,h.all,h.small,h.olen,h.nd⟩
def LZ(s:SSt):Nat→List Item:=fun j=>s.lists.getD j []
def QP(g:Gram)(w:List Nat):Nat→Item→Prop:=fun k x=>ItemOk g.rules k x∧(k≤w.length→∀L,Sets g (w.take k) L→x∈L k)
structure FZ where
 fi:Nat
 ga:Option Addr
 gm:Nat
 gc:Nat
 q:ChP
 s:SSt
 wa:Option Addr
 wn:Nat
 wc:Nat
 BW:List (Nat×Blk)
 w:List Nat
 E:List Bool
structure ZOk(g:Gram)(F:Frz)(f:FZ):Prop where
 rules:Arr tRule F f.ga f.gm f.gc g.rules
 ends:EndsIn g f.E
 chart:SOk (trimmed f.E g) (QP (trimmed f.E g) f.w) f.q F f.s
 k:f.s.k=f.w.length
 sets:Sets (trimmed f.E g) f.w (LZ f.s)
 word:GB tNat F f.wa f.wn f.wc f.BW f.w
 ok:∀t∈f.w,t<g.terms
theorem ZOk.mono{g:Gram}{F G:Frz}{f:FZ}(h:ZOk g F f)(hF:Frz.le F G):ZOk g G f:=⟨h.rules.mono hF,h.ends,h.chart.mono hF,h.k,h.sets,h.word.mono hF,h.ok⟩
structure NextZ(g:Gram)(f:FZ)(xs:List Bool):Prop where
 len:xs.length=g.terms+1
 term:∀t,t<g.terms→(xs[t]?=some true↔∃x∈LZ f.s f.s.k,nextOf (trimmed f.E g).rules x=some ⟨true,t⟩)
 done:xs[g.terms]?=some (derives g f.w g.start 0 f.w.length)
end Go.Proofs.D