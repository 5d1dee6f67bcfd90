/-
  Walks: what functions of the program do, over the abstract machine.
-/
import Derived.Test.YtebndojjghnhoaaGreatDoorWk3
set_option linter.unusedVariables false
set_option maxRecDepth 20000
set_option maxHeartbeats 0
open Go Go.Abs Go.Proofs Go.Proofs.D
namespace Go.Proofs.D
def tAct:Ty (Nat×Nat) where
 size:=2
 rel:=fun _ l x=>l=[.int .i64 x.1,.int .i64 x.2]
 len:=fun _ _ _ h=>by rw[h];rfl
 one:=fun _ _ _ h=>by rw[h];rfl
 mono:=fun _ _ _ _ _ h=>h
def actOne(g:Gram)(t:Nat)(lk:Look):Option (Nat×Nat):=if afterL g lk.item=none∧lk.set.testBit t=true then some (if lk.item.rule<g.rules.length then (2,lk.item.rule) else (3,0)) else none
def actPre(g:Gram)(row:List Int)(t:Nat):List (Nat×Nat):=if t<g.terms then (match row[t]? with | some j=>if 0≤j then [(1,j.toNat)] else [] | none=>[]) else []
theorem actsF_eq(g:Gram)(st:List Look)(row:List Int)(t:Nat):actsF g st row t=actPre g row t++st.filterMap (actOne g t):=rfl
theorem actPre_len{g:Gram}{row:List Int}{t:Nat}:(actPre g row t).length≤1:=by
 unfold actPre;by_cases h:t<g.terms
 ·rw[if_pos h];cases row[t]? with
  | none=>exact Nat.zero_le _
  | some j=>
   dsimp only;by_cases h2:0≤j
   ·rw[if_pos h2];exact Nat.le_refl _
   ·rw[if_neg h2];exact Nat.zero_le _
 ·rw[if_neg h];exact Nat.zero_le _
structure AcS where
 vs:List Value
 a:Option Addr
 m:Nat
 c:Nat
 B:List (Nat×Blk)
 l:List (Nat×Nat)
theorem fm_take{α β:Type}{f:α→Option β}{l:List α}{k:Nat}{x:α}(h:l[k]?=some x):(l.take (k+1)).filterMap f=(l.take k).filterMap f++(f x).toList:=by
 rw[List.take_add_one,h,List.filterMap_append];cases hf:f x<;>simp[hf]
theorem fm_len{α β:Type}(f:α→Option β)(l:List α)(k:Nat):((l.take k).filterMap f).length≤k:=Nat.le_trans (List.length_filterMap_le _ _) (by simp;omega)
theorem perm_tail3{α:Type}(B:List α)(x:α)(bs:List α)(own:List (List α)):(B::[x]::bs::own).flatten.Perm ([x]::(bs++B)::own).flatten:=by
 classical
 rw[List.perm_iff_count];intro y;simp only[List.flatten_cons,List.count_append];omega
theorem shE0{p:Prop} (h:p:=by
 intro k u F2 hF2 hk hP;obtain⟨hub,huv,hul⟩:=hP;have hst2:=hst1.mono hF2;have hr2:=(hr.mono hF1).mono hF2;have hubl:=hub.len;have hf1:=fm_len (actOne g t) st k;have hpre:(actPre g row t).length≤1:=by
  exact actPre_len
 have hull:u.l.length≤1+k:=by rw[hul,List.length_append];omega
 have hvs1:u.vs[0+t*1]?=some (.slice u.a u.m u.c):=by rw[huv,List.getElem?_set_self zo]
 have huvl:u.vs.length=g.terms+1:=by rw[huv,List.length_set];exact hvl
 refine zC8 ?_;refine WT.idxL hT hst2 Z Z Z Z Z Z Z Z Z zo (fun x hxk b5 off5 ro5 cs5 lx5 hb5 hp5 hrel5=>?_);obtain rfl:lx5=_:=hrel5;obtain⟨hxo,hxs⟩:=hok x (gM hxk);have hfm:=fm_take (f:=actOne g t) hxk;have hxr:=hxo.1;refine zC8 ?_;refine WT.allocT hT Z Z Z Z Z Z (fun i10 hi10=>?_);refine zC8 ?_;have haf:=lrAfter_spec F2 g hg4 hr2 zo x.item zo;unfold gramCells at haf;refine WT.callV Tryz.func131 Z Z Z Z Z Z haf (fun v hv=>?_);obtain⟨z,bo,rfl,hay,han⟩:=hv;obtain⟨zt,zn⟩:=z;refine zC8 ?_;refine WT.allocT hT Z Z Z Z Z Z (fun i11 hi11=>?_);refine zC8 ?_
 have skip:actOne g t x=none→u.l=actPre g row t++(st.take (k+1)).filterMap (actOne g t):=fun e=>by rw[hfm,e,hul];simp
 refine WT.split 61 Z (fun hbo=>?_) (fun hbo=>?_)
 ·refine zC8 ?_;refine AW.cond Z (fun _=>?_) (fun h=>(by cases h));refine AW.exit ?_;refine⟨u,sM,zow,hub,huv,skip ?_⟩;unfold actOne;rw[if_neg (by rw[hay hbo];simp)]
 ·have han:=han hbo;refine zC8 ?_;refine WT.shr32 (x:=x.set) (y:=t) Z Z Z Z Z Z zo ?_;refine WT.and32 (x:=x.set / 2 ^ t) (y:=1) Z Z Z Z Z Z (Nat.lt_of_le_of_lt (Nat.div_le_self _ _) zo) (by decide) ?_;rw[shift_bit];refine zC8 ?_;refine AW.cond Z (fun h=>?_) (fun h=>?_)
  ·have h:x.set.testBit t=false:=by
    cases hb:x.set.testBit t with
    | false=>rfl
    | true=>rw[hb] at h;simp at h
   refine AW.exit ?_;refine⟨u,sM,zow,hub,huv,skip ?_⟩;unfold actOne;rw[if_neg (by rw[h];simp)]
  ·have h:x.set.testBit t=true:=by
    cases hb:x.set.testBit t with
    | true=>rfl
    | false=>rw[hb] at h;simp at h
   refine zC8 ?_;refine AW.cond Z (fun h2=>?_) (fun h2=>?_)
   ·have h2:x.item.rule<g.rules.length:=by simp at h2;omega
    have hone:actOne g t x=some (2,x.item.rule):=by unfold actOne;rw[if_pos ⟨han,h⟩,if_pos h2]
    refine AW.draw (ps:=[(5,10)]) Z Z ?_;refine zC8 ?_;refine WT.idxA (j:=t) (s:=1) hT Z Z Z Z Z Z Z Z Z ht ?_;refine WT.loadAt hT 3 Z Z Z Z Z Z me Z Z hvs1 ?_;refine zC8 ?_;refine WT.buildT hT Z Z Z Z Z Z Z Z Z Z Z Z Z Z (fun i33 hi33=>?_);refine WT.appendT (R:=tAct) (ys:=[(2,x.item.rule)]) hT 3 hub Z (fun _=>rfl) Z Z Z Z Z Z Z Z Z Z Z (fun h0 s0=>news_own hT s0 0 Z Z Z Z) (Cells.single (R:=tAct) (x:=(2,x.item.rule)) rfl) Z (by decide) zom (fun a3 c3 B3 hB3=>?_);refine WT.idxA (j:=t) (s:=1) hT Z Z Z Z Z Z Z Z Z ht ?_;refine WT.storeAt hT 4 0 Z Z Z Z Z Z Z Z Z Z zo Z Z ?_;refine zC8 ?_
    refine⟨zrC,?_⟩;refine⟨⟨u.vs.set (0+t*1) (.slice a3 (u.m+1) c3),a3,u.m+1,c3,B3,u.l++[(2,x.item.rule)]⟩,sM,zow,hB3,?_,?_⟩
    ·dsimp only;rw[huv,List.set_set]
    ·dsimp only;rw[hul,hfm,List.append_assoc,hone];rfl
   ·have h2:x.item.rule=g.rules.length:=by simp at h2;omega
    have hone:actOne g t x=some (3,0):=by unfold actOne;rw[if_pos ⟨han,h⟩,if_neg zo]
    refine zC8 ?_;refine WT.idxA (j:=t) (s:=1) hT Z Z Z Z Z Z Z Z Z ht ?_;refine WT.loadAt hT 3 Z Z Z Z Z Z me Z Z hvs1 ?_;refine zC8 ?_;refine WT.buildT hT Z Z Z Z Z Z Z Z Z Z Z Z Z Z (fun i33 hi33=>?_);refine WT.appendT (R:=tAct) (ys:=[((3,0):Nat×Nat)]) hT 3 hub Z (fun _=>rfl) Z Z Z Z Z Z Z Z Z Z Z (fun h0 s0=>news_own hT s0 0 Z Z Z Z) (Cells.single (R:=tAct) (x:=((3,0):Nat×Nat)) rfl) Z (by decide) zom (fun a3 c3 B3 hB3=>?_);refine WT.idxA (j:=t) (s:=1) hT Z Z Z Z Z Z Z Z Z ht ?_;refine WT.storeAt hT 4 0 Z Z Z Z Z Z Z Z Z Z zo Z Z ?_;refine zC8 ?_
    refine⟨⟨u.vs.set (0+t*1) (.slice a3 (u.m+1) c3),a3,u.m+1,c3,B3,u.l++[((3,0):Nat×Nat)]⟩,sM,zow,hB3,?_,?_⟩
    ·dsimp only;rw[huv,List.set_set]
    ·dsimp only;rw[hul,hfm,List.append_assoc,hone];rfl):p:=h
theorem shE3{p:Prop} (h:p:=by
 intro u F2 hF2 hP;obtain⟨hub,huv,hul⟩:=hP;rw[List.take_of_length_le zo] at hul;have huvl:u.vs.length=g.terms+1:=by rw[huv,List.length_set];exact hvl
 rw[←actsF_eq] at hul;rw[hul] at hub;refine⟨⟨u.vs,bs++u.B⟩,sM,OwnLe.flat (perm_tail3 _ _ _ _),huvl,fun k hk=>?_,fun k h1 h2=>?_⟩
 ·rcases Nat.lt_or_ge k t with h6 | h6
  ·obtain⟨xa,xn,xc,e1,e2⟩:=hold k h6;exact⟨xa,xn,xc,by dsimp only;rw[huv,List.getElem?_set_ne zo];exact e1,fun H h1 h2=>e2 H (hF2.trans h1) fun i b hm=>h2 i b (List.mem_append_left _ hm)⟩
  ·obtain rfl:k=t:=by omega
   exact⟨_,_,_,by dsimp only;rw[huv,Nat.zero_add,Nat.mul_one,List.getElem?_set_self zo],fun H h1 h2=>hub.frozen h1 fun i b hm=>h2 i b (List.mem_append_right _ hm)⟩
 ·dsimp only;rw[huv,List.getElem?_set_ne zo];exact hrest k zo h2):p:=h
theorem shE12{p:Prop} (h:p:=by
 refine zC8 ?_;refine AW.range (S:=AcS) (fun _=>[]) (fun u=>u.B::[(io,.cells false u.vs)]::bs::[(i3,.cells false [.int .i64 g.terms,.int .i64 g.nons,.int .i64 g.start,.slice a m c])]::own)
  (fun k u G=>Bld tAct G u.a u.m u.c u.B u.l∧u.vs=vs.set (0+t*1) (.slice u.a u.m u.c)∧u.l=actPre g row t++(st.take k).filterMap (actOne g t)) n ⟨vs,none,0,0,[],[]⟩
  Z Z Z Z Z Z Z Z Z zo rfl rfl (fun _=>rfl) (fun _=>rfl) sM (OwnLe.flat (List.Perm.refl _)) ⟨Bld.nil_ _ _,hset0.symm,by rw[hpre0];rfl⟩ ?_ ?_
 ·exact shE0
 ·exact shE3):p:=h
theorem actions_spec(F:Frz)(g:Gram)(hg:Valid g){a:Option Addr}{m c:Nat}(hr:Arr tRule F a m c g.rules){b:Option Addr}{n d:Nat}{st:List Look}(hst:Arr tLook F b n d st)(hn:n≤1000)(hok:∀x∈st,OkLr g x.item∧x.set<2 ^ (g.terms+1))
  {rb:Option Addr} {rn rd:Nat} {row:List Int} (hrow:Arr tInt F rb rn rd row) (hrn:g.terms≤rn) :
  Abs.Spec CC 89 [.agg ⟨gramCells g a m c⟩,.slice b n d,.slice rb rn rd] F [] fun F' v o=>o=[]∧∃a' n' c',v=.slice a' n' c'∧Arr (tList tAct) F' a' n' c' ((List.range (g.terms+1)).map fun t=>actsF g st row t):=by
 have hgr:=hg.range.rules;have hgt:=hg.range.terms;have hrl:=hr.len;have hsl:=hst.len;have hrwl:=hrow.len;have hp:=pow_small hg.range.terms.2;have hg4:∀r∈g.rules,r.right.length≤100:=fun r h=>by have:=(hg.right r h).2.1;omega
 unfold gramCells;refine Abs.Spec.fn (n:=102) Tryz.func89 rfl rfl fun own=>?_;refine AW.seq (AW.reg ?_);refine WT.boxT Z Z Z Z Z Z (fun i3 hi3=>?_);refine zC8 ?_;refine WT.makeT (l:=g.terms+1) hT Z Z Z Z Z Z Z Z Z Z Z Z zom (fun io hio=>?_);rw[cap_eq,if_neg (show ¬g.terms+1=0 by omega)];refine zC8 ?_;refine AW.range (S:=P1S) (fun _=>[]) (fun s=>[(io,.cells false s.vs)]::s.bs::[(i3,.cells false [.int .i64 g.terms,.int .i64 g.nons,.int .i64 g.start,.slice a m c])]::own)
  (fun t s G=>s.vs.length=g.terms+1∧(∀k,k<t→∃xa xn xc,s.vs[k]?=some (.slice xa xn xc)∧∀H,Frz.le G H→(∀i b,(i,b)∈s.bs→H i=some b)→Arr tAct H xa xn xc (actsF g st row k))∧∀k,t≤k→k<g.terms+1→s.vs[k]?=some (.slice none 0 0)) (g.terms+1) ⟨List.replicate (g.terms+1) (.slice none 0 0),[]⟩
  Z Z Z Z Z Z Z Z Z zo rfl rfl (fun _=>rfl) (fun _=>rfl) sM (OwnLe.flat (List.Perm.refl _)) ⟨by simp,fun k hk=>absurd hk (Nat.not_lt_zero _),fun k _ hk=>by rw[List.getElem?_replicate,if_pos hk]⟩ ?_ ?_
 ·intro t s F1 hF1 ht hP;obtain⟨hvl,hold,hrest⟩:=hP;obtain⟨vs,bs⟩:=s;dsimp only at hvl hold hrest;have hst1:=hst.mono hF1;have hrow1:=hrow.mono hF1;have htn:=hrest t (Nat.le_refl _) ht;have hset0:vs.set (0+t*1) (.slice none 0 0)=vs:=by
   apply List.ext_getElem?;intro i;by_cases e:i=t
   ·subst e;rw[Nat.zero_add,Nat.mul_one,List.getElem?_set_self zo,htn]
   ·rw[Nat.zero_add,Nat.mul_one,List.getElem?_set_ne (fun e2=>e e2.symm)]
  refine zC8 ?_;refine WT.split 26 Z (fun htt=>?_) (fun htt=>?_)
  ·have htt:t<g.terms:=by simpa using htt
   obtain⟨j,hj⟩:∃j,row[t]?=some j:=⟨_,gE zo⟩;refine zC8 ?_;refine WT.idxL hT hrow1 Z Z Z Z Z Z Z Z Z zo (fun j2 hj2 b7 off7 ro7 cs7 lx7 hb7 hp7 hrel7=>?_);obtain rfl:lx7=_:=hrel7;rw[hj] at hj2;obtain rfl:=Option.some.inj hj2;refine zC8 ?_;refine AW.cond Z (fun h6=>?_) (fun h6=>?_)
   ·have h6:0≤j:=by simpa using h6
    have hpre0:actPre g row t=[(1,j.toNat)]:=by unfold actPre;rw[if_pos htt,hj];dsimp only;rw[if_pos h6]
    obtain⟨jn,rfl⟩:=Int.eq_ofNat_of_zero_le h6;refine AW.le (own2:=[]::[(io,.cells false vs)]::bs::[(i3,.cells false [.int .i64 g.terms,.int .i64 g.nons,.int .i64 g.start,.slice a m c])]::own) (OwnLe.flat (List.Perm.refl _)) ?_;refine AW.draw (ps:=[(5,11)]) Z Z ?_;refine zC8 ?_;refine WT.idxA (j:=t) (s:=1) hT Z Z Z Z Z Z Z Z Z ht ?_;refine WT.loadAt hT 1 Z Z Z Z Z Z me Z Z (v:=.slice none 0 0) (by rw[Nat.zero_add,Nat.mul_one];exact htn) ?_;refine zC8 ?_;refine WT.idxL hT hrow1 Z Z Z Z Z Z Z Z Z zo (fun j3 hj3 b8 off8 ro8 cs8 lx8 hb8 hp8 hrel8=>?_);obtain rfl:lx8=_:=hrel8;rw[hj] at hj3
    obtain rfl:=Option.some.inj hj3;refine zC8 ?_;refine WT.buildT hT Z Z Z Z Z Z Z Z Z Z Z Z Z Z (fun i33 hi33=>?_);refine WT.appendT (R:=tAct) (ys:=[(1,jn)]) hT 1 (Bld.nil_ tAct F1) Z (fun _=>rfl) Z Z Z Z Z Z Z Z Z Z Z (fun h0 s0=>news_own hT s0 0 Z Z Z Z) (Cells.single (R:=tAct) (x:=(1,jn)) rfl) Z (by decide) zom (fun a3 c3 B3 hB3=>?_);refine WT.idxA (j:=t) (s:=1) hT Z Z Z Z Z Z Z Z Z ht ?_;refine WT.storeAt hT 2 0 Z Z Z Z Z Z Z Z Z Z zo Z Z ?_;refine zC8 ?_;refine⟨zrC,?_⟩;refine zC8 ?_
    refine AW.range (S:=AcS) (fun _=>[]) (fun u=>u.B::[(io,.cells false u.vs)]::bs::[(i3,.cells false [.int .i64 g.terms,.int .i64 g.nons,.int .i64 g.start,.slice a m c])]::own)
     (fun k u G=>Bld tAct G u.a u.m u.c u.B u.l∧u.vs=vs.set (0+t*1) (.slice u.a u.m u.c)∧u.l=actPre g row t++(st.take k).filterMap (actOne g t)) n ⟨vs.set (0+t*1) (.slice a3 (0+1) c3),a3,0+1,c3,B3,[]++[(1,jn)]⟩
     Z Z Z Z Z Z Z Z Z zo rfl rfl (fun _=>rfl) (fun _=>rfl) sM (zow) ⟨hB3,rfl,by rw[hpre0];rfl⟩ ?_ ?_
    ·exact shE0
    ·exact shE3
   ·have h6:¬0≤j:=by simpa using h6
    have hpre0:actPre g row t=[]:=by unfold actPre;rw[if_pos htt,hj];dsimp only;rw[if_neg h6]
    exact shE12
  ·have htt:¬t<g.terms:=by simpa using htt
   have hpre0:actPre g row t=[]:=by unfold actPre;rw[if_neg htt]
   refine zC8 ?_;refine AW.cond Z (fun h=>(by cases h)) (fun _=>?_);exact shE12
 ·intro s F1 hF1 hP;obtain⟨hvl,hold,_⟩:=hP;obtain⟨vs,bs⟩:=s;dsimp only at hvl hold;refine AW.le (own2:=((io,.cells false vs)::bs)::[(i3,.cells false [.int .i64 g.terms,.int .i64 g.nons,.int .i64 g.start,.slice a m c])]::own) (OwnLe.flat (List.Perm.refl _)) ?_;refine AW.freezeAll 0 Z Z (fun F2 hF2 hB2=>?_);refine zC8 ?_;refine AW.ret ⟨_,[],⟨_,_,rfl,rfl,rfl⟩,zsb,rfl,_,_,_,rfl,?_⟩;refine⟨by simp,.inr rfl,fun h=>zo,fun h=>(by cases h),fun p hp=>(by cases hp;rfl),fun k x hk=>?_⟩;have hk1:k<g.terms+1:=by have:=(gS hk).1;simpa using this
  rw[List.getElem?_map,List.getElem?_range hk1] at hk;obtain rfl:=Option.some.inj hk;obtain⟨xa,xn,xc,e1,e2⟩:=hold k hk1;have hv:=gS e1;refine⟨io,0,false,vs,[.slice xa xn xc],rfl,hB2 io _ me,?_,_,_,_,rfl,e2 F2 hF2 fun i b hm=>hB2 i b (List.mem_cons_of_mem _ hm)⟩;refine partL_of ?_ rfl;show _=(vs.drop (0+k*1)).take 1;rw[Nat.zero_add,Nat.mul_one,List.drop_eq_getElem_cons hv.1,List.take_succ_cons,List.take_zero,hv.2]
end Go.Proofs.D
set_option linter.unusedVariables false
set_option maxRecDepth 20000
set_option maxHeartbeats 0
open Go Go.Abs Go.Proofs Go.Proofs.D
namespace Go.Abs
end Go.Abs
namespace Go.Proofs.D
theorem nameK_spec(F:Frz){b:Option Addr}{n d:Nat}{l:List Look}(hl:Arr tLook F b n d l)(hn:n≤1000){i6:Nat}{ro:Bool}{fk:Nat}{fnk:Func}(hgk:CC.func fk=some fnk)(hbk:fnk.body.isSome=true)(hi6:F i6=some (.cells ro [.func (.func fk) ⟨[]⟩ ⟨[]⟩]))
  (key:Look→List UInt8) (hlen:∀x∈l,(key x).length≤20) (hkey:∀x∈l,∀G,Frz.le F G→Abs.Spec CC fk [.agg ⟨[.int .i64 x.item.rule,.int .i64 x.item.dot,.int .u32 x.set]⟩] G [] fun _ v o=>o=[]∧v=.string (strB (key x))) :
  Abs.Spec CC 126 [.slice b n d,.pointer (some ⟨i6,0,none⟩)] F [] fun _ v o=>o=[]∧v=.string (strB (nameF key l)):=by
 have hll:=hl.len;have htot:∀j,(nameF key (l.take j)).length≤21*j:=by
  intro j
  induction j with
  | zero=>simp[nameF]
  | succ j ih=>
   rw[List.take_add_one];cases hx:l[j]? with
   | none=>simp;omega
   | some x=>
    rw[Option.toList_some,nameF_snoc,List.length_append,List.length_append,List.length_singleton];have:=hlen x (gM hx);omega
 refine Abs.Spec.fn (n:=21) Tryz.func126 rfl rfl fun own=>?_;refine zC4 ?_;refine AW.range (S:=List UInt8) (fun s=>[(4,.string (strB s))]) (fun _=>own) (fun j s G=>s=nameF key (l.take j)) n [] Z Z Z Z Z Z Z Z Z zo Z Z (fun _=>rfl) (fun _=>rfl) sM oR Z ?_ ?_
 ·intro j s F1 hF1 hj hP;have hl1:=hl.mono hF1;have hi1:=hF1 _ _ hi6;have ht:=htot j;refine zB4 ?_;refine WT.idxL hT hl1 Z Z Z Z Z Z Z Z Z zo (fun x hxj b1 off ro1 cs lx hb1 hp1 hrel=>?_);obtain rfl:lx=_:=hrel;have hxm:=gM hxj;have hxl:=hlen x hxm;refine zB4 ?_;refine WT.allocT hT Z Z Z Z Z Z (fun i9 hi9=>?_);refine zB4 ?_;refine WT.callC (first:=[]) (args:=[.agg ⟨[.int .i64 x.item.rule,.int .i64 x.item.dot,.int .u32 x.set]⟩]) (capt:=[]) hgk hbk Z Z Z Z Z Z Z (hkey x hxm F1 hF1) (fun v hv=>?_)
  exact shE11
 ·intro s F1 hF1 hP;rw[List.take_of_length_le zo] at hP;refine zB4 ?_;exact AW.ret ⟨_,[],⟨_,_,rfl,rfl,rfl⟩,zsb,rfl,by rw[hP];rfl⟩
structure NmOK where
 i:Nat
 sts:List (List Look)
 rows:List (List Int)
 sa:Option Addr
 sn:Nat
 sc:Nat
 SB:List (Nat×Blk)
 ta:Option Addr
 tn:Nat
 tc:Nat
 TB:List (Nat×Blk)
 es:Ents (List UInt8)
structure NmRK where
 sts:List (List Look)
 row:List Int
 sa:Option Addr
 sn:Nat
 sc:Nat
 SB:List (Nat×Blk)
 ra:Option Addr
 rn:Nat
 rc:Nat
 RB:List (Nat×Blk)
 es:Ents (List UInt8)
namespace NK
abbrev zzIK0:=NmOK
abbrev zzIK1:=NmRK
abbrev zzIK2:=Tryz.func82
abbrev zzIK3:=Tryz.func126
abbrev zzIK4:=@nameK_spec
abbrev zzIK5:=tLook
end NK
open NK in
theorem numberK_spec(F:Frz)(g:Gram)(hg:Valid g){ga:Option Addr}{gm gc:Nat}{b:Option Addr}{n d:Nat}{st0:List Look}(h0:Arr tLook F b n d st0)
  {fk fx:Nat} {fnk fnx:Func} {firstx captx:List Value} (hgk:CC.func fk=some fnk) (hbk:fnk.body.isSome=true) (hgx:CC.func fx=some fnx) (hbx:fnx.body.isSome=true)
  (key:Look→List UInt8) (nx:List Look→Sym→Option (List Look)) (P:List Look→Prop) (okx:Look→Prop)
  (hP0:P st0) (hPl:∀s,P s→s.length≤1000∧∀x∈s,okx x) (hinj:∀s s',P s→P s'→nameF key s=nameF key s'→s=s') (hnP:∀s y s',P s→nx s y=some s'→P s')
  (hlen:∀x,okx x→(key x).length≤20) (hkey:∀x,okx x→∀G,Frz.le F G→Abs.Spec CC fk [.agg ⟨[.int .i64 x.item.rule,.int .i64 x.item.dot,.int .u32 x.set]⟩] G [] fun _ v o=>o=[]∧v=.string (strB (key x)))
  (hnext:∀G,Frz.le F G→∀(a:Option Addr) (m c:Nat) (s:List Look) (y:Sym),P s→Arr tLook G a m c s→SymOk g.terms g.nons y→
   Abs.Spec CC fx (firstx++[.slice a m c,.agg ⟨[.bool y.term,.int .i64 y.n]⟩]++captx) G [] fun G' v o=>o=[]∧∃a' n' c' z s',v=.tuple ⟨[.slice a' n' c',.bool z]⟩∧Arr tLook G' a' n' c' s'∧nx s y=if z=true then some s' else none) :
  Abs.Spec CC 82 [.agg ⟨gramCells g ga gm gc⟩,.slice b n d,.func (.func fk) ⟨[]⟩ ⟨[]⟩,.func (.func fx) ⟨firstx⟩ ⟨captx⟩] F [] fun F' v o=>o=[]∧
   ((numF 400 (fun s=>(symsL g).map (nx s)) 401 0 [st0] []=none∧v=.tuple ⟨[.slice none 0 0,.slice none 0 0,.bool false]⟩)∨
    ∃S rows a1 n1 c1 a2 n2 c2,numF 400 (fun s=>(symsL g).map (nx s)) 401 0 [st0] []=some (S,rows)∧v=.tuple ⟨[.slice a1 n1 c1,.slice a2 n2 c2,.bool true]⟩∧Arr (tList tLook) F' a1 n1 c1 S∧Arr (tList tInt) F' a2 n2 c2 rows):=shIKnumber_spec
theorem intClone_spec(F:Frz){a:Option Addr}{m c:Nat}{xs:List Int}(hx:Arr tInt F a m c xs)(hm:m≤1000000) :
  Abs.Spec CC 66 [.slice a m c] F [] fun F' v o=>∃B',o=[B']∧∃a' c',v=.slice a' m c'∧Vec tInt F' a' m c' B' xs:=by
 refine Abs.Spec.fn (n:=8) Tryz.func66 rfl rfl fun own=>?_;refine zB4 ?_;refine WT.sliceNil hT Z Z Z Z Z Z Z Z ?_;refine zB4 ?_;refine AW.cond Z (fun h=>?_) (fun h=>?_)
 ·exact shE8
 ·refine zB4 ?_;refine WT.buildT hT Z Z Z Z Z Z Z Z Z Z Z Z Z Z (fun i5 hi5=>?_);refine zB4 ?_;obtain⟨ds,hds,hcs⟩:=news_arr hT hx (t:=22) rfl rfl 3;exact shE9
def PK(g:Gram)(st:List Look):Prop:=st.length≤1000∧∀x∈st,OkLr g x.item∧x.set<2 ^ (g.terms+1)
theorem closeK_PK{g:Gram}(hg:Valid g)(l:List Look):PK g (closeK g l):=by
 refine⟨?_,fun x hx=>⟨?_,closeK_small x hx⟩⟩
 ·have:=(closL_PI hg (itemsK l)).1;rw[←closeK_items] at this;unfold itemsK at this
  rwa [List.length_map] at this
 ·have:x.item∈itemsK (closeK g l):=List.mem_map.2 ⟨x,hx,rfl⟩;rw[closeK_items] at this;exact closL_ok _ this
theorem nextK_PK{g:Gram}(hg:Valid g){s:List Look}{y:Sym}{s':List Look}(h:nextK g s y=some s'):PK g s':=by
 unfold nextK at h;split at h
 ·cases h
 ·obtain rfl:=Option.some.inj h;exact closeK_PK hg _
theorem autoI_PI{g:Gram}(hg:Valid g){I:List (List Lr)}{rows:List (List Int)}(h:autoI g=some (I,rows)):∀st∈I,PI g st:=fun st hst=>by
 obtain⟨k,hk⟩:=List.getElem?_of_mem hst
 exact(autoI_ok h).2.all (P:=PI g) (closL_PI hg _) (fun st s _ hs=>by
  obtain⟨y,_,hy⟩:=List.mem_map.1 hs;split at hy
  ·cases hy
  ·obtain rfl:=Option.some.inj hy;exact closL_PI hg _) k st hk
theorem statesF_PK{g:Gram}(hg:Valid g){method:Nat}{S:List (List Look)}{rows:List (List Int)}(h:statesF g method=some (S,rows)):∀st∈S,PK g st:=by
 intro st hst;obtain⟨k,hk⟩:=List.getElem?_of_mem hst;unfold statesF at h;split at h
 ·exact(autoK_ok h).2.all (P:=PK g) (closeK_PK hg _) (fun st s _ hs=>by
   obtain⟨y,_,hy⟩:=List.mem_map.1 hs;exact nextK_PK hg (s:=st) (y:=y) hy) k st hk
 ·cases hA:autoI g with
  | none=>rw[hA] at h;cases h
  | some a=>
   obtain⟨I,rows0⟩:=a;rw[hA] at h;have e:=Option.some.inj h;simp only[Prod.mk.injEq] at e;obtain⟨rfl,rfl⟩:=e;rw[lookS_at] at hk;cases hI:I[k]? with
   | none=>rw[hI] at hk;cases hk
   | some st0=>
    rw[hI] at hk;obtain rfl:=Option.some.inj hk;obtain⟨h1,h2⟩:=autoI_PI hg hA st0 (gM hI);refine⟨by simpa using h1,fun x hx=>?_⟩;obtain⟨z,hz,rfl⟩:=List.mem_map.1 hx;exact⟨h2 z hz,maskOf_lt _ _⟩
structure AlS where
 a:Option Addr
 m:Nat
 c:Nat
 B:List (Nat×Blk)
 a2:Option Addr
 m2:Nat
 c2:Nat
 B2:List (Nat×Blk)
theorem autoK_few{g:Gram}{method:Nat}{S:List (List Look)}{rows:List (List Int)}(h:statesF g method=some (S,rows)):S.length≤400:=by
 unfold statesF at h;split at h
 ·exact(autoK_ok h).2.few
 ·cases hA:autoI g with
  | none=>rw[hA] at h;cases h
  | some a=>
   obtain⟨I,rows0⟩:=a;rw[hA] at h;have e:=Option.some.inj h;simp only[Prod.mk.injEq] at e;obtain⟨rfl,rfl⟩:=e;have:=(autoI_ok hA).2.few;have e2:=congrArg List.length (lookS_items (g:=g) (I:=I) (la:=if method=1 then fun _=>FolA g else LalA g I rows0));rw[List.length_map] at e2;rw[e2];exact this
theorem shE1{p:Prop} (h:p:=by
 intro j s F8 hF8 hj hP;obtain⟨hb,hb2⟩:=hP;have hS8:=hS.mono hF8;have hRw8:=hRw.mono hF8;have hr8:=hrG.mono hF8;have hi8:=hF8 _ _ hiG;have hal:(allF g S rows).length=S.length:=by unfold allF;simp
 have hbl:=hb.len;have hbl2:=hb2.len;rw[List.length_take] at hbl;rw[List.length_take,List.length_map] at hbl2;refine zC4 ?_;refine WT.idxL hT hS8 Z Z Z Z Z Z Z Z Z zo (fun st hsj b1 off1 ro1 cs1 lx1 hb1 hp1 hrel1=>?_);obtain⟨sa,sn,sc,rfl,hsta⟩:=hrel1;have hsl:=hsta.len;obtain⟨hP1,hP2⟩:=hSP st (gM hsj);refine zC4 ?_;refine AW.draw (ps:=[(14,7),(14,8),(14,9),(16,7),(16,8),(16,9),(17,7),(17,8),(17,9)]) Z Z ?_;refine zC4 ?_;refine WT.idxL hT hRw8 Z Z Z Z Z Z Z Z Z zo (fun row hrj b3 off3 ro3 cs3 lx3 hb3 hp3 hrel3=>?_);obtain⟨ra,rn,rc,rfl,hrow⟩:=hrel3;have hrowl:=hrow.len
 have hrow2:row.length=g.terms+g.nons:=hAC.row j (itemsK st) row (by rw[List.getElem?_map,hsj];rfl) hrj;refine zC4 ?_;have hac:=actions_spec F8 g hg hr8 hsta zo hP2 hrow zo;unfold gramCells at hac;refine WT.callF0 Tryz.func89 Z Z Z Z Z Z hac (fun F9 v hF9 hv=>?_);obtain⟨xa,xn,xc,rfl,hx⟩:=hv;have hall:(allF g S rows).take (j+1)=(allF g S rows).take j++[(List.range (g.terms+1)).map fun t=>actsF g st row t]:=by
  have e:(allF g S rows)[j]?=some ((List.range (g.terms+1)).map fun t=>actsF g st row t):=by
   unfold allF;rw[map_at (List.getElem?_range (show j<S.length by omega)),getD_some hsj,getD_some hrj]
  rw[List.take_add_one,e];rfl
 have hrw:(rows.map (·.drop g.terms)).take (j+1)=(rows.map (·.drop g.terms)).take j++[row.drop g.terms]:=by
  rw[List.take_add_one,map_at hrj];rfl
 refine WT.buildT hT Z Z Z Z Z Z Z Z Z Z Z Z Z Z (fun i33 hi33=>?_);refine WT.appendT (R:=tList (tList tAct)) (ys:=[(List.range (g.terms+1)).map fun t=>actsF g st row t]) hT 1 (hb.mono hF9) Z (fun _=>rfl) Z Z Z Z Z Z Z Z Z Z Z (fun h0 s0=>news_own hT s0 0 Z Z Z Z) (Cells.single (R:=tList (tList tAct)) (x:=(List.range (g.terms+1)).map fun t=>actsF g st row t) ⟨_,_,_,rfl,hx⟩) Z (by decide) zom (fun a3 c3 B3 hB3=>?_);refine zC4 ?_;obtain⟨b4,off4,ro4,cs4,lx4,hba,hb4,hp4,hrel4⟩:=hRw8.el j row hrj;obtain⟨ra',rn',rc',rfl,hrow'⟩:=hrel4;have hrow':=hrow'.mono hF9;have hb49:=hF9 _ _ hb4;subst hba
 refine WT.idxA (j:=j) (s:=1) hT Z Z Z Z Z Z Z Z Z zo ?_;have hrowl':=hrow'.len;have hi9:=hF9 _ _ hi8;refine zC4 ?_;obtain⟨qa,qc,hrs2,hqa⟩:=hrow'.slice (C:=CC) (lo:=g.terms) (hi:=rn') zo (Nat.le_refl _) hT (t:=22) Z Z Z (some (.int .i64 ((g.terms:Nat):Int))) none (by simp[boundA]) rfl;refine WT.slice Z Z Z Z Z Z Z Z hrs2 ?_;rw[List.take_of_length_le zo] at hqa;refine WT.callN Tryz.func66 Z Z Z Z Z Z (intClone_spec F9 hqa zo) (fun F10 v B10 hF10 hv=>?_);obtain⟨ca,cc,rfl,hv⟩:=hv;refine WT.freezeAll 0 Z Z (fun F11 hF11 hB11=>?_);have hcl:=hv.arr hF11 hB11;have hrl2:rows.length≤400:=by omega
 refine WT.buildT hT Z Z Z Z Z Z Z Z Z Z Z Z Z Z (fun i34 hi34=>?_);refine WT.appendT (R:=tList tInt) (ys:=[row.drop g.terms]) hT 4 (((hb2.mono hF9).mono hF10).mono hF11) Z (fun _=>rfl) Z Z Z Z Z Z Z Z Z Z Z (fun h0 s0=>news_own hT s0 0 Z Z Z Z) (Cells.single (R:=tList tInt) (x:=row.drop g.terms) ⟨_,_,_,rfl,hcl⟩) Z (by decide) zom (fun a5 c5 B5 hB5=>?_);refine zC4 ?_;refine⟨zrC,?_⟩;refine⟨⟨a3,s.m+1,c3,B3,a5,s.m2+1,c5,B5⟩,sM,zow,?_,?_⟩
 ·dsimp only;rw[hall];exact(hB3.mono hF10).mono hF11
 ·dsimp only;rw[hrw];exact hB5):p:=h
theorem shE4{p:Prop} (h:p:=by
 have hSR:=statesF_ok hg hst;have hSP:=statesF_PK hg hst;have hSf:=autoK_few hst;have hAC:=hSR.1;have hRl:=hRw.len;have hSl:=hS.len;have hrs:rows.length=S.length:=by have:=hAC.len;rwa [List.length_map] at this
 refine zC4 ?_;refine AW.range (S:=AlS) (fun s=>[(14,.slice s.a s.m s.c),(15,.slice s.a2 s.m2 s.c2)]) (fun s=>s.B::s.B2::[(i12,.cells false [.slice b1 m1 d1,.slice b2 m2 d2])]::[]::own) (fun j s G=>Bld (tList (tList tAct)) G s.a s.m s.c s.B ((allF g S rows).take j)∧Bld (tList tInt) G s.a2 s.m2 s.c2 s.B2 ((rows.map (·.drop g.terms)).take j)) n1 ⟨none,0,0,[],none,0,0,[]⟩
  Z Z Z Z Z Z Z Z Z zo rfl rfl (fun _=>rfl) (fun _=>rfl) sM (OwnLe.flat (List.Perm.refl _)) ⟨Bld.nil_ _ _,Bld.nil_ _ _⟩ ?_ ?_
 ·exact shE1
 ·intro s F8 hF8 hP;obtain⟨hb,hb2⟩:=hP;have hal:(allF g S rows).length=S.length:=by unfold allF;simp
  rw[List.take_of_length_le zo] at hb;rw[List.take_of_length_le (by rw[List.length_map];omega)] at hb2;refine AW.freezeAll 0 Z Z (fun F9 hF9 hB9=>?_);have h1:=hb.frozen hF9 hB9;refine AW.freezeAll 1 Z Z (fun F10 hF10 hB10=>?_);have h2:=(hb2.mono hF9).frozen hF10 hB10;refine zC4 ?_;exact AW.ret ⟨_,[],⟨_,_,rfl,⟨_,_,rfl,⟨_,_,rfl,rfl,rfl⟩,rfl⟩,rfl⟩,zsb,rfl,.inr ⟨S,rows,_,_,_,_,_,_,hst,rfl,h1.mono hF10,h2⟩⟩):p:=h
theorem all_spec(F:Frz)(g:Gram)(hg:Valid g)(ht5:g.terms≤5)(method:Nat)(hm:method=1∨method=2∨method=3){a:Option Addr}{m c:Nat}(hr:Arr tRule F a m c g.rules) :
  Abs.Spec CC 46 [.agg ⟨gramCells g a m c⟩,.int .i64 method] F [] fun F' v o=>o=[]∧((statesF g method=none∧v=.tuple ⟨[.slice none 0 0,.slice none 0 0,.int .i64 2]⟩)∨
   ∃S rows a1 n1 c1 a2 n2 c2,statesF g method=some (S,rows)∧v=.tuple ⟨[.slice a1 n1 c1,.slice a2 n2 c2,.int .i64 0]⟩∧Arr (tList (tList tAct)) F' a1 n1 c1 (allF g S rows)∧Arr (tList tInt) F' a2 n2 c2 (rows.map (·.drop g.terms))):=by
 have hgr:=hg.range.rules;have hgt:=hg.range.terms;have hgn:=hg.range.nons;have hrl:=hr.len;have hp:=pow_small hg.range.terms.2;have hp6:2 ^ (g.terms+1)≤64:=Nat.le_trans (Nat.pow_le_pow_right (by decide) (show g.terms+1≤6 by omega)) (by decide);have okK:∀{x:Look},(OkLr g x.item∧x.set<2 ^ (g.terms+1))→(x.item.rule<100∧x.item.dot<100)∧x.set<100:=fun h=>⟨okI hg h.1,by omega⟩;refine Abs.Spec.fn (n:=98) Tryz.func46 rfl rfl fun own=>?_;refine AW.seq (AW.reg ?_);refine WT.boxT Z Z Z Z Z Z (fun i2 hi2=>?_);refine WT.freezeAll 0 Z Z (fun F0 hF0 hB0=>?_);have hi2:=hB0 i2 _ me;have hr:=hr.mono hF0
 unfold gramCells at hi2 ⊢;refine zC4 ?_;have hck:=check_spec F0 g hg.range hr;unfold gramCells at hck;refine WT.callV Tryz.func35 Z Z Z Z Z Z hck (fun v hv=>?_);rw[hg.no_err] at hv;subst hv;refine zC4 ?_;refine AW.cond Z (fun h=>(by cases h)) (fun _=>?_);rcases hm with rfl | rfl | rfl
 ·refine zC4 ?_;refine AW.cond Z (fun h=>(by cases h)) (fun _=>?_);refine zC4 ?_;have hmk:=newMaker_spec F0 g hg hr;unfold gramCells at hmk;refine WT.callF0 Tryz.func81 Z Z Z Z Z Z hmk (fun F1 v hF1 hv=>?_);obtain⟨im,E,Fi,is,eb,ee,rfl,hM⟩:=hv;have hr1:=hr.mono hF1;have hi21:=hF1 _ _ hi2;refine zC4 ?_;refine AW.cond Z (fun h=>(by cases h)) (fun _=>?_);refine zC4 ?_;have hof:=itemsOf2_spec F1 g hg hr1;unfold gramCells at hof;refine WT.callF0 Tryz.func86 Z Z Z Z Z Z hof (fun F2 v hF2 hv=>?_);have hM2:=hM.mono hF2;rcases hv with ⟨hA,rfl⟩ | ⟨I,rows,b1,m1,d1,b2,m2,d2,hA,rfl,hI,hRw⟩
  ·have hst:statesF g 1=none:=by unfold statesF;rw[if_neg (by decide),hA];rfl
   refine zC4 ?_;refine WT.allocT hT Z Z Z Z Z Z (fun i12 hi12=>?_);refine zC4 ?_;refine AW.cond Z (fun _=>?_) (fun h=>(by cases h));refine zC4 ?_;exact AW.ret ⟨_,[],⟨_,_,rfl,⟨_,_,rfl,⟨_,_,rfl,rfl,rfl⟩,rfl⟩,rfl⟩,zsb,rfl,.inl ⟨hst,rfl⟩⟩
  ·refine zC4 ?_;refine WT.allocT hT Z Z Z Z Z Z (fun i12 hi12=>?_);refine zC4 ?_;refine AW.cond Z (fun h=>(by cases h)) (fun _=>?_);refine zC4 ?_;have hIf:=(autoI_ok hA).2.few;have hIl:=hI.len;refine WT.callF0 Tryz.func87 Z Z Z Z Z Z (slr_spec F2 g hg hM2 (a2:=b2) (n2:=m2) (c2:=d2) hI zo (autoI_PI hg hA)) (fun F3 v hF3 hv=>?_);obtain⟨a1,n1,c1,rfl,hS⟩:=hv;refine zC4 ?_;refine AW.cond Z (fun h=>(by cases h)) (fun _=>?_);have hst:statesF g 1=some (lookS g I (fun _=>FolA g),rows):=by unfold statesF;rw[if_neg (by decide),hA];rfl
   generalize lookS g I (fun _=>FolA g)=S at hS hst;have hRw:=hRw.mono hF3;have hrG:=(hr1.mono hF2).mono hF3;have hiG:=hF3 _ _ (hF2 _ _ hi21);exact shE4
 ·refine zC4 ?_;refine AW.cond Z (fun h=>(by cases h)) (fun _=>?_);refine zC4 ?_;have hmk:=newMaker_spec F0 g hg hr;unfold gramCells at hmk;refine WT.callF0 Tryz.func81 Z Z Z Z Z Z hmk (fun F1 v hF1 hv=>?_);obtain⟨im,E,Fi,is,eb,ee,rfl,hM⟩:=hv;have hr1:=hr.mono hF1;have hi21:=hF1 _ _ hi2;refine zC4 ?_;refine AW.cond Z (fun h=>(by cases h)) (fun _=>?_);refine zC4 ?_;have hof:=itemsOf2_spec F1 g hg hr1;unfold gramCells at hof;refine WT.callF0 Tryz.func86 Z Z Z Z Z Z hof (fun F2 v hF2 hv=>?_);have hM2:=hM.mono hF2;rcases hv with ⟨hA,rfl⟩ | ⟨I,rows,b1,m1,d1,b2,m2,d2,hA,rfl,hI,hRw⟩
  ·have hst:statesF g 2=none:=by unfold statesF;rw[if_neg (by decide),hA];rfl
   refine zC4 ?_;refine WT.allocT hT Z Z Z Z Z Z (fun i12 hi12=>?_);refine zC4 ?_;refine AW.cond Z (fun _=>?_) (fun h=>(by cases h));refine zC4 ?_;exact AW.ret ⟨_,[],⟨_,_,rfl,⟨_,_,rfl,⟨_,_,rfl,rfl,rfl⟩,rfl⟩,rfl⟩,zsb,rfl,.inl ⟨hst,rfl⟩⟩
  ·refine zC4 ?_;refine WT.allocT hT Z Z Z Z Z Z (fun i12 hi12=>?_);refine zC4 ?_;refine AW.cond Z (fun h=>(by cases h)) (fun _=>?_);refine zC4 ?_;have hIf:=(autoI_ok hA).2.few;have hIl:=hI.len;refine WT.callF0 Tryz.func87 Z Z Z Z Z Z (slr_spec F2 g hg hM2 (a2:=b2) (n2:=m2) (c2:=d2) hI zo (autoI_PI hg hA)) (fun F3 v hF3 hv=>?_);obtain⟨a1,n1,c1,rfl,hS⟩:=hv;refine zC4 ?_;refine AW.cond Z (fun _=>?_) (fun h=>(by cases h));refine zC4 ?_;refine WT.callF0 Tryz.func88 Z Z Z Z Z Z (lalr_spec F3 g hg (hM2.mono hF3) hA (hI.mono hF3) (hRw.mono hF3)) (fun F4 v hF4 hv=>?_);clear hS
   obtain⟨a1,n1,c1,rfl,hS⟩:=hv;have hst:statesF g 2=some (lookS g I (LalA g I rows),rows):=by unfold statesF;rw[if_neg (by decide),hA];rfl
   generalize lookS g I (LalA g I rows)=S at hS hst;have hRw:=(hRw.mono hF3).mono hF4;have hrG:=((hr1.mono hF2).mono hF3).mono hF4;have hiG:=hF4 _ _ (hF3 _ _ (hF2 _ _ hi21));exact shE4
 ·refine zC4 ?_;refine AW.cond Z (fun h=>(by cases h)) (fun _=>?_);refine zC4 ?_;have hmk:=newMaker_spec F0 g hg hr;unfold gramCells at hmk;refine WT.callF0 Tryz.func81 Z Z Z Z Z Z hmk (fun F1 v hF1 hv=>?_);obtain⟨im,E,Fi,is,eb,ee,rfl,hM⟩:=hv;have hr1:=hr.mono hF1;have hi21:=hF1 _ _ hi2;refine zC4 ?_;refine AW.cond Z (fun _=>?_) (fun h=>(by cases h));refine zC4 ?_;refine AW.draw (ps:=[(0,2)]) Z Z ?_;refine zC4 ?_;refine WT.callF0 Tryz.func83 Z Z Z Z Z Z (startK_spec F1 g hg hM) (fun F2 v hF2 hv=>?_);obtain⟨fa,fn,fc,rfl,hfk⟩:=hv;have hM2:=hM.mono hF2;refine zC4 ?_
  have hnm:=numberK_spec F2 g hg (ga:=a) (gm:=m) (gc:=c) hfk (fk:=84) (fx:=85) (firstx:=[.pointer (some ⟨im,0,none⟩)]) (captx:=[]) Tryz.func84 rfl Tryz.func85 rfl
   keyLk (nextK g) (PK g) (fun x=>(x.item.rule<100∧x.item.dot<100)∧x.set<100) (closeK_PK hg _) (fun s hs=>⟨hs.1,fun x hx=>okK (hs.2 x hx)⟩)
   (fun s s' hs hs' e=>nameK_inj (fun x hx=>okK (hs.2 x hx)) (fun x hx=>okK (hs'.2 x hx)) e)
   (fun s y s' _ e=>nextK_PK hg e)
   (fun x _=>by have:=keyLk_len x;omega) (fun x hx G _=>keyLk_spec G x hx.1 hx.2)
   (fun G hG a' m' c' s y hs hA hy=>after_spec G g hg (hM2.mono hG) hA (hA.len▸hs.1) hs.2 y)
  unfold gramCells at hnm;refine WT.callF0 Tryz.func82 Z Z Z Z Z Z hnm (fun F3 v hF3 hv=>?_);rcases hv with ⟨hno,rfl⟩ | ⟨S,rows,a1,n1,c1,b2,m2,d2,hyes,rfl,hS,hRw⟩
  ·have hst:statesF g 3=none:=hno;refine zC4 ?_;refine⟨zrC,?_⟩;refine zC4 ?_;refine AW.cond Z (fun _=>?_) (fun h=>(by cases h));refine zC4 ?_;exact AW.ret ⟨_,[],⟨_,_,rfl,⟨_,_,rfl,⟨_,_,rfl,rfl,rfl⟩,rfl⟩,rfl⟩,zsb,rfl,.inl ⟨hst,rfl⟩⟩
  ·have hst:statesF g 3=some (S,rows):=hyes;refine zC4 ?_;refine⟨zrC,?_⟩;refine zC4 ?_;refine AW.cond Z (fun h=>(by cases h)) (fun _=>?_);have hrG:=(hr1.mono hF2).mono hF3;have hiG:=hF3 _ _ (hF2 _ _ hi21);have hSR:=statesF_ok hg hst;have hSP:=statesF_PK hg hst;have hSf:=autoK_few hst;have hAC:=hSR.1;have hRl:=hRw.len;have hSl:=hS.len;have hrs:rows.length=S.length:=by have:=hAC.len;rwa [List.length_map] at this
   refine zC4 ?_;refine AW.range (S:=AlS) (fun s=>[(14,.slice s.a s.m s.c),(15,.slice s.a2 s.m2 s.c2)]) (fun s=>s.B::s.B2::[]::own) (fun j s G=>Bld (tList (tList tAct)) G s.a s.m s.c s.B ((allF g S rows).take j)∧Bld (tList tInt) G s.a2 s.m2 s.c2 s.B2 ((rows.map (·.drop g.terms)).take j)) n1 ⟨none,0,0,[],none,0,0,[]⟩
    Z Z Z Z Z Z Z Z Z zo rfl rfl (fun _=>rfl) (fun _=>rfl) sM (OwnLe.flat (List.Perm.refl _)) ⟨Bld.nil_ _ _,Bld.nil_ _ _⟩ ?_ ?_
   ·exact shE1
   ·intro s F8 hF8 hP;obtain⟨hb,hb2⟩:=hP;have hal:(allF g S rows).length=S.length:=by unfold allF;simp
    rw[List.take_of_length_le zo] at hb;rw[List.take_of_length_le (by rw[List.length_map];omega)] at hb2;refine AW.freezeAll 0 Z Z (fun F9 hF9 hB9=>?_);have h1:=hb.frozen hF9 hB9;refine AW.freezeAll 1 Z Z (fun F10 hF10 hB10=>?_);have h2:=(hb2.mono hF9).frozen hF10 hB10;refine zC4 ?_;exact AW.ret ⟨_,[],⟨_,_,rfl,⟨_,_,rfl,⟨_,_,rfl,rfl,rfl⟩,rfl⟩,rfl⟩,zsb,rfl,.inr ⟨S,rows,_,_,_,_,_,_,hst,rfl,h1.mono hF10,h2⟩⟩
def tConf:Ty (Nat×Nat×List (Nat×Nat)) where
 size:=3
 rel:=fun F l x=>∃a n c,l=[.int .i64 x.1,.int .i64 x.2.1,.slice a n c]∧Arr tAct F a n c x.2.2
 len:=fun _ _ _ h=>by obtain⟨a,n,c,rfl,_⟩:=h;rfl
 one:=fun _ _ _ h=>by obtain⟨a,n,c,rfl,_⟩:=h;rfl
 mono:=fun _ _ _ _ hF h=>by obtain⟨a,n,c,e,h⟩:=h;exact⟨a,n,c,e,h.mono hF⟩
def headA(l:List (Nat×Nat)):Nat×Nat:=l.head?.getD (0,0)
def confsTo(all:List (List (List (Nat×Nat))))(j:Nat):List (Nat×Nat×List (Nat×Nat)):=((List.range j).map fun s=>confRow s (all.getD s []) (all.getD s []).length).flatten
theorem confRow_succ(s:Nat)(row:List (List (Nat×Nat)))(k:Nat):confRow s row (k+1)=confRow s row k++(if 1<(row.getD k []).length then [(s,k,row.getD k [])] else []):=by
 unfold confRow;rw[List.range_succ,List.filterMap_append];congr 1;rw[List.filterMap_cons];split
 ·rename_i h;split at h
  ·cases h
  ·rw[if_neg (by assumption)];rfl
 ·rename_i b h;split at h
  ·obtain rfl:=Option.some.inj h;rw[if_pos (by assumption)];rfl
  ·cases h
theorem confRow_few(s:Nat)(row:List (List (Nat×Nat)))(k:Nat):(confRow s row k).length≤k:=by
 unfold confRow;exact Nat.le_trans (List.length_filterMap_le _ _) (by rw[List.length_range];exact Nat.le_refl _)
theorem confsTo_succ(all:List (List (List (Nat×Nat))))(j:Nat):confsTo all (j+1)=confsTo all j++confRow j (all.getD j []) (all.getD j []).length:=by
 unfold confsTo;rw[List.range_succ,List.map_append,List.flatten_append];simp
theorem confsTo_few(all:List (List (List (Nat×Nat))))(hall:∀r∈all,r.length≤6):∀j,(confsTo all j).length≤j*6
 | 0=>Nat.zero_le _
 | j+1=>by
  rw[confsTo_succ,List.length_append,Nat.succ_mul];have h1:=confsTo_few all hall j;have h2:=confRow_few j (all.getD j []) (all.getD j []).length;have h3:(all.getD j []).length≤6:=by
   rw[List.getD_eq_getElem?_getD];cases hx:all[j]? with
   | none=>exact Nat.zero_le _
   | some r=>exact hall r (gM hx)
  omega
def TabV(F:Frz)(method:Nat)(T:Tab)(v:Value):Prop:=∃a1 n1 c1 a2 n2 c2 a3 n3 c3,v=.agg ⟨[.int .i64 method,.slice a1 n1 c1,.slice a2 n2 c2,.slice a3 n3 c3]⟩∧
 Arr (tList tAct) F a1 n1 c1 T.act∧Arr (tList tInt) F a2 n2 c2 T.go∧Arr tConf F a3 n3 c3 T.conf
theorem TabV.mono{F G:Frz}{method:Nat}{T:Tab}{v:Value}(h:TabV F method T v)(hF:Frz.le F G):TabV G method T v:=by
 obtain⟨a1,n1,c1,a2,n2,c2,a3,n3,c3,e,h1,h2,h3⟩:=h;exact⟨a1,n1,c1,a2,n2,c2,a3,n3,c3,e,h1.mono hF,h2.mono hF,h3.mono hF⟩
theorem of_spec(F:Frz)(g:Gram)(hg:Valid g)(ht5:g.terms≤5)(method:Nat)(hm:method=1∨method=2∨method=3){a:Option Addr}{m c:Nat}(hr:Arr tRule F a m c g.rules) :
  Abs.Spec CC 18 [.agg ⟨gramCells g a m c⟩,.int .i64 method] F [] fun F' v o=>o=[]∧((tableF g method=none∧v=.tuple ⟨[.agg ⟨[.int .i64 0,.slice none 0 0,.slice none 0 0,.slice none 0 0]⟩,.int .i64 2]⟩)∨
   ∃T x,tableF g method=some T∧v=.tuple ⟨[x,.int .i64 0]⟩∧TabV F' method T x):=by
 have hrl:=hr.len;have hmb:method≤3:=by omega
 unfold gramCells;refine Abs.Spec.fn (n:=76) Tryz.func18 rfl rfl fun own=>?_;refine AW.seq (AW.reg ?_);refine WT.boxT Z Z Z Z Z Z (fun i2 hi2=>?_);refine WT.freezeAll 0 Z Z (fun F0 hF0 hB0=>?_);have hi2:=hB0 i2 _ me;have hr:=hr.mono hF0;refine WT.allocT hT Z Z Z Z Z Z (fun i4 hi4=>?_);refine zC4 ?_;have hal:=all_spec F0 g hg ht5 method hm hr;unfold gramCells at hal;refine WT.callF0 Tryz.func46 Z Z Z Z Z Z hal (fun F1 v hF1 hv=>?_);rcases hv with ⟨hst,rfl⟩ | ⟨S,rows,a1,n1,c1,a2,n2,c2,hst,rfl,h1,h2⟩
 ·refine zC4 ?_;refine AW.cond Z (fun _=>?_) (fun h=>(by cases h));refine zC4 ?_;refine AW.ret ⟨_,[],⟨_,_,⟨_,rfl,fun G h0 s0=>loadA_cells (s0.has (p:=0) Z me) (readT_ok hT rfl)⟩,⟨_,_,rfl,rfl,rfl⟩,rfl⟩,zsb,rfl,.inl ⟨by unfold tableF;rw[hst];rfl,rfl⟩⟩
 ·refine zC4 ?_;refine AW.cond Z (fun h=>(by cases h)) (fun _=>?_);refine zC4 ?_;refine WT.allocT hT Z Z Z Z Z Z (fun i9 hi9=>?_);refine zC4 ?_;have hfew:=autoK_few hst;have hall6:∀r∈allF g S rows,r.length≤6:=fun r hr=>by
   unfold allF at hr;obtain⟨s,_,rfl⟩:=List.mem_map.1 hr;simp only[List.length_map,List.length_range];omega
  have halen:(allF g S rows).length≤400:=by unfold allF;simpa using hfew
  have hsm:∀r∈allF g S rows,∀l∈r,l.length≤1001:=fun r hr l hl=>by
   unfold allF at hr;obtain⟨s,hs,rfl⟩:=List.mem_map.1 hr;obtain⟨t,_,rfl⟩:=List.mem_map.1 hl;have hs:=List.mem_range.1 hs;have h1:=(statesF_PK hg hst (S.getD s []) (by rw[getD_some (gE hs)];exact List.getElem_mem hs)).1;have h2:=actPre_len (g:=g) (row:=rows.getD s []) (t:=t);have h3:=List.length_filterMap_le (actOne g t) (S.getD s []);rw[actsF_eq,List.length_append];omega
  have hT2:tableF g method=some (tabF (allF g S rows) (rows.map (·.drop g.terms))):=by unfold tableF;rw[hst];rfl
  generalize allF g S rows=all at h1 hall6 halen hsm hT2;have hn1:=h1.len;refine AW.range (S:=AlS) (fun s=>[]) (fun s=>[(i9,.cells false [.int .i64 method,.slice s.a s.m s.c,.slice a2 n2 c2,.slice s.a2 s.m2 s.c2])]::s.B::s.B2::[(i4,.cells false [.int .i64 0,.slice none 0 0,.slice none 0 0,.slice none 0 0])]::[]::own) (fun j s G=>Bld (tList tAct) G s.a s.m s.c s.B ((all.take j).map (·.map headA))∧Bld tConf G s.a2 s.m2 s.c2 s.B2 (confsTo all j)) n1 ⟨none,0,0,[],none,0,0,[]⟩
   Z Z Z Z Z Z Z Z Z zo rfl rfl (fun _=>rfl) (fun _=>rfl) sM (OwnLe.flat (List.Perm.refl _)) ⟨Bld.nil_ _ _,Bld.nil_ _ _⟩ ?_ ?_
  ·intro j s F2 hF2 hj hP;obtain⟨hb,hb2⟩:=hP;have h12:=h1.mono hF2;have hbl:=hb.len;rw[List.length_map,List.length_take] at hbl;refine zC4 ?_;refine WT.idxL hT h12 Z Z Z Z Z Z Z Z Z zo (fun row hrj b1 off1 ro1 cs1 lx1 hb1 hp1 hrel1=>?_);obtain⟨ra,rn,rc,rfl,hrow⟩:=hrel1;have hrl:=hrow.len;have hr6:=hall6 row (gM hrj);have hrs:=hsm row (gM hrj);have hcf:=confsTo_few all hall6 j;have hgd:all.getD j []=row:=getD_some hrj;refine zC4 ?_
   refine AW.range (S:=AlS) (fun u=>[(12,.slice u.a u.m u.c)]) (fun u=>u.B::[(i9,.cells false [.int .i64 method,.slice s.a s.m s.c,.slice a2 n2 c2,.slice u.a2 u.m2 u.c2])]::s.B::u.B2::[(i4,.cells false [.int .i64 0,.slice none 0 0,.slice none 0 0,.slice none 0 0])]::[]::own) (fun k u G=>Bld tAct G u.a u.m u.c u.B ((row.take k).map headA)∧Bld tConf G u.a2 u.m2 u.c2 u.B2 (confsTo all j++confRow j row k)) rn ⟨none,0,0,[],s.a2,s.m2,s.c2,s.B2⟩
    Z Z Z Z Z Z Z Z Z zo rfl rfl (fun _=>rfl) (fun _=>rfl) sM (OwnLe.flat (List.Perm.refl _)) ⟨Bld.nil_ _ _,by rw[show confRow j row 0=[] from rfl,List.append_nil];exact hb2⟩ ?_ ?_
   ·intro k u F3 hF3 hk hP;obtain⟨hu,hu2⟩:=hP;have hrow3:=hrow.mono hF3;have hul:=hu.len;have hul2:=hu2.len;have hcr:=confRow_few j row k;rw[List.length_map,List.length_take] at hul;rw[List.length_append] at hul2;refine zC4 ?_;refine WT.idxL hT hrow3 Z Z Z Z Z Z Z Z Z zo (fun l hlk b2 off2 ro2 cs2 lx2 hb2 hp2 hrel2=>?_);obtain⟨la,ln,lc,rfl,hl⟩:=hrel2;have hll:=hl.len;have hl1:=hrs l (gM hlk);have htk:(row.take (k+1)).map headA=(row.take k).map headA++[headA l]:=by rw[List.take_add_one,hlk,List.map_append];rfl
    have hgk:row.getD k []=l:=getD_some hlk;refine zC4 ?_;refine WT.allocT hT Z Z Z Z Z Z (fun i15 hi15=>?_);refine zC4 ?_;refine AW.jnT (S:=Unit) (fun _=>[]) (fun _=>[(i15,.cells false [.int .i64 (headA l).1,.int .i64 (headA l).2])]::u.B::[(i9,.cells false [.int .i64 method,.slice s.a s.m s.c,.slice a2 n2 c2,.slice u.a2 u.m2 u.c2])]::s.B::u.B2::[(i4,.cells false [.int .i64 0,.slice none 0 0,.slice none 0 0,.slice none 0 0])]::[]::own) (fun _ _=>True) ?_ (fun _ F4 hF4 _=>?_)
    ·refine AW.cond Z (fun h=>?_) (fun h=>?_)
     ·have h:0<ln:=by simp at h;omega
      refine zC4 ?_;refine WT.idxL (j:=0) hT hl Z Z Z Z Z Z Z Z Z zo (fun p hp0 b3 off3 ro3 cs3 lx3 hb3 hp3 hrel3=>?_);obtain rfl:lx3=_:=hrel3;have hhp:headA l=p:=by unfold headA;rw[List.head?_eq_getElem?,hp0];rfl
      refine zC4 ?_;rw[hhp];exact⟨(),sM,zow,trivial⟩
     ·have h:ln=0:=by simp at h;omega
      have hhp:headA l=(0,0):=by
       obtain rfl:l=[]:=List.eq_nil_of_length_eq_zero zo;rfl
      refine zC4 ?_;rw[hhp];exact⟨(),sM,zow,trivial⟩
    ·have hl4:=hl.mono hF4;refine zC4 ?_;refine WT.buildT hT Z Z Z Z Z Z Z Z Z Z Z Z Z Z (fun i33 hi33=>?_);refine WT.appendT (R:=tAct) (ys:=[headA l]) hT 2 (hu.mono hF4) Z (fun _=>rfl) Z Z Z Z Z Z Z Z Z Z Z (fun h0 s0=>news_own hT s0 0 Z Z Z Z) (Cells.single (R:=tAct) (x:=headA l) rfl) Z (by decide) zom (fun a3 c3 B3 hB3=>?_);refine zC4 ?_;refine AW.cond Z (fun h=>?_) (fun h=>?_)
     ·have h:1<ln:=by simp at h;omega
      have hcs:confRow j row (k+1)=confRow j row k++[(j,k,l)]:=by rw[confRow_succ,hgk,if_pos zo]
      refine zC4 ?_;refine WT.buildT hT Z Z Z Z Z Z Z Z Z Z Z Z Z Z (fun i34 hi34=>?_);refine WT.appendT (R:=tConf) (ys:=[(j,k,l)]) hT 6 (hu2.mono hF4) Z (fun _=>rfl) Z Z Z Z Z Z Z Z Z Z Z (fun h0 s0=>news_own hT s0 0 Z Z Z Z) (Cells.single (R:=tConf) (x:=(j,k,l)) ⟨_,_,_,rfl,hl4⟩) Z (by decide) zom (fun a4 c4 B4 hB4=>?_);refine zC8 ?_;refine⟨⟨a3,u.m+1,c3,B3,a4,u.m2+1,c4,B4⟩,sM,zow,?_,?_⟩
      ·dsimp only;rw[htk];exact hB3
      ·dsimp only;rw[hcs,←List.append_assoc];exact hB4
     ·have h:ln≤1:=by simp at h;omega
      have hcs:confRow j row (k+1)=confRow j row k:=by rw[confRow_succ,hgk,if_neg zo,List.append_nil]
      refine zC4 ?_;refine⟨⟨a3,u.m+1,c3,B3,u.a2,u.m2,u.c2,u.B2⟩,sM,zow,?_,?_⟩
      ·dsimp only;rw[htk];exact hB3
      ·dsimp only;rw[hcs];exact hu2.mono hF4
   ·intro u F3 hF3 hP;obtain⟨hu,hu2⟩:=hP;rw[List.take_of_length_le zo] at hu;have hul:=hu.len;have hu2l:=hu2.len;have hcr:=confRow_few j row rn;rw[List.length_append] at hu2l;refine AW.freezeAll 0 Z Z (fun F4 hF4 hB4=>?_);have hrow4:=hu.frozen hF4 hB4;have htk:(all.take (j+1)).map (·.map headA)=(all.take j).map (·.map headA)++[row.map headA]:=by rw[List.take_add_one,hrj,List.map_append];rfl
    have hct:confsTo all (j+1)=confsTo all j++confRow j row rn:=by rw[confsTo_succ,hgd,hrl]
    refine zC8 ?_;refine WT.buildT hT Z Z Z Z Z Z Z Z Z Z Z Z Z Z (fun i35 hi35=>?_);refine WT.appendT (R:=tList tAct) (ys:=[row.map headA]) hT 3 ((hb.mono hF3).mono hF4) Z (fun _=>rfl) Z Z Z Z Z Z Z Z Z Z Z (fun h0 s0=>news_own hT s0 0 Z Z Z Z) (Cells.single (R:=tList tAct) (x:=row.map headA) ⟨_,_,_,rfl,hrow4⟩) Z (by decide) zom (fun a5 c5 B5 hB5=>?_);refine zC8 ?_;refine⟨⟨a5,s.m+1,c5,B5,u.a2,u.m2,u.c2,u.B2⟩,sM,zow,?_,?_⟩
    ·dsimp only;rw[htk];exact hB5
    ·dsimp only;rw[hct];exact hu2.mono hF4
  ·intro s F2 hF2 hP;obtain⟨hb,hb2⟩:=hP;rw[List.take_of_length_le zo] at hb;refine AW.freezeAll 1 Z Z (fun F3 hF3 hB3=>?_);have g1:=hb.frozen hF3 hB3;refine AW.freezeAll 2 Z Z (fun F4 hF4 hB4=>?_);have g2:=(hb2.mono hF3).frozen hF4 hB4;refine zC8 ?_;refine AW.ret ⟨_,[],⟨_,_,⟨_,rfl,fun G h0 s0=>loadA_cells (s0.has (p:=3) Z me) (readT_ok hT rfl)⟩,⟨_,_,rfl,rfl,rfl⟩,rfl⟩,zsb,rfl,.inr ⟨_,_,hT2,rfl,_,_,_,_,_,_,_,_,_,rfl,g1.mono hF4,((h2.mono hF2).mono hF3).mono hF4,?_⟩⟩;have e:n1=all.length:=hn1;rw[e] at g2;exact g2
theorem shE5{p:Prop} (h:p:=by
 have hxlen:=hx.len;have hylen:=hy.len;refine zB4 ?_;refine AW.cond Z (fun hc=>(by simp at hc;omega)) (fun hc=>?_);refine zB4 ?_;refine AW.range (S:=Unit) (fun _=>[]) (fun _=>_) (fun j _ G=>True) m () Z Z Z Z Z Z Z Z Z zo Z Z (fun _=>rfl) (fun _=>rfl) sM oR trivial ?_ ?_
 ·intro j _ F1 hF1 hj _;have hx1:=hx.mono hF1;have hy1:=hy.mono hF1;refine zB4 ?_;refine WT.idxL hT hx1 Z Z Z Z Z Z Z Z Z zo (fun x hxj b1 off ro cs lx hb hp1 hrel=>?_);obtain rfl:lx=_:=hrel;refine zB4 ?_;refine WT.idxL hT hy1 Z Z Z Z Z Z Z Z Z zo (fun y hyj b2 off2 ro2 cs2 ly hb2 hp2 hrel2=>?_);obtain rfl:ly=_:=hrel2;obtain rfl:x=y:=by rw[hxj] at hyj;exact Option.some.inj hyj
  refine zB4 ?_;refine AW.cond Z (fun hc=>?_) (fun hc=>?_)
  ·exfalso;simp at hc
  ·refine zB4 ?_;exact⟨(),sM,zow,trivial⟩
 ·intro _ F1 hF1 _;refine zB4 ?_;exact AW.ret ⟨_,[],⟨_,_,rfl,rfl,rfl⟩,zsb,rfl,rfl⟩):p:=h
theorem actEqual_spec(F:Frz){a b:Option Addr}{m n c d:Nat}{xs:List (Nat×Nat)}(hx:Arr tAct F a m c xs)(hy:Arr tAct F b n d xs)(hm:m≤1000000) :
  Abs.Spec CC 118 [.slice a m c,.slice b n d] F [] fun _ v o=>o=[]∧v=.bool true:=by
 refine Abs.Spec.fn (n:=26) Tryz.func118 rfl rfl fun own=>?_;exact shE5
theorem actFn_spec(F:Frz){a b:Option Addr}{m n c d:Nat}{xs:List (Nat×Nat)}(hx:Arr tAct F a m c xs)(hy:Arr tAct F b n d xs)(hm:m≤1000000) :
  Abs.Spec CC 117 [.slice a m c,.slice b n d] F [] fun _ v o=>o=[]∧v=.bool true:=by
 refine Abs.Spec.fn (n:=8) Tryz.func117 rfl rfl fun own=>?_;refine zB4 ?_;refine WT.callV Tryz.func118 Z Z Z Z Z Z (actEqual_spec _ hx hy hm) (fun v hv=>?_);subst hv;refine zB4 ?_;exact AW.ret ⟨_,[],⟨_,_,rfl,rfl,rfl⟩,zsb,rfl,rfl⟩
theorem actRows_spec(F:Frz){a b:Option Addr}{m n c d:Nat}{xs:List (List (Nat×Nat))}(hx:Arr (tList tAct) F a m c xs)(hy:Arr (tList tAct) F b n d xs)(hm:m≤1000000)(hl:∀l∈xs,l.length≤1000000) :
  Abs.Spec CC 116 [.slice a m c,.slice b n d,.func (.func 117) ⟨[]⟩ ⟨[]⟩] F [] fun _ v o=>o=[]∧v=.bool true:=by
 refine Abs.Spec.fn (n:=32) Tryz.func116 rfl rfl fun own=>?_;have hxlen:=hx.len;have hylen:=hy.len;refine zB4 ?_;refine AW.cond Z (fun hc=>(by simp at hc;omega)) (fun hc=>?_);refine zB4 ?_;refine AW.range (S:=Unit) (fun _=>[]) (fun _=>_) (fun j _ G=>True) m () Z Z Z Z Z Z Z Z Z zo Z Z (fun _=>rfl) (fun _=>rfl) sM oR trivial ?_ ?_
 ·intro j _ F1 hF1 hj _;have hx1:=hx.mono hF1;have hy1:=hy.mono hF1;refine zB4 ?_;refine WT.idxL hT hx1 Z Z Z Z Z Z Z Z Z zo (fun x hxj b1 off ro cs lx hb hp1 hrel=>?_);obtain⟨xa,xn,xc,rfl,hxx⟩:=hrel;refine zB4 ?_;refine WT.idxL hT hy1 Z Z Z Z Z Z Z Z Z zo (fun y hyj b2 off2 ro2 cs2 ly hb2 hp2 hrel2=>?_);obtain⟨ya,yn,yc,rfl,hyy⟩:=hrel2;obtain rfl:x=y:=by rw[hxj] at hyj;exact Option.some.inj hyj
  have hxn:=hxx.len;have hxs:=hl x (gM hxj);refine zB4 ?_;refine WT.callC Tryz.func117 Z Z Z Z Z Z Z Z (actFn_spec _ hxx hyy zo) (fun v hv=>?_);subst hv;refine zB4 ?_;refine AW.cond Z (fun h=>(by cases h)) (fun _=>?_);refine zB4 ?_;exact⟨(),sM,zow,trivial⟩
 ·intro _ F1 hF1 hP;refine zB4 ?_;exact AW.ret ⟨_,[],⟨_,_,rfl,rfl,rfl⟩,zsb,rfl,rfl⟩
theorem intEqual_spec(F:Frz){a b:Option Addr}{m n c d:Nat}{xs:List Int}(hx:Arr tInt F a m c xs)(hy:Arr tInt F b n d xs)(hm:m≤1000000) :
  Abs.Spec CC 40 [.slice a m c,.slice b n d] F [] fun _ v o=>o=[]∧v=.bool true:=by
 refine Abs.Spec.fn (n:=26) Tryz.func40 rfl rfl fun own=>?_;exact shE5
theorem intFn_spec(F:Frz){a b:Option Addr}{m n c d:Nat}{xs:List Int}(hx:Arr tInt F a m c xs)(hy:Arr tInt F b n d xs)(hm:m≤1000000) :
  Abs.Spec CC 120 [.slice a m c,.slice b n d] F [] fun _ v o=>o=[]∧v=.bool true:=by
 refine Abs.Spec.fn (n:=8) Tryz.func120 rfl rfl fun own=>?_;refine zB4 ?_;refine WT.callV Tryz.func40 Z Z Z Z Z Z (intEqual_spec _ hx hy hm) (fun v hv=>?_);subst hv;refine zB4 ?_;exact AW.ret ⟨_,[],⟨_,_,rfl,rfl,rfl⟩,zsb,rfl,rfl⟩
theorem intRows_spec(F:Frz){a b:Option Addr}{m n c d:Nat}{xs:List (List Int)}(hx:Arr (tList tInt) F a m c xs)(hy:Arr (tList tInt) F b n d xs)(hm:m≤1000000)(hl:∀l∈xs,l.length≤1000000) :
  Abs.Spec CC 119 [.slice a m c,.slice b n d,.func (.func 120) ⟨[]⟩ ⟨[]⟩] F [] fun _ v o=>o=[]∧v=.bool true:=by
 refine Abs.Spec.fn (n:=32) Tryz.func119 rfl rfl fun own=>?_;have hxlen:=hx.len;have hylen:=hy.len;refine zB4 ?_;refine AW.cond Z (fun hc=>(by simp at hc;omega)) (fun hc=>?_);refine zB4 ?_;refine AW.range (S:=Unit) (fun _=>[]) (fun _=>_) (fun j _ G=>True) m () Z Z Z Z Z Z Z Z Z zo Z Z (fun _=>rfl) (fun _=>rfl) sM oR trivial ?_ ?_
 ·intro j _ F1 hF1 hj _;have hx1:=hx.mono hF1;have hy1:=hy.mono hF1;refine zB4 ?_;refine WT.idxL hT hx1 Z Z Z Z Z Z Z Z Z zo (fun x hxj b1 off ro cs lx hb hp1 hrel=>?_);obtain⟨xa,xn,xc,rfl,hxx⟩:=hrel;refine zB4 ?_;refine WT.idxL hT hy1 Z Z Z Z Z Z Z Z Z zo (fun y hyj b2 off2 ro2 cs2 ly hb2 hp2 hrel2=>?_);obtain⟨ya,yn,yc,rfl,hyy⟩:=hrel2;obtain rfl:x=y:=by rw[hxj] at hyj;exact Option.some.inj hyj
  have hxn:=hxx.len;have hxs:=hl x (gM hxj);refine zB4 ?_;refine WT.callC Tryz.func120 Z Z Z Z Z Z Z Z (intFn_spec _ hxx hyy zo) (fun v hv=>?_);subst hv;refine zB4 ?_;refine AW.cond Z (fun h=>(by cases h)) (fun _=>?_);refine zB4 ?_;exact⟨(),sM,zow,trivial⟩
 ·intro _ F1 hF1 hP;refine zB4 ?_;exact AW.ret ⟨_,[],⟨_,_,rfl,rfl,rfl⟩,zsb,rfl,rfl⟩
theorem sameConf_spec(F:Frz){lx ly:List Value}(x:Nat×Nat×List (Nat×Nat))(hf:x.2.2.length≤1000000)(hx:tConf.rel F lx x)(hy:tConf.rel F ly x):Abs.Spec CC 122 [.agg ⟨lx⟩,.agg ⟨ly⟩] F [] fun _ v o=>o=[]∧v=.bool true:=by
 obtain⟨xa,xn,xc,rfl,hxa⟩:=hx;obtain⟨ya,yn,yc,rfl,hya⟩:=hy;have hxl:=hxa.len;have hyl:=hya.len;refine Abs.Spec.fn (n:=24) Tryz.func122 rfl rfl fun own=>?_;refine AW.seq (AW.reg ?_);refine WT.boxT Z Z Z Z Z Z (fun i2 hi2=>?_);refine WT.boxT Z Z Z Z Z Z (fun i3 hi3=>?_);refine zB4 ?_;refine WT.know (v':=.bool true) 10 Z (by congr 1;simp) ?_;refine zB4 ?_;refine WT.know (v':=.bool true) 17 Z (by congr 1;simp) ?_;refine zB4 ?_;refine WT.callV Tryz.func118 Z Z Z Z Z Z (actEqual_spec _ hxa hya zo) (fun v hv=>?_);subst hv;refine zB4 ?_;exact AW.ret ⟨_,[],⟨_,_,rfl,rfl,rfl⟩,zsb,rfl,rfl⟩
theorem confEqF_spec(F:Frz){a b:Option Addr}{m c d:Nat}{xs:List (Nat×Nat×List (Nat×Nat))}(hx:Arr tConf F a m c xs)(hy:Arr tConf F b m d xs)(hm:m≤1000000)
  (hcmp:∀G lx ly (x:(Nat×Nat×List (Nat×Nat))),x∈xs→tConf.rel G lx x→tConf.rel G ly x→Abs.Spec CC 122 [.agg ⟨lx⟩,.agg ⟨ly⟩] G [] fun _ v o=>o=[]∧v=.bool true) :
  Abs.Spec CC 121 [.slice a m c,.slice b m d,.func (.func 122) ⟨[]⟩ ⟨[]⟩] F [] fun _ v o=>o=[]∧v=.bool true:=by
 refine Abs.Spec.fn (n:=32) Tryz.func121 rfl rfl fun own=>?_;have hxlen:=hx.len;refine zB4 ?_;refine AW.cond Z (fun h=>(by exfalso;simp at h)) (fun _=>?_);refine zB4 ?_;refine AW.range (S:=Unit) (fun _=>[]) (fun _=>own) (fun j _ G=>True) m () Z Z Z Z Z Z Z Z Z zo Z Z (fun _=>rfl) (fun _=>rfl) sM oR trivial ?_ ?_
 ·intro j _ F1 hF1 hj hP;have hx1:=hx.mono hF1;have hy1:=hy.mono hF1;refine zB4 ?_;refine WT.idxL hT hx1 Z Z Z Z Z Z Z Z Z zo (fun x hxj b1 off ro cs lx hb hp1 hrel=>?_);have hrelx:=hrel;obtain⟨xa,xn,xc,rfl,_⟩:=hrel;refine zB4 ?_;refine WT.allocT hT Z Z Z Z Z Z (fun i8 hi8=>?_);refine zB4 ?_;refine WT.idxL hT hy1 Z Z Z Z Z Z Z Z Z zo (fun y hyj b2 off2 ro2 cs2 ly hb2 hp2 hrel=>?_);obtain rfl:y=x:=by rw[hxj] at hyj;exact(Option.some.inj hyj).symm
  have hrely:=hrel;obtain⟨ya,yn,yc,rfl,_⟩:=hrel;refine zB4 ?_;refine WT.allocT hT Z Z Z Z Z Z (fun i9 hi9=>?_);refine zB4 ?_;refine WT.callC Tryz.func122 Z Z Z Z Z Z Z Z (hcmp _ _ _ y (gM hxj) hrelx hrely) (fun v hv=>?_);subst hv;refine zB4 ?_;refine AW.cond Z (fun h=>(by cases h)) (fun _=>?_);refine zB4 ?_;exact⟨(),sM,OwnLe.skip _ (OwnLe.skip _ oR),trivial⟩
 ·intro _ F1 hF1 hP;refine zB4 ?_;exact AW.ret ⟨_,[],⟨_,_,rfl,rfl,rfl⟩,zsb,rfl,rfl⟩
structure TabSm(T:Tab):Prop where
 act:T.act.length≤1000000
 rows:∀l∈T.act,l.length≤1000000
 go:T.go.length≤1000000
 grows:∀l∈T.go,l.length≤1000000
 conf:T.conf.length≤1000000
 acts:∀x∈T.conf,x.2.2.length≤1000000
theorem tabSame_spec(F:Frz){method:Nat}{T:Tab}(hs:TabSm T){v w:Value}(hv:TabV F method T v)(hw:TabV F method T w):Abs.Spec CC 80 [v,w] F [] fun _ v o=>o=[]∧v=.bool true:=by
 obtain⟨a1,n1,c1,a2,n2,c2,a3,n3,c3,rfl,h1,h2,h3⟩:=hv;obtain⟨b1,m1,d1,b2,m2,d2,b3,m3,d3,rfl,g1,g2,g3⟩:=hw;obtain rfl:n3=m3:=by rw[h3.len,g3.len]
 have l1:=h1.len;have l2:=h2.len;have l3:=h3.len;refine Abs.Spec.fn (n:=31) Tryz.func80 rfl rfl fun own=>?_;refine AW.seq (AW.reg ?_);refine WT.boxT Z Z Z Z Z Z (fun i2 hi2=>?_);refine WT.boxT Z Z Z Z Z Z (fun i3 hi3=>?_);refine zB4 ?_;refine WT.know (v':=.bool true) 10 Z (by congr 1;simp) ?_;refine zB4 ?_;refine WT.callV Tryz.func116 Z Z Z Z Z Z (actRows_spec _ h1 g1 (by rw[l1];exact hs.act) hs.rows) (fun v hv=>?_);subst hv;refine zB4 ?_;refine WT.callV Tryz.func119 Z Z Z Z Z Z (intRows_spec _ h2 g2 (by rw[l2];exact hs.go) hs.grows) (fun v hv=>?_);subst hv;refine zB4 ?_
 refine WT.callV Tryz.func121 Z Z Z Z Z Z (confEqF_spec _ h3 g3 (by rw[l3];exact hs.conf) (fun G lx ly x hx q1 q2=>sameConf_spec G x (hs.acts x hx) q1 q2)) (fun v hv=>?_);subst hv;refine zB4 ?_;exact AW.ret ⟨_,[],⟨_,_,rfl,rfl,rfl⟩,zsb,rfl,rfl⟩
theorem tableF_sm{g:Gram}(hg:Valid g)(ht5:g.terms≤5){method:Nat}{T:Tab}(h:tableF g method=some T):TabSm T∧T.act.length≤400∧T.go.length=T.act.length∧(∀r∈T.act,r.length=g.terms+1)∧(∀r∈T.go,r.length=g.nons):=by
 unfold tableF at h;cases hst:statesF g method with
 | none=>rw[hst] at h;cases h
 | some a=>
  obtain⟨S,rows⟩:=a;rw[hst] at h;obtain rfl:=Option.some.inj h;have hfew:=autoK_few hst;have hAC:=(statesF_ok hg hst).1;have hlen:rows.length=S.length:=by have:=hAC.len;rwa [List.length_map] at this
  have hgn:=hg.range.nons;have hall6:∀r∈allF g S rows,r.length=g.terms+1:=fun r hr=>by
   unfold allF at hr;obtain⟨s,_,rfl⟩:=List.mem_map.1 hr;simp
  have halen:(allF g S rows).length=S.length:=by unfold allF;simp
  have hrow:∀r∈rows,r.length=g.terms+g.nons:=fun r hr=>by
   obtain⟨k,hk⟩:=List.getElem?_of_mem hr;have hk1:=(gS hk).1;have hS:=gE (show k<(S.map itemsK).length by rw[List.length_map];omega);exact hAC.row k _ r hS hk
  have hsm:∀s t,(actsF g (S.getD s []) (rows.getD s []) t).length≤1001:=fun s t=>by
   have h1:(S.getD s []).length≤1000:=by
    rw[List.getD_eq_getElem?_getD];cases hx:S[s]? with
    | none=>exact Nat.zero_le _
    | some st=>exact(statesF_PK hg hst st (gM hx)).1
   have h2:=actPre_len (g:=g) (row:=rows.getD s []) (t:=t);have h3:=List.length_filterMap_le (actOne g t) (S.getD s []);rw[actsF_eq,List.length_append];omega
  have hal:∀s r,(allF g S rows)[s]?=some r→∀l∈r,List.length l≤1001:=fun s r hr l hl=>by
   have hr:=gM hr;unfold allF at hr;obtain⟨s,_,rfl⟩:=List.mem_map.1 hr;obtain⟨t,_,rfl⟩:=List.mem_map.1 hl;exact hsm s t
  have hconf:(tabF (allF g S rows) (rows.map (·.drop g.terms))).conf=confsTo (allF g S rows) (allF g S rows).length:=rfl;refine⟨⟨?_,?_,?_,?_,?_,?_⟩,?_,?_,?_,?_⟩
  ·show ((allF g S rows).map _).length≤_;rw[List.length_map];omega
  ·intro l hl;obtain⟨r,hr,rfl⟩:=List.mem_map.1 hl;rw[List.length_map,hall6 r hr];omega
  ·show (rows.map _).length≤_;rw[List.length_map];omega
  ·intro l hl;obtain⟨r,hr,rfl⟩:=List.mem_map.1 hl;have:=hrow r hr;rw[List.length_drop];omega
  ·rw[hconf];have:=confsTo_few (allF g S rows) (fun r hr=>by rw[hall6 r hr];omega) (allF g S rows).length;omega
  ·intro x hx;rw[hconf] at hx;unfold confsTo at hx;obtain⟨l,hl,hxl⟩:=List.mem_flatten.1 hx;obtain⟨s,hs,rfl⟩:=List.mem_map.1 hl;unfold confRow at hxl;obtain⟨t,ht,hxt⟩:=List.mem_filterMap.1 hxl;split at hxt
   ·obtain rfl:=Option.some.inj hxt;dsimp only;obtain⟨r,hr⟩:∃r,(allF g S rows)[s]?=some r:=⟨_,gE (List.mem_range.1 hs)⟩;rw[getD_some hr] at ht ⊢;obtain⟨l,hl2⟩:∃l,r[t]?=some l:=⟨_,gE (List.mem_range.1 ht)⟩;rw[getD_some hl2];have:=hal s r hr l (gM hl2);exact Nat.le_trans this (by decide)
   ·cases hxt
  ·show ((allF g S rows).map _).length≤_;rw[List.length_map];omega
  ·show (rows.map _).length=((allF g S rows).map _).length;rw[List.length_map,List.length_map];omega
  ·intro l hl;obtain⟨r,hr,rfl⟩:=List.mem_map.1 hl;rw[List.length_map,hall6 r hr]
  ·intro l hl;obtain⟨r,hr,rfl⟩:=List.mem_map.1 hl;have:=hrow r hr;rw[List.length_drop];omega
theorem tcheck_spec(F:Frz)(g:Gram)(hg:Valid g)(ht5:g.terms≤5){method:Nat}(hm:method=1∨method=2∨method=3){T:Tab}(hT2:tableF g method=some T){v:Value}(hv:TabV F method T v){a:Option Addr}{m c:Nat}(hr:Arr tRule F a m c g.rules) :
  Abs.Spec CC 43 [v,.agg ⟨gramCells g a m c⟩] F [] fun _ v o=>o=[]∧v=.int .i64 0:=by
 obtain⟨a1,n1,c1,a2,n2,c2,a3,n3,c3,rfl,h1,h2,h3⟩:=id hv;have hmb:method≤3:=by omega
 unfold gramCells;refine Abs.Spec.fn (n:=21) Tryz.func43 rfl rfl fun own=>?_;refine AW.seq (AW.reg ?_);refine WT.boxT Z Z Z Z Z Z (fun i2 hi2=>?_);refine WT.boxT Z Z Z Z Z Z (fun i3 hi3=>?_);refine zB4 ?_;have hof:=of_spec F g hg ht5 method hm hr;unfold gramCells at hof;refine WT.callF0 Tryz.func18 Z Z Z Z Z Z hof (fun F1 v hF1 hv1=>?_);rcases hv1 with ⟨hn,_⟩ | ⟨T',x,hx1,rfl,hx2⟩
 ·rw[hT2] at hn;cases hn
 rw[hT2] at hx1;obtain rfl:=Option.some.inj hx1;obtain⟨b1,m1,d1,b2,m2,d2,b3,m3,d3,rfl,g1,g2,g3⟩:=id hx2;refine zB4 ?_;refine WT.allocT hT Z Z Z Z Z Z (fun i5 hi5=>?_);refine zB4 ?_;refine AW.cond Z (fun h=>(by cases h)) (fun _=>?_);refine zB4 ?_;refine WT.callV Tryz.func80 Z Z Z Z Z Z (tabSame_spec _ (tableF_sm hg ht5 hT2).1 (hv.mono hF1) hx2) (fun v hv=>?_);subst hv;refine zB4 ?_;refine AW.cond Z (fun h=>(by cases h)) (fun _=>?_);refine zB4 ?_;exact AW.ret ⟨_,[],⟨_,_,rfl,rfl,rfl⟩,zsb,rfl,rfl⟩
def Min(g:Gram)(w:List Nat)(s:Sym)(T:Tree)(i j:Nat):Prop:=TreeOf g w s T i j∧∀T',TreeOf g w s T' i j→T.pre.length≤T'.pre.length
inductive MTs(g:Gram)(w:List Nat):List Sym→List Tree→Nat→Nat→Prop
 | nil {i:Nat}:MTs g w [] [] i i
 | cons {s:Sym} {l:List Sym} {t:Tree} {ts:List Tree} {i m j:Nat}:Min g w s t i m→MTs g w l ts m j→MTs g w (s::l) (t::ts) i j
section
variable {g:Gram}{w:List Nat}
theorem min_exists{s:Sym}{i j:Nat}:∀(n:Nat) {T:Tree},T.pre.length≤n→TreeOf g w s T i j→∃T',Min g w s T' i j∧T'.pre.length≤T.pre.length
 | 0,.mk _ _ _,h,_=>by
  exact absurd h (by show ¬(List.length (_::_)≤0);simp)
 | n+1,T,h,hT=>by
  by_cases hc:∃T',TreeOf g w s T' i j∧T'.pre.length<T.pre.length
  ·obtain⟨T',h1,h2⟩:=hc;obtain⟨T2,h3,h4⟩:=min_exists n zo h1;exact⟨T2,h3,by omega⟩
  ·refine⟨T,⟨hT,fun T' h1=>?_⟩,Nat.le_refl _⟩;rcases Nat.lt_or_ge T'.pre.length T.pre.length with h2 | h2
   ·exact absurd ⟨T',h1,h2⟩ hc
   ·exact h2
theorem TreesOf.toMin:∀{ts:List Tree} {l:List Sym} {i j:Nat},TreesOf g w l ts i j→∃ts',MTs g w l ts' i j∧(preL ts').length≤(preL ts).length
 | [],_,_,_,.nil=>⟨[],.nil,Nat.le_refl _⟩
 | t::ts,_,_,_,.cons h1 h2=>by
  obtain⟨t',a1,a2⟩:=min_exists _ (Nat.le_refl _) h1;obtain⟨ts',b1,b2⟩:=TreesOf.toMin h2;refine⟨t'::ts',.cons a1 b1,?_⟩;show (t'.pre++preL ts').length≤(t.pre++preL ts).length;rw[List.length_append,List.length_append];omega
theorem MTs.of:∀{ts:List Tree} {l:List Sym} {i j:Nat},MTs g w l ts i j→TreesOf g w l ts i j
 | _,_,_,_,.nil=>.nil
 | _,_,_,_,.cons h1 h2=>.cons h1.1 (MTs.of h2)
theorem Min.eq{s:Sym}{T T':Tree}{i j:Nat}(h:Min g w s T i j)(h':Min g w s T' i j):T.pre.length=T'.pre.length:=Nat.le_antisymm (h.2 _ h'.1) (h'.2 _ h.1)
theorem Min.kids{n:Nat}{T:Tree}{i j:Nat}(h:Min g w ⟨false,n⟩ T i j):∃(k:Nat) (r:Rule) (ks:List Tree),g.rules[k]?=some r∧MTs g w r.right ks i j∧T.pre.length=1+(preL ks).length:=by
 obtain⟨h1,h2⟩:=h;cases h1 with
 | node h3 h4=>
  rename_i k r kids;obtain⟨ks,h5,h6⟩:=TreesOf.toMin h4;have h7:=h2 _ (.node h3 h5.of);have e1:(Tree.mk (k:Int) 0 kids).pre.length=(preL kids).length+1:=rfl;have e2:(Tree.mk (k:Int) 0 ks).pre.length=(preL ks).length+1:=rfl;rw[e1,e2] at h7;exact⟨k,r,ks,h3,h5,by rw[e1];omega⟩
def eB:Nat→Nat
 | 0=>1
 | k+1=>1+3*eB k
theorem mem_erase'{U:List Nat}{m x:Nat}(h:x∈U)(hne:x≠m):x∈U.erase m:=(List.mem_erase_of_ne hne).2 h
theorem MTs.sum{P:Sym→Tree→Nat→Nat→Prop}{B:Nat}:∀{ts:List Tree} {l:List Sym} {i j:Nat},MTs g w l ts i j→(∀s t a b,Min g w s t a b→i≤a→a≤b→b≤j→t.pre.length≤(preL ts).length→t.pre.length≤B)→(preL ts).length≤l.length*B
 | _,_,_,_,.nil,_=>Nat.zero_le _
 | t::ts,s::l,i,j,.cons (m:=m) h1 h2,h=>by
  have ha:=(TreeOf.le h1.1).1;have hb:=(TreesOf.le h2.of).1;have e2:(preL (t::ts)).length=t.pre.length+(preL ts).length:=by show (t.pre++preL ts).length=_;rw[List.length_append]
  have g1:=h s t i m h1 (Nat.le_refl _) ha hb zo;have g2:=MTs.sum (P:=P) h2 fun s' t' a b q1 q2 q3 q4 q5=>h s' t' a b q1 zo q3 q4 zo;rw[e2,List.length_cons,Nat.succ_mul];omega
theorem emp_bound(hg:Valid g)(h3:∀r∈g.rules,r.right.length≤3):∀(k:Nat) (U:List Nat) (n i:Nat) (T:Tree),U.length≤k→Min g w ⟨false,n⟩ T i i→(∀m T',Min g w ⟨false,m⟩ T' i i→T'.pre.length<T.pre.length→m∈U)→T.pre.length≤eB k:=by
 intro k
 induction k with
 | zero=>
  intro U n i T hU hT hlow;obtain⟨q,r,ks,hr,hks,e⟩:=hT.kids;have hUn:U=[]:=List.eq_nil_of_length_eq_zero zo;subst hUn;generalize r.right=rr at hks;cases hks with
  | nil=>rw[e];exact Nat.le_refl _
  | @cons s l t ts _ m _ a b=>
   exfalso;have ha:=(TreeOf.le a.1).1;have hb:=(TreesOf.le b.of).1;obtain rfl:m=i:=by omega
   have hnt:=(TreeOf.begin a.1).1 rfl;obtain⟨sb,sn⟩:=s;obtain rfl:sb=false:=hnt.1;have e2:(preL (t::ts)).length=t.pre.length+(preL ts).length:=by show (t.pre++preL ts).length=_;rw[List.length_append]
   have:=hlow sn t a zo;cases this
 | succ k ih=>
  intro U n i T hU hT hlow;obtain⟨q,r,ks,hr,hks,e⟩:=hT.kids;have hone:∀{s:Sym} {t:Tree} {m:Nat},Min g w s t i m→m=i→t.pre.length<T.pre.length→t.pre.length≤eB k:=by
   intro s t m a hm hlt;subst hm;have hnt:=(TreeOf.begin a.1).1 rfl;obtain⟨sb,sn⟩:=s;obtain rfl:sb=false:=hnt.1;have hin:=hlow sn t a hlt;refine ih (U.erase sn) sn m t (by rw[List.length_erase_of_mem hin];omega) a fun m' T' hT' hlt'=>?_;refine mem_erase' (hlow m' T' hT' zo) fun e=>?_;subst e;have:=a.eq hT';omega
  have hl:=h3 r (gM hr);have h5:=hks.sum (P:=fun _ _ _ _=>True) (B:=eB k) fun s t a b q1 q2 q3 q4 q5=>by
   obtain rfl:a=i:=by omega
   exact hone q1 zo zo
  rw[e];have:r.right.length*eB k≤3*eB k:=Nat.mul_le_mul_right _ hl;show _≤1+3*eB k;omega
theorem three_bound{len K i j:Nat}(hlen:j-i=len)(hij:i<j):∀{l:List Sym} {ks:List Tree},MTs g w l ks i j→l.length≤3→
  (∀s t a b,Min g w s t a b→i≤a→a≤b→b≤j→t.pre.length≤(preL ks).length→(a=b→t.pre.length≤40)∧(a<b→b-a<len→t.pre.length+322≤650*(b-a))∧(b-a=len→t.pre.length+650≤650*len+82*K∨(t.pre.length=1∧len=1)))→
  1+(preL ks).length+650≤650*len+82*(K+1):=by
 intro l ks h hl hk;cases h with
 | nil=>omega
 | @cons s1 l t1 ts _ m1 _ h1 h=>
  have a1:=(TreeOf.le h1.1).1;have b1:=(TreesOf.le h.of).1;have e1:(preL (t1::ts)).length=t1.pre.length+(preL ts).length:=by show (t1.pre++preL ts).length=_;rw[List.length_append]
  obtain⟨p1,p2,p3⟩:=hk s1 t1 i m1 h1 (Nat.le_refl _) a1 b1 zo;cases h with
  | nil=>
   have e2:(preL ([]:List Tree)).length=0:=rfl;omega
  | @cons s2 l t2 ts _ m2 _ h2 h=>
   have a2:=(TreeOf.le h2.1).1;have b2:=(TreesOf.le h.of).1;have e2:(preL (t2::ts)).length=t2.pre.length+(preL ts).length:=by show (t2.pre++preL ts).length=_;rw[List.length_append]
   obtain⟨q1,q2,q3⟩:=hk s2 t2 m1 m2 h2 a1 a2 b2 zo;cases h with
   | nil=>
    have e3:(preL ([]:List Tree)).length=0:=rfl;omega
   | @cons s3 l t3 ts _ m3 _ h3 h=>
    have a3:=(TreeOf.le h3.1).1;have b3:=(TreesOf.le h.of).1;have e3:(preL (t3::ts)).length=t3.pre.length+(preL ts).length:=by show (t3.pre++preL ts).length=_;rw[List.length_append]
    obtain⟨r1,r2,r3⟩:=hk s3 t3 m2 m3 h3 zo a3 b3 zo;cases h with
    | nil=>
     have e4:(preL ([]:List Tree)).length=0:=rfl;omega
    | cons _ _=>simp only[List.length_cons] at hl;omega
theorem part_bound(hg:Valid g)(hn4:g.nons≤4)(h3:∀r∈g.rules,r.right.length≤3):∀(len k:Nat) (U:List Nat) (n i j:Nat) (T:Tree),j-i=len→i<j→U.length≤k→Min g w ⟨false,n⟩ T i j→(∀m T',Min g w ⟨false,m⟩ T' i j→T'.pre.length<T.pre.length→m∈U)→T.pre.length+650≤650*len+82*(k+1):=by
 have hnon:∀{m a b:Nat} {T':Tree},Min g w ⟨false,m⟩ T' a b→m<g.nons:=fun {m a b T'} h=>by
  cases h.1 with
  | node h1 _=>exact(hg.right _ (gM h1)).1
 have hrange:∀{n:Nat} {a b:Nat} {T:Tree},Min g w ⟨false,n⟩ T a b→((List.range g.nons).erase n).length≤3∧∀m T',Min g w ⟨false,m⟩ T' a b→T'.pre.length<T.pre.length→m∈(List.range g.nons).erase n:=fun {n a b T} h=>by
  refine⟨?_,fun m T' h1 h2=>mem_erase' (List.mem_range.2 (hnon h1)) fun e=>?_⟩
  ·rw[List.length_erase_of_mem (List.mem_range.2 (hnon h)),List.length_range];omega
  ·subst e;have:=h.eq h1;omega
 have hemp:∀{s:Sym} {a:Nat} {T:Tree},Min g w s T a a→T.pre.length≤40:=fun {s a T} h=>by
  have hnt:=(TreeOf.begin h.1).1 rfl;obtain⟨sb,sn⟩:=s;obtain rfl:sb=false:=hnt.1;obtain⟨h1,h2⟩:=hrange h;exact emp_bound hg h3 3 _ sn a T h1 h h2
 intro len
 induction len using Nat.strongRecOn with
 | _ len ihl=>
  have main:∀(K:Nat) {n i j:Nat} {T:Tree},j-i=len→i<j→Min g w ⟨false,n⟩ T i j→(∀m T',Min g w ⟨false,m⟩ T' i j→T'.pre.length<T.pre.length→T'.pre.length+650≤650*len+82*K)→T.pre.length+650≤650*len+82*(K+1):=by
   intro K n i j T hlen hij hT hF;obtain⟨q,r,ks,hr,hks,e⟩:=hT.kids;rw[e];refine three_bound hlen hij hks (h3 r (gM hr)) fun s t a b h1 h2 h4 h5 h6=>⟨fun hab=>?_,fun hab hlt=>?_,fun hab=>?_⟩
   ·subst hab;exact hemp h1
   ·obtain⟨sb,sn⟩:=s;cases sb with
    | true=>
     cases h1.1 with
     | leaf _=>
      show 1+322≤_;omega
    | false=>
     obtain⟨g1,g2⟩:=hrange h1;have:=ihl (b-a) hlt 3 _ sn a b t rfl hab g1 h1 g2;omega
   ·have ha:a=i:=by omega
    have hb:b=j:=by omega
    subst ha hb;obtain⟨sb,sn⟩:=s;cases sb with
    | true=>
     cases h1.1 with
     | leaf _=>exact .inr ⟨rfl,by omega⟩
    | false=>exact .inl (hF sn t h1 zo)
  intro k
  induction k with
  | zero=>
   intro U n i j T hlen hij hU hT hlow;have hUn:U=[]:=List.eq_nil_of_length_eq_zero zo;subst hUn;exact main 0 hlen hij hT fun m T' h1 h2=>by have:=hlow m T' h1 h2;cases this
  | succ k ihk=>
   intro U n i j T hlen hij hU hT hlow;refine main (k+1) hlen hij hT fun m T' h1 h2=>?_;have hin:=hlow m T' h1 h2;refine ihk (U.erase m) m i j T' hlen hij (by rw[List.length_erase_of_mem hin];omega) h1 fun m' T2 h4 h5=>?_;refine mem_erase' (hlow m' T2 h4 zo) fun e=>?_;subst e;have:=h1.eq h4;omega
theorem tree_small(hg:Small g){T:Tree}(h:TreeOf g w ⟨false,g.start⟩ T 0 w.length):∃T',TreeOf g w ⟨false,g.start⟩ T' 0 w.length∧T'.pre.length≤650*w.length+40:=by
 obtain⟨T',h1,_⟩:=min_exists _ (Nat.le_refl _) h;have hgv:=hg.valid;have hnon:∀{m a b:Nat} {T':Tree},Min g w ⟨false,m⟩ T' a b→m<g.nons:=fun {m a b T'} h=>by
  cases h.1 with
  | node h1 _=>exact(hgv.right _ (gM h1)).1
 have hn:=hnon h1;have hlen:((List.range g.nons).erase g.start).length≤3:=by
  rw[List.length_erase_of_mem (List.mem_range.2 hn),List.length_range];have:=hg.nons.2;omega
 have hlow:∀m T2,Min g w ⟨false,m⟩ T2 0 w.length→T2.pre.length<T'.pre.length→m∈(List.range g.nons).erase g.start:=fun m T2 h2 h3=>mem_erase' (List.mem_range.2 (hnon h2)) fun e=>by
  subst e;have:=h1.eq h2;omega
 have h3:∀r∈g.rules,r.right.length≤3:=fun r hr=>(hg.ok r hr).2.1;refine⟨T',h1.1,?_⟩;rcases Nat.eq_zero_or_pos w.length with e | e
 ·rw[e] at h1 hlow ⊢;have:=emp_bound hgv h3 3 _ g.start 0 T' hlen h1 hlow;exact this
 ·have:=part_bound hgv hg.nons.2 h3 w.length 3 _ g.start 0 w.length T' zo e hlen h1 hlow;omega
end
mutual
theorem TreeOf.ends{g:Gram}{w:List Nat}:∀{t:Tree} {s s':Sym} {i j j':Nat},TreeOf g w s t i j→TreeOf g w s' t i j'→j=j'
 | .mk _ _ _,_,_,_,_,_,.leaf _,h=>by
  generalize hr:(-1:Int)=r at h;cases h with
  | leaf _=>rfl
  | node _ _=>omega
 | .mk _ _ ks,_,_,_,_,_,.node (k:=k) h h2,h'=>by
  generalize hr:(k:Int)=r at h';cases h' with
  | leaf _=>omega
  | node _ h3=>exact TreesOf.ends h2 h3
theorem TreesOf.ends{g:Gram}{w:List Nat}:∀{ts:List Tree} {l l':List Sym} {i j j':Nat},TreesOf g w l ts i j→TreesOf g w l' ts i j'→j=j'
 | [],_,_,_,_,_,.nil,h=>by cases h;rfl
 | t::ts,_,_,_,_,_,.cons h1 h2,h=>by
  cases h with
  | cons h3 h4=>
   obtain rfl:=TreeOf.ends h1 h3;exact TreesOf.ends h2 h4
end
mutual
theorem TreeOf.toDer{g:Gram}{w:List Nat}:∀{t:Tree} {s:Sym} {i j:Nat},TreeOf g w s t i j→Der g w s i j
 | .mk _ _ _,_,_,_,.leaf h=>.term h
 | .mk _ _ ks,_,_,_,.node h h2=>.non (gM h) (TreesOf.toDer h2)
theorem TreesOf.toDer{g:Gram}{w:List Nat}:∀{ts:List Tree} {l:List Sym} {i j:Nat},TreesOf g w l ts i j→Ders g w l i j
 | [],_,_,_,.nil=>.nil
 | t::ts,_,_,_,.cons h1 h2=>.cons (TreeOf.toDer h1) (TreesOf.toDer h2)
end
section
variable {g:Gram}{w:List Nat}
end
theorem mask32{x:Nat}(h:x<4294967296):intBinA .and .u64 (x:Int) 4294967295=some (.int .u64 (x:Int)):=by
 have:=and64 (x:=x) (y:=4294967295) zo (by decide)
 rw[show x &&& 4294967295=x by
  have:=Nat.and_two_pow_sub_one_eq_mod x 32;rw[show 2 ^ 32-1=4294967295 from rfl] at this;rw[this];exact Nat.mod_eq_of_lt h] at this
 exact this
theorem sh32z{x:Nat}(h:x<4294967296):shiftA .shr .u64 (x:Int) 32=some (.int .u64 0):=by
 have:=shr64 (x:=x) (y:=32) (by decide);rw[Nat.div_eq_of_lt (by exact h)] at this;exact this
theorem mulz(y:Nat):intBinA .mul .u64 0 (y:Int)=some (.int .u64 0):=by
 have:=mul64 0 y;rw[Nat.zero_mul] at this;exact this
theorem zmul(y:Nat):intBinA .mul .u64 (y:Int) 0=some (.int .u64 0):=by
 have:=mul64 y 0;rw[Nat.mul_zero] at this;exact this
theorem muls{x y:Nat}(h:x*y<18446744073709551616):intBinA .mul .u64 (x:Int) (y:Int)=some (.int .u64 ((x*y:Nat):Int)):=by
 rw[mul64,Nat.mod_eq_of_lt h]
theorem mul64_spec(F:Frz)(x y:Nat)(hx:x<65536)(hy:y<65536):Abs.Spec CC 169 [.int .u64 x,.int .u64 y] F [] fun _ v o=>o=[]∧v=.tuple ⟨[.int .u64 0,.int .u64 ((x*y:Nat):Int)]⟩:=by
 have hxy:x*y<4294967296:=Nat.mul_lt_mul'' hx hy;refine Abs.Spec.fn (n:=51) Tryz.func169 rfl rfl fun own=>?_;refine zB4 ?_;refine WT.binV Z Z Z Z Z Z (by decide) (mask32 zo) ?_;refine zB4 ?_;refine WT.shV Z Z Z Z Z Z (by decide) (sh32z zo) ?_;refine zB4 ?_;refine WT.binV Z Z Z Z Z Z (by decide) (mask32 zo) ?_;refine zB4 ?_;refine WT.shV Z Z Z Z Z Z (by decide) (sh32z zo) ?_;refine zB4 ?_;refine WT.binV Z Z Z Z Z Z (by decide) (muls zo) ?_;refine zB4 ?_;refine WT.binV Z Z Z Z Z Z (by decide) (mulz y) ?_;refine zB4 ?_;refine WT.shV Z Z Z Z Z Z (by decide) (sh32z hxy) ?_
 refine WT.binV (v:=.int .u64 0) Z Z Z Z Z Z (by decide) Z ?_;refine zB4 ?_;refine WT.binV (v:=.int .u64 0) Z Z Z Z Z Z (by decide) Z ?_;refine zB4 ?_;refine WT.shV (v:=.int .u64 0) Z Z Z Z Z Z (by decide) Z ?_;refine zB4 ?_;refine WT.binV Z Z Z Z Z Z (by decide) (zmul x) ?_;refine WT.binV (v:=.int .u64 0) Z Z Z Z Z Z (by decide) Z ?_;refine zB4 ?_;refine WT.binV (v:=.int .u64 0) Z Z Z Z Z Z (by decide) Z ?_;refine zB4 ?_;refine WT.binV (v:=.int .u64 0) Z Z Z Z Z Z (by decide) Z ?_;refine zB4 ?_;refine WT.shV (v:=.int .u64 0) Z Z Z Z Z Z (by decide) Z ?_
 refine WT.binV (v:=.int .u64 0) Z Z Z Z Z Z (by decide) Z ?_;refine zB4 ?_;refine WT.binV Z Z Z Z Z Z (by decide) (muls zo) ?_;refine zB4 ?_;exact AW.ret ⟨_,[],⟨_,_,rfl,⟨_,_,rfl,rfl,rfl⟩,rfl⟩,zsb,rfl,rfl⟩
theorem mul_spec(F:Frz)(x y:Nat)(hx:x<65536)(hy:y<65536):Abs.Spec CC 149 [.int .u64 x,.int .u64 y] F [] fun _ v o=>o=[]∧v=.tuple ⟨[.int .u64 0,.int .u64 ((x*y:Nat):Int)]⟩:=by
 refine Abs.Spec.fn (n:=30) Tryz.func149 rfl rfl fun own=>?_;refine zB4 ?_;refine AW.cond Z (fun h=>(by cases h)) (fun _=>?_);refine zB4 ?_;refine WT.callV Tryz.func169 Z Z Z Z Z Z (mul64_spec _ x y hx hy) (fun v hv=>?_);subst hv;refine zB4 ?_;exact AW.ret ⟨_,[],⟨_,_,rfl,⟨_,_,rfl,rfl,rfl⟩,rfl⟩,zsb,rfl,rfl⟩
theorem repeat_spec(F:Frz){b:Nat}{ro:Bool}{z:Int}(hb:F b=some (.cells ro [.int .i64 z]))(n:Nat)(hn:n<65536) :
  Abs.Spec CC 113 [.slice (some ⟨b,0,none⟩) 1 1,.int .i64 n] F [] fun F' v o=>∃B',o=[B']∧∃i,v=.slice (some ⟨i,0,none⟩) n (bif n==0 then 0 else 1)∧B'=[(i,.cells false (List.replicate n (.int .i64 z)))]:=by
 refine Abs.Spec.fn (n:=48) Tryz.func113 rfl rfl fun own=>?_;refine zB4 ?_;refine AW.cond Z (fun h=>(by simp at h;omega)) (fun _=>?_);refine zB4 ?_;refine WT.conv hT (k2:=.u64) Z Z Z Z Z Z Z Z (wrapU64 (by decide)) ?_
 refine zB4 ?_;refine WT.conv hT (k2:=.u64) Z Z Z Z Z Z Z Z (wrapU64 zo) ?_
 refine WT.callV Tryz.func149 Z Z Z Z Z Z (mul_spec _ 1 n (by decide) hn) (fun v hv=>?_);rw[Nat.one_mul] at hv;subst hv
 (iterate 5 (refine WT.easy hT Z Z Z Z Z ?_))
 refine WT.nil ?_;refine AW.seq (AW.seq (AW.reg ?_))
 (iterate 4 (refine WT.easy hT Z Z Z Z Z ?_))
 refine WT.binV (v:=.bool false) Z Z Z Z Z Z (by decide) ?_ ?_
 ·simp only[intBinA,Option.some.injEq,Value.bool.injEq,decide_eq_false_iff_not];omega
 refine zB4 ?_;refine AW.cond Z (fun h=>(by cases h)) (fun _=>?_);refine zB4 ?_;refine WT.conv hT (k2:=.i64) Z Z Z Z Z Z Z Z (wrap64 zo) ?_
 refine WT.makeT (by_:=8) hT Z Z Z Z Z Z Z Z Z Z Z Z zo (fun i7 hi7=>?_);refine zB4 ?_;by_cases hn0:n=0
 ·subst hn0;refine WT.copy0 hT Z Z Z Z Z Z (fun p hp=>by cases hp;rfl) Z Z Z Z ?_;refine zB4 ?_;refine AW.block ?_;refine AW.loopR (S:=Unit) (fun _=>[]) (fun _=>_) (fun _ _=>True) (fun _=>0) () sM oR trivial ?_;intro _ F2 hF2 _;refine zB4 ?_;refine AW.cond Z (fun h=>(by cases h)) (fun h=>?_);refine AW.exit ?_;refine zB4 ?_;exact AW.ret ⟨_,[_],⟨_,_,rfl,rfl,rfl⟩,zsb,_,rfl,_,rfl,rfl⟩
 ·have hmin:Nat.min 1 n=1:=Nat.min_eq_left zo;refine WT.copyOwn (m:=1) (new:=[.int .i64 z]) hT 0 Z Z Z Z Z Z Z Z Z Z Z (fun h0 s0=>?_) Z (by simp) (by simp;omega) Z ?_
  ·rw[hmin];simp[firstA,cellsAt,s0.frz _ _ hb,partL]
  refine WT.know (v':=.int .i64 ((1:Nat):Int)) 33 Z (by rw[hmin]) ?_;refine zB4 ?_;refine AW.block ?_;refine AW.loopR (S:=Nat) (fun j=>[(8,.int .i64 (j:Nat))]) (fun j=>[(i7,.cells false (List.replicate j (.int .i64 z)++List.replicate (n-j) (.int .i64 0)))]::own) (fun j _=>1≤j∧j≤n) (fun j=>n-j) 1
   sM (OwnLe.flat (List.Perm.of_eq ?_)) ⟨Nat.le_refl _,by omega⟩ ?_
  ·have:=spliceL_rep (x:=.int .i64 z) (z:=.int .i64 0) 0 n 1 zo;simp only[List.replicate_zero,List.nil_append,Nat.zero_add] at this;rw[←this];rfl
  intro j F2 hF2 ⟨hj1,hj2⟩;refine zB4 ?_;refine AW.cond Z (fun h=>?_) (fun h=>?_)
  ·have h:j<n:=by simpa using h
   refine zB4 ?_;refine AW.block ?_;refine AW.draw (ps:=[]) Z Z ?_;refine zB4 ?_;refine WT.slice Z Z Z Z Z Z Z Z (fun h0=>sliceA_some (lo:=j) (hi:=n) hT Z Z Z Z Z zo (Nat.le_refl _) (by cases n<;>simp) h0) ?_;refine zB4 ?_;refine WT.slice Z Z Z Z Z Z Z Z (fun h0=>sliceA_some (lo:=0) (hi:=j) hT Z Z Z Z Z (Nat.zero_le _) zo (by cases n<;>simp) h0) ?_;obtain⟨q,hq⟩:∃q,Nat.min (j-0) (n-j)=q:=⟨_,rfl⟩;have hq1:q≤n-j:=by rw[←hq];exact Nat.min_le_right _ _
   have hq2:q≤j:=by rw[←hq];exact Nat.min_le_left (j-0) (n-j)
   have hq3:0<q:=by
    have:0<min (j-0) (n-j):=by rw[Nat.lt_min];omega
    rw[←hq];exact this
   have hfit:0+j*1+(List.replicate q (Value.int .i64 z)).length≤(List.replicate j (Value.int .i64 z)++List.replicate (n-j) (Value.int .i64 0)).length:=by
    simp only[List.length_append,List.length_replicate];omega
   refine WT.copyOwn (m:=j-0) (new:=List.replicate q (.int .i64 z)) hT 0 Z Z Z Z Z Z Z Z Z Z Z (fun h0 s0=>?_) (by simp[Go.Abs.one]) (by intro e;have:=congrArg List.length e;simp at this;omega) hfit Z ?_
   ·have hb2:=s0.has (p:=0) rfl me;have e0:(q==0)=false:=by simpa using Nat.ne_of_gt hq3
    rw[hq];simp only[firstA,e0,cond_false,cellsAt,hb2,Nat.mul_one];exact partL_rep _ _ _ hq2
   rw[show 0+j*1=j by omega,spliceL_rep _ _ _ hq1,hq];refine WT.addT Z Z Z Z Z Z zo ?_;refine WT.know (v':=.int .i64 ((j+q:Nat):Int)) 46 Z (by rw[Int.natCast_add]) ?_;refine zB4 ?_;refine⟨j+q,by omega,sM,OwnLe.flat (List.Perm.of_eq ?_),by omega,by omega⟩;rw[show n-(j+q)=n-j-q by omega]
  ·have h:j=n:=by simp at h;omega
   subst h;refine AW.exit ?_;refine zB4 ?_;rw[Nat.sub_self];simp only[List.replicate_zero,List.append_nil];exact AW.ret ⟨_,[_],⟨_,_,rfl,rfl,rfl⟩,zsb,_,rfl,_,rfl,rfl⟩
theorem vec_rep{F:Frz}{i n:Nat}(z:Int):Vec tInt F (some ⟨i,0,none⟩) n (bif n==0 then 0 else 1) [(i,.cells false (List.replicate n (.int .i64 z)))] (List.replicate n z):=by
 refine⟨by simp,?_,fun h=>?_,fun h=>(by cases h),fun p hp=>(by cases hp;rfl),.inr ⟨i,_,rfl,rfl,?_,by decide⟩⟩
 ·cases n<;>simp[tInt]
 ·cases n with
  | zero=>rfl
  | succ n=>simp at h
 ·induction n with
  | zero=>exact .nil
  | succ n ih=>
   rw[List.replicate_succ,List.replicate_succ];exact Cells.cons (R:=tInt) (l:=[.int .i64 z]) rfl ih
theorem sumLen_snoc(O:List Int)(a:Int)(l:List Sym)(y:Sym):sumLen O a (l++[y])=stepLen O (sumLen O a l) y:=by
 unfold sumLen;rw[List.foldl_append];rfl
structure LSt where
 O:List Int
 B:List (Nat×Blk)
 again:Bool
theorem lengths_spec(F:Frz)(g:Gram)(hg:Valid g){a:Option Addr}{m c:Nat}(hr:Arr tRule F a m c g.rules) :
  Abs.Spec CC 76 [.agg ⟨gramCells g a m c⟩] F [] fun F' v o=>∃B',o=[B']∧∃O a' c',v=.slice a' g.nons c'∧Vec tInt F' a' g.nons c' B' O∧LenOk g.nons O∧LenSound g O∧∀r∈g.rules,LenClosed O r:=by
 unfold gramCells;have hrl:=hr.len;have hgn:=hg.range.nons;have hgr:=hg.range.rules;refine Abs.Spec.fn (n:=81) Tryz.func76 rfl rfl fun own=>?_;refine AW.seq (AW.reg ?_);refine WT.boxT Z Z Z Z Z Z (fun i1 hi1=>?_);refine zB4 ?_;refine WT.buildT hT Z Z Z Z Z Z Z Z Z Z Z Z Z Z (fun i11 hi11=>?_);refine WT.freezeAll 0 Z Z (fun F1 hF1 hB1=>?_);have hi11:=hB1 i11 _ me;refine zB4 ?_;refine WT.callN Tryz.func113 Z Z Z Z Z Z (repeat_spec _ hi11 g.nons zo) (fun F2 v B2 hF2 hv=>?_);obtain⟨io,rfl,rfl⟩:=hv;have hv0:=vec_rep (F:=F2) (i:=io) (n:=g.nons) (-1)
 have hc1:(bif g.nons==0 then 0 else 1)=1:=by rw[show (g.nons==0)=false by simp;omega];rfl
 rw[hc1] at hv0 ⊢;refine zB4 ?_
 have hO0:LenOk g.nons (List.replicate g.nons (-1)):=⟨by simp,fun x hx=>by rw[List.eq_of_mem_replicate hx];decide,fun x hx=>by
  rw[List.eq_of_mem_replicate hx];have:0<4 ^ knownN (List.replicate g.nons (-1)):=Nat.pow_pos (by decide);omega⟩
 have hS0:LenSound g (List.replicate g.nons (-1)):=fun n x hx h=>by
  rw[List.eq_of_mem_replicate (gM hx)] at h;exact absurd h (by decide)
 refine AW.block ?_;refine AW.loopR (S:=LSt) (fun s=>[(4,.bool s.again)]) (fun s=>s.B::[]::[(i1,.cells false [.int .i64 g.terms,.int .i64 g.nons,.int .i64 g.start,.slice a m c])]::own)
  (fun s G=>Vec tInt G (some ⟨io,0,none⟩) g.nons 1 s.B s.O∧LenOk g.nons s.O∧LenSound g s.O∧(s.again=false→∀r∈g.rules,LenClosed s.O r)) (fun s=>2*wgtsLen s.O+(if s.again then 1 else 0)) ⟨_,_,true⟩
  sM oR ⟨hv0,hO0,hS0,fun h=>by cases h⟩ ?_
 intro s F3 hF3 hP;obtain⟨hv,hO,hS,hcl⟩:=hP;refine zB4 ?_;refine AW.cond Z (fun h=>?_) (fun h=>?_)
 ·have hag:s.again=true:=h;refine zB4 ?_;refine AW.block ?_;refine zB4 ?_;refine AW.range (S:=LSt) (fun t=>[(4,.bool t.again)]) (fun t=>t.B::[]::[(i1,.cells false [.int .i64 g.terms,.int .i64 g.nons,.int .i64 g.start,.slice a m c])]::own)
   (fun j t G=>Vec tInt G (some ⟨io,0,none⟩) g.nons 1 t.B t.O∧LenOk g.nons t.O∧LenSound g t.O∧wgtsLen t.O≤wgtsLen s.O∧(t.again=true→wgtsLen t.O<wgtsLen s.O)∧(t.again=false→∀r∈g.rules.take j,LenClosed t.O r)) m ⟨s.O,s.B,false⟩
   Z Z Z Z Z Z Z Z Z zo rfl rfl (fun _=>rfl) (fun _=>rfl) sM oR ⟨hv,hO,hS,Nat.le_refl _,fun h=>(by cases h),fun _ r hr=>by simp at hr⟩ ?_ ?_
  ·intro j t F4 hF4 hj hP;obtain⟨hv4,hO4,hS4,hw4,hw5,hcl4⟩:=hP;have hr4:=((hr.mono hF1).mono hF2).mono hF3;have hr4:=hr4.mono hF4;have hO4l:=hO4.len;have hmax:=hO4.max hgn.2;refine zB6 ?_;refine WT.idxL hT hr4 Z Z Z Z Z Z Z Z Z zo (fun r hrj b off ro cs lx hb1 hp1 hrel=>?_);obtain⟨ra,rn,rc,rfl,hra⟩:=hrel;have hral:=hra.len;obtain⟨hrleft,hrn,hry⟩:=hg.right r (gM hrj);refine zB6 ?_;refine WT.allocT hT Z Z Z Z Z Z (fun i6 hi6=>?_);refine zB6 ?_;refine AW.range (S:=Int) (fun x=>[(7,.int .i64 x)]) (fun _=>_) (fun q x G=>x=sumLen t.O 0 (r.right.take q)) rn 0
    Z Z Z Z Z Z Z Z Z zo rfl rfl (fun _=>rfl) (fun _=>rfl) sM oR rfl ?_ ?_
   ·intro q x F5 hF5 hq hx;have hra5:=hra.mono hF5;have hv5:=hv4.mono hF5;have hlim:sumLen t.O 0 (r.right.take q)≤4*1048576:=by
     have h1:=sumLen_le (M:=1048576) (by decide) hmax (r.right.take q);have h2:((r.right.take q).length:Int)*1048576≤4*1048576:=Int.mul_le_mul_of_nonneg_right (by simp;omega) (by decide);omega
    have hge:=sumLen_ge (O:=t.O) (r.right.take q) 0 (by decide);rw[←hx] at hlim hge;refine zB6 ?_;refine WT.idxL hT hra5 Z Z Z Z Z Z Z Z Z zo (fun y hyq b3 off3 ro3 cs3 lx3 hb3 hp3 hrel3=>?_);obtain rfl:lx3=_:=hrel3;have hyok:=hry y (gM hyq);have hst:∀z,stepLen t.O x y=z→z=sumLen t.O 0 (r.right.take (q+1)):=by
     rintro z rfl;rw[List.take_add_one,hyq,hx];exact(sumLen_snoc ..).symm
    refine zB6 ?_;refine WT.allocT hT Z Z Z Z Z Z (fun i9 hi9=>?_);refine zB6 ?_;refine AW.block ?_;refine zB6 ?_;refine WT.split 33 Z (fun hterm=>?_) (fun hterm=>?_)
    ·refine zB6 ?_;refine AW.cond Z (fun h=>?_) (fun h=>?_)
     ·have h:0≤x:=by simpa using h
      refine zB6 ?_;exact⟨x+1,sM,zow,hst _ (by unfold stepLen;rw[if_pos ⟨hterm,h⟩])⟩
     ·have h:¬0≤x:=by simpa using h
      refine zB6 ?_;refine WT.split 42 Z (fun h2=>absurd (by simpa using h2) h) (fun _=>?_);refine zB6 ?_;refine AW.cond Z (fun h=>(by cases h)) (fun _=>?_);refine zB6 ?_;exact⟨-1,sM,zow,hst _ (by unfold stepLen;rw[if_neg (fun h2=>h h2.2),if_neg (fun h2=>h h2.1)])⟩
    ·have hyn:y.n<g.nons:=by rw[SymOk,if_neg (by simp[hterm])] at hyok;exact hyok
     obtain⟨z,hz⟩:∃z,t.O[y.n]?=some z:=⟨_,gE zo⟩;have hzd:t.O.getD y.n (-1)=z:=by rw[List.getD_eq_getElem?_getD,hz];rfl
     have hzm:=hmax z (gM hz);refine zB6 ?_;refine AW.cond Z (fun h=>(by cases h)) (fun _=>?_);refine zB6 ?_;refine WT.split 42 Z (fun h2=>?_) (fun h2=>?_)
     ·have h2:0≤x:=by simpa using h2
      refine zB6 ?_;refine WT.vidx hT hv5 Z Z Z Z Z Z Z Z Z hyn (fun b5 hb5=>?_);refine WT.vld1 hT 2 hv5 hb5 hz Z Z Z Z Z Z Z Z Z (fun l h=>h) ?_;refine zB6 ?_;refine AW.cond Z (fun h=>?_) (fun h=>?_)
      ·have h:0≤z:=by simpa using h
       refine zB6 ?_;refine WT.vidx hT hv5 Z Z Z Z Z Z Z Z Z hyn (fun b6 hb6=>?_);refine WT.vld1 hT 2 hv5 hb6 hz Z Z Z Z Z Z Z Z Z (fun l h=>h) ?_;refine zB6 ?_;exact⟨x+z,sM,zow,hst _ (by unfold stepLen;rw[if_neg (by simp[hterm]),if_pos (by rw[hzd];exact⟨h2,h⟩),hzd])⟩
      ·have h:¬0≤z:=by simpa using h
       refine zB6 ?_;exact⟨-1,sM,zow,hst _ (by unfold stepLen;rw[if_neg (by simp[hterm]),if_neg (by rw[hzd];exact fun h3=>h h3.2)])⟩
     ·have h2:¬0≤x:=by simpa using h2
      refine zB6 ?_;refine AW.cond Z (fun h=>(by cases h)) (fun _=>?_);refine zB6 ?_;exact⟨-1,sM,zow,hst _ (by unfold stepLen;rw[if_neg (by simp[hterm]),if_neg (fun h3=>h2 h3.1)])⟩
   ·intro x F5 hF5 hx;rw[List.take_of_length_le zo] at hx;have hv5:=hv4.mono hF5;obtain⟨z,hz⟩:∃z,t.O[r.left]?=some z:=⟨_,gE zo⟩;have hzd:t.O.getD r.left (-1)=z:=by rw[List.getD_eq_getElem?_getD,hz];rfl
    have keep:LenClosed t.O r→∀r'∈g.rules.take (j+1),(∀r'∈g.rules.take j,LenClosed t.O r')→LenClosed t.O r':=by
     intro h1 r' hr' h2;rw[List.take_add_one,hrj] at hr';rcases List.mem_append.1 hr' with h | h
     ·exact h2 r' h
     ·simp at h;subst h;exact h1
    refine zB6 ?_;refine WT.vidx hT hv5 Z Z Z Z Z Z Z Z Z hrleft (fun b5 hb5=>?_);refine WT.vld1 hT 1 hv5 hb5 hz Z Z Z Z Z Z Z Z Z (fun l h=>h) ?_;refine zB6 ?_;have put:0≤x→(z<0∨x<z)→LenOk g.nons (t.O.set r.left x)∧LenSound g (t.O.set r.left x)∧wgtsLen (t.O.set r.left x)<wgtsLen t.O:=by
     intro h1 h2;subst hx;refine⟨hO4.put hrn hz h1 h2,hS4.put (gM hrj) h1,?_⟩;have:=(hO4.put hrn hz h1 h2).max hgn.2 (sumLen t.O 0 r.right) (gM (i:=r.left) (by rw[List.getElem?_set_self zo]));exact wgts_put hz h1 this h2
    refine WT.split 65 Z (fun h1=>?_) (fun h1=>?_)
    ·have h1:0≤x:=by simpa using h1
     refine zB6 ?_;refine WT.split 68 Z (fun h2=>?_) (fun h2=>?_)
     ·have h2:z<0:=by simpa using h2
      refine zB6 ?_;refine AW.cond Z (fun _=>?_) (fun h=>(by cases h));refine zB6 ?_;refine WT.vidx hT hv5 Z Z Z Z Z Z Z Z Z hrleft (fun b6 hb6=>?_);refine WT.vst (y:=x) hT 1 hv5 hb6 hz Z Z Z Z Z Z Z (fun _=>rfl) Z (fun B6 hB6=>?_);refine zB6 ?_;obtain⟨p1,p2,p3⟩:=put h1 (.inl h2);exact⟨⟨t.O.set r.left x,B6,true⟩,sM,zow,hB6,p1,p2,by dsimp only;omega,fun _=>by dsimp only;omega,fun h=>by cases h⟩
     ·have h2:¬z<0:=by simpa using h2
      refine zB6 ?_;refine AW.cond Z (fun h=>?_) (fun h=>?_)
      ·have h:x<z:=by simpa using h
       refine zB6 ?_;refine WT.vidx hT hv5 Z Z Z Z Z Z Z Z Z hrleft (fun b6 hb6=>?_);refine WT.vst (y:=x) hT 1 hv5 hb6 hz Z Z Z Z Z Z Z (fun _=>rfl) Z (fun B6 hB6=>?_);refine zB6 ?_;obtain⟨p1,p2,p3⟩:=put h1 (.inr h);exact⟨⟨t.O.set r.left x,B6,true⟩,sM,zow,hB6,p1,p2,by dsimp only;omega,fun _=>by dsimp only;omega,fun h=>by cases h⟩
      ·have h:¬x<z:=by simpa using h
       refine zB6 ?_;exact⟨t,sM,zow,hv5,hO4,hS4,hw4,hw5,fun h3 r' hr'=>keep (fun _=>by rw[hzd,←hx];omega) r' hr' (hcl4 h3)⟩
    ·have h1:¬0≤x:=by simpa using h1
     refine zB6 ?_;refine AW.cond Z (fun h=>(by cases h)) (fun _=>?_);refine zB6 ?_;exact⟨t,sM,zow,hv5,hO4,hS4,hw4,hw5,fun h3 r' hr'=>keep (fun h4=>absurd (hx▸h4) h1) r' hr' (hcl4 h3)⟩
  ·intro t F4 hF4 hP;obtain⟨hv4,hO4,hS4,hw4,hw5,hcl4⟩:=hP;rw[List.take_of_length_le zo] at hcl4;refine⟨t,?_,sM,OwnLe.refl _,hv4,hO4,hS4,hcl4⟩;rw[hag];cases ht:t.again with
   | true=>have:=hw5 ht;simp;omega
   | false=>simp;omega
 ·have hag:s.again=false:=h;refine AW.exit ?_;refine zB4 ?_;refine AW.perm (perm_to2 _ _ _ _) ?_;exact AW.ret ⟨_,[_],⟨_,_,rfl,rfl,rfl⟩,zsb,_,rfl,s.O,_,_,rfl,hv,hO,hS,hcl hag⟩
theorem Lengths_spec(F:Frz)(g:Gram)(hg:Valid g){a:Option Addr}{m c:Nat}(hr:Arr tRule F a m c g.rules) :
  Abs.Spec CC 97 [.agg ⟨gramCells g a m c⟩] F [] fun F' v o=>∃B',o=[B']∧∃O a' c',v=.tuple ⟨[.slice a' g.nons c',.int .i64 0]⟩∧Vec tInt F' a' g.nons c' B' O∧LenOk g.nons O∧LenSound g O∧∀r∈g.rules,LenClosed O r:=by
 unfold gramCells;refine Abs.Spec.fn (n:=12) Tryz.func97 rfl rfl fun own=>?_;refine AW.seq (AW.reg ?_);refine WT.boxT Z Z Z Z Z Z (fun i1 hi1=>?_);refine zB4 ?_;refine WT.callV Tryz.func35 Z Z Z Z Z Z (check_spec _ g hg.range hr) (fun v hv=>?_);rw[hg.no_err] at hv;subst hv;refine zB4 ?_;refine AW.cond Z (fun h=>(by cases h)) (fun _=>?_);refine zB4 ?_;refine WT.callN Tryz.func76 Z Z Z Z Z Z (lengths_spec _ g hg hr) (fun F2 v B2 hF2 hv=>?_);obtain⟨O,a',c',rfl,hv⟩:=hv;refine zB4 ?_;refine AW.perm (perm_to1 _ _ _) ?_;exact AW.ret ⟨_,[_],⟨_,_,rfl,⟨_,_,rfl,rfl,rfl⟩,rfl⟩,zsb,_,rfl,O,_,_,rfl,hv⟩
structure BtS where
 xs:List Bool
 a:Option Addr
 m:Nat
 c:Nat
 B:List (Nat×Blk)
theorem uends_spec(F:Frz)(g:Gram)(hg:Valid g){a:Option Addr}{m c:Nat}(hr:Arr tRule F a m c g.rules) :
  Abs.Spec CC 58 [.agg ⟨gramCells g a m c⟩] F [] fun F' v o=>o=[]∧∃a' c' E,v=.tuple ⟨[.slice a' g.nons c',.int .i64 0]⟩∧Arr tBool F' a' g.nons c' E∧EndsIn g E:=by
 unfold gramCells;have hgn:=hg.range.nons;refine Abs.Spec.fn (n:=30) Tryz.func58 rfl rfl fun own=>?_;refine AW.seq (AW.reg ?_);refine WT.boxT Z Z Z Z Z Z (fun i1 hi1=>?_);refine zB4 ?_;refine WT.callN Tryz.func97 Z Z Z Z Z Z (Lengths_spec _ g hg hr) (fun F2 v B2 hF2 hv=>?_);obtain⟨O,a',c',rfl,hv,hO,hS,hC⟩:=hv;refine WT.freezeAll 0 Z Z (fun F3 hF3 hB3=>?_);have ho:=hv.arr hF3 hB3;have hOl:=hO.len;refine zB4 ?_;refine AW.cond Z (fun h=>(by cases h)) (fun _=>?_);refine zB4 ?_
 refine AW.range (S:=BtS) (fun s=>[(6,.slice s.a s.m s.c)]) (fun s=>s.B::[]::[(i1,.cells false [.int .i64 g.terms,.int .i64 g.nons,.int .i64 g.start,.slice a m c])]::own) (fun j s G=>Bld tBool G s.a s.m s.c s.B s.xs∧s.xs=(O.take j).map fun x=>decide (0≤x)) g.nons ⟨[],none,0,0,[]⟩
  Z Z Z Z Z Z Z Z Z zo rfl rfl (fun _=>rfl) (fun _=>rfl) sM (OwnLe.flat (List.Perm.refl _)) ⟨Bld.nil_ _ _,by simp⟩ ?_ ?_
 ·intro j s F4 hF4 hj hP;obtain⟨hb,hxs⟩:=hP;have hbl:=hb.len;have hsl:s.xs.length≤j:=by rw[hxs];simp;omega
  have ho4:=ho.mono hF4;refine zB4 ?_;refine WT.idxL hT ho4 Z Z Z Z Z Z Z Z Z zo (fun x hx b3 off3 ro3 cs3 lx3 hb3 hp3 hrel3=>?_);obtain rfl:lx3=_:=hrel3;refine zB4 ?_;refine WT.buildT hT Z Z Z Z Z Z Z Z Z Z Z Z Z Z (fun i9 hi9=>?_);refine WT.appendT (ys:=[decide (x≥0)]) hT 1 hb Z (fun _=>rfl) Z Z Z Z Z Z Z Z Z Z Z (fun h0 s0=>news_own hT s0 0 Z Z Z Z) (Cells.single (R:=tBool) (x:=decide (x≥0)) rfl) Z (by decide) zom (fun a3 c3 B3 hB3=>?_);refine zB4 ?_;refine⟨⟨s.xs++[decide (x≥0)],a3,s.m+1,c3,B3⟩,sM,zow,hB3,?_⟩;show s.xs++[decide (x≥0)]=_;rw[List.take_add_one,hx,List.map_append,hxs];rfl
 ·intro s F4 hF4 hP;obtain⟨hb,hxs⟩:=hP;rw[List.take_of_length_le zo] at hxs;have hbl:=hb.len;have hsm:s.m=g.nons:=by rw[hbl,hxs,List.length_map,hOl]
  refine AW.freezeAll 0 Z Z (fun F5 hF5 hB5=>?_);have hE:=hb.frozen hF5 hB5;refine zB4 ?_;refine AW.ret ⟨_,[],⟨_,_,rfl,⟨_,_,rfl,rfl,rfl⟩,rfl⟩,zsb,rfl,s.a,s.c,s.xs,by rw[hsm];rfl,by rw[←hsm];exact hE,?_⟩;rw[hxs];exact endsIn_of hO hS hC
theorem idxOf_spec{α:Type}{p:α→Bool}:∀{l:List α},(idxOf p l=-1∧∀y∈l,p y=false)∨∃i x,idxOf p l=(i:Nat)∧l[i]?=some x∧p x=true∧∀y∈l.take i,p y=false:=by
 intro l;by_cases h:∃i x,l[i]?=some x∧p x=true∧∀y∈l.take i,p y=false
 ·obtain⟨i,x,h1,h2,h3⟩:=h;exact .inr ⟨i,x,idxOf_at h1 h2 h3,h1,h2,h3⟩
 ·refine .inl ?_;have all:∀n,n≤l.length→∀y∈l.take n,p y=false:=by
   intro n
   induction n with
   | zero=>intro _ y hy;simp at hy
   | succ n ih=>
    intro hn;have ih:=ih zo;obtain⟨x,hx⟩:∃x,l[n]?=some x:=⟨_,gE zo⟩;refine take_all hx ih ?_;cases hp:p x with
    | false=>rfl
    | true=>exact absurd ⟨n,x,hx,hp,ih⟩ h
  have h2:=all l.length (Nat.le_refl _);rw[List.take_length] at h2;exact⟨idxOf_none h2,h2⟩
structure DS where
 i:Nat
 j:Nat
 ys:List Rule
 B:List (Nat×Blk)
theorem deleteFunc_spec(F:Frz){a:Option Addr}{m c:Nat}{B:List (Nat×Blk)}{xs:List Rule}(hv:Bld tRule F a m c B xs)(hm:m≤1000000)(p:Rule→Bool){g:Nat}{fn:Func}{first capt:List Value}(hg:CC.func g=some fn)(hgb:fn.body.isSome=true)
  (hp:∀G,Frz.le F G→∀x∈xs,∀b n d,Arr tSym G b n d x.right→Abs.Spec CC g (first++[.agg ⟨[.int .i64 x.left,.slice b n d]⟩]++capt) G [] fun _ v o=>o=[]∧v=.bool (p x)) :
  Abs.Spec CC 59 [.slice a m c,.func (.func g) ⟨first⟩ ⟨capt⟩] F [B] fun F' v o=>o=[]∧∃a' n' c',v=.slice a' n' c'∧Arr tRule F' a' n' c' (xs.filter fun x=>!p x):=by
 have hlen:=hv.len;refine Abs.Spec.fn (n:=42) Tryz.func59 rfl rfl fun own=>?_;refine zB4 ?_;refine WT.callLend 0 Tryz.func98 Z Z Z Z Z Z Z (fun G hG hBG=>ruleIndex_spec G (hv.frozen hG hBG) hm p hg hgb (fun x hx b n d hr=>hp G hG x hx b n d hr)) (fun v hv'=>?_);subst hv';rcases idxOf_spec (p:=p) (l:=xs) with ⟨h1,h2⟩ | ⟨i,x,h1,hx,hpx,h2⟩
 ·rw[h1];refine zB4 ?_;refine AW.cond Z (fun _=>?_) (fun h=>(by cases h));refine AW.freezeAll 0 Z Z (fun F1 hF1 hB1=>?_);refine zB4 ?_;refine AW.ret ⟨_,[],⟨_,_,rfl,rfl,rfl⟩,zsb,rfl,a,m,c,rfl,?_⟩;rw[List.filter_eq_self.2 (fun y hy=>by rw[h2 y hy];rfl)];exact hv.frozen hF1 hB1
 ·rw[h1];have hi:=(gS hx).1;obtain⟨ib,cs0,rfl,rfl,rfl,hcs0⟩:∃ib cs0,a=some ⟨ib,0,none⟩∧c=2∧B=[(ib,.cells false cs0)]∧Cells tRule F cs0 xs:=by
   rcases hv.at_ with ⟨e,_⟩ | ⟨ib,cs0,e1,e2,e3,e4,_⟩
   ·subst e;simp at hi
   ·exact⟨ib,cs0,e1,e2,e3,e4⟩
  have hvv:=hv.vec;refine zB4 ?_;refine AW.cond Z (fun h=>(by simp at h)) (fun _=>?_);refine zB4 ?_;refine AW.block ?_;refine AW.loopR (S:=DS) (fun s=>[(5,.int .i64 s.i),(6,.int .i64 s.j)]) (fun s=>s.B::own)
   (fun s G=>Vec tRule G (some ⟨ib,0,none⟩) m 2 s.B s.ys∧s.i<s.j∧s.j≤m∧s.ys.take s.i=(xs.take s.j).filter (fun x=>!p x)∧s.ys.drop s.j=xs.drop s.j) (fun s=>m-s.j) ⟨i,i+1,xs,_⟩
   sM oR ⟨hvv,Nat.lt_succ_self _,by dsimp only;omega,?_,rfl⟩ ?_
  ·rw[List.take_add_one,hx,List.filter_append,List.filter_eq_self.2 (fun y hy=>by rw[h2 y hy];rfl)];simp[hpx]
  intro s F1 hF1 hP;obtain⟨hv1,hij,hjm,htake,hdrop⟩:=hP;have hv1l:=hv1.len;refine zB4 ?_;refine AW.cond Z (fun h=>?_) (fun h=>?_)
  ·have h:s.j<m:=by simpa using h
   obtain⟨y,hy⟩:∃y,xs[s.j]?=some y:=⟨_,gE zo⟩;have hy1:s.ys[s.j]?=some y:=by
    have e1:(s.ys.drop s.j)[0]?=s.ys[s.j]?:=by simp
    have e2:(xs.drop s.j)[0]?=xs[s.j]?:=by simp
    rw[←e1,hdrop,e2,hy]
   obtain⟨z,hz⟩:∃z,s.ys[s.i]?=some z:=⟨_,gE zo⟩;have hil:s.i<s.ys.length:=by omega
   refine zB4 ?_;refine AW.block ?_;refine zB4 ?_;refine WT.vidx hT hv1 Z Z Z Z Z Z Z Z Z h (fun b5 hb5=>?_);refine WT.vldS hT 0 hv1 hb5 hy1 Z Z Z Z Z Z Z Z Z (fun l hl=>?_);obtain⟨ya,yn,yc,rfl,hya⟩:=hl;refine WT.allocT hT Z Z Z Z Z Z (fun i7 hi7=>?_);refine zB4 ?_;refine WT.callC hg hgb Z Z Z Z Z Z Z (hp _ hF1 y (gM hy) _ _ _ hya) (fun v hv'=>?_);subst hv';refine zB4 ?_;have hdr:s.ys.drop (s.j+1)=xs.drop (s.j+1):=by
    have:=congrArg (List.drop 1) hdrop;rw[List.drop_drop,List.drop_drop] at this;exact this
   refine AW.cond Z (fun h3=>?_) (fun h3=>?_)
   ·have h3:p y=false:=by simpa using h3
    refine zB4 ?_;refine WT.vidx hT hv1 Z Z Z Z Z Z Z Z Z zo (fun b6 hb6=>?_);refine WT.vst (y:=y) hT 1 hv1 hb6 hz Z Z Z Z Z ⟨_,_,_,rfl,hya⟩ Z (fun _=>rfl) Z (fun B6 hB6=>?_);refine zB4 ?_;refine⟨⟨s.i+1,s.j+1,s.ys.set s.i y,B6⟩,by dsimp only;omega,sM,zow,hB6,by dsimp only;omega,by dsimp only;omega,?_,?_⟩
    ·show (s.ys.set s.i y).take (s.i+1)=(xs.take (s.j+1)).filter _;rw[List.take_add_one,List.getElem?_set_self hil,List.take_set_of_le (Nat.le_refl _),htake,List.take_add_one,hy,List.filter_append];simp[h3]
    ·show (s.ys.set s.i y).drop (s.j+1)=xs.drop (s.j+1);rw[List.drop_set_of_lt zo,hdr]
   ·have h3:p y=true:=by simpa using h3
    refine zB4 ?_;refine⟨⟨s.i,s.j+1,s.ys,s.B⟩,by dsimp only;omega,sM,zow,hv1,by dsimp only;omega,by dsimp only;omega,?_,hdr⟩;show s.ys.take s.i=(xs.take (s.j+1)).filter _;rw[htake,List.take_add_one,hy,List.filter_append];simp[h3]
  ·have h:s.j=m:=by simp at h;omega
   rw[h,show xs.take m=xs from List.take_of_length_le zo] at htake;refine AW.exit ?_;refine zB4 ?_;refine WT.slice Z Z Z Z Z Z Z Z (fun h0=>sliceA_some (lo:=s.i) (hi:=m) hT Z Z Z Z Z zo (Nat.le_refl _) (.inr rfl) h0) ?_;refine WT.vclear (x0:=(⟨0,[]⟩:Rule)) (i:=s.i) (l:=m-s.i) hT 0 hv1 Z Z Z Z Z Z Z Z ⟨none,0,0,rfl,Arr.nil_ _ _⟩ zo zo Z (fun _=>rfl) (fun B6 hB6=>?_);refine WT.freezeAll 0 Z Z (fun F6 hF6 hB6'=>?_);have harr:=hB6.arr hF6 hB6';obtain⟨sa,sc,hs,hsl⟩:=harr.slice (C:=CC) (lo:=0) (hi:=s.i) (Nat.zero_le _) zo hT (t:=23) Z Z Z none (some (.int .i64 (s.i:Nat))) rfl rfl;refine zB4 ?_
   refine WT.slice Z Z Z Z Z Z Z Z hs ?_;refine zB4 ?_;refine AW.ret ⟨_,[],⟨_,_,rfl,rfl,rfl⟩,zsb,rfl,sa,_,sc,rfl,?_⟩;have e:(List.take s.i (List.take s.i s.ys++List.replicate (m-s.i) ⟨0,[]⟩)).drop 0=xs.filter fun x=>!p x:=by
    rw[List.drop_zero,List.take_left' (by rw[List.length_take];omega),htake]
   rw[e] at hsl;exact hsl
theorem item_eq(x y:Item):((((x.rule:Int)==(y.rule:Int))&&(((x.dot:Int)==(y.dot:Int))&&(((x.frm:Int)==(y.frm:Int))&&true)))=decide (x=y)):=by
 obtain⟨a,b,c⟩:=x;obtain⟨d,e,f⟩:=y;rw[Bool.eq_iff_iff];simp only[Bool.and_eq_true,beq_iff_eq,decide_eq_true_eq,Item.mk.injEq,and_true];omega
noncomputable def keyI:KeyTy CC 193 Item where
 key:=fun x=>.agg ⟨[.int .i64 x.rule,.int .i64 x.dot,.int .i64 x.frm]⟩
 ok:=fun p=>keyT_ok hT 8 _ _ rfl
 eq:=fun p q=>by
  have h:eqA CC 8 193 (.agg ⟨[.int .i64 p.rule,.int .i64 p.dot,.int .i64 p.frm]⟩) (.agg ⟨[.int .i64 q.rule,.int .i64 q.dot,.int .i64 q.frm]⟩)=some (decide (p=q)):=by
   rw[←item_eq];exact eqT_ok hT 8 _ _ _ _ rfl
  by_cases e:p=q
  ·exact .inl ⟨e,by rw[h];simp[e]⟩
  ·exact .inr ⟨e,by rw[h];simp[e]⟩
structure ChP where
 ic:Nat
 ra:Option Addr
 rm:Nat
 rc:Nat
structure CSt where
 k:Nat
 old:List (List Item)
 last:List Item
 sa:Option Addr
 sc:Nat
 BS:List (Nat×Blk)
 vs:List Value
 la:Option Addr
 lc:Nat
 BL:List (Nat×Blk)
 us:List Value
 im:Nat
 es:Ents Item
 xa:Option Addr
 xn:Nat
 xc:Nat
 BX:List (Nat×Blk)
structure QInv(g:Gram)(Q:Nat→Item→Prop):Prop where
 ok:∀k x,Q k x→ItemOk g.rules k x
 predict:∀k x n i r,Q k x→nextOf g.rules x=some ⟨false,n⟩→g.rules[i]?=some r→r.left=n→Q k ⟨i,0,k⟩
 complete:∀k x y r,Q k x→g.rules[x.rule]?=some r→x.dot=r.right.length→Q x.frm y→nextOf g.rules y=some ⟨false,r.left⟩→Q k (stepItem y)
def chCells(g:Gram)(q:ChP)(s:CSt):List Value:=[.int .i64 g.terms,.int .i64 g.nons,.int .i64 g.start,.slice q.ra q.rm q.rc,.slice s.sa (s.k+1) s.sc,.slice s.la (s.k+1) s.lc]
noncomputable def cB(g:Gram)(q:ChP)(s:CSt):List (Nat×Blk):=(q.ic,.cells false (chCells g q s))::(s.BS++(s.BL++((s.im,.map (entsV keyI s.es))::s.BX)))
structure COk(g:Gram)(Q:Nat→Item→Prop)(q:ChP)(F:Frz)(s:CSt):Prop where
 rules:Arr tRule F q.ra q.rm q.rc g.rules
 sets:Bld tRaw F s.sa (s.k+1) s.sc s.BS (s.vs++[.map (some s.im)])
 list:Bld tRaw F s.la (s.k+1) s.lc s.BL (s.us++[.slice s.xa s.xn s.xc])
 usl:s.us.length=s.k
 oldl:s.old.length=s.k
 olds:∀(j:Nat) (l:List Item),s.old[j]?=some l→∃a n c,s.us[j]?=some (.slice a n c)∧Arr tItem F a n c l
 map:∀y,Abs.look s.es y=if y∈s.last then some (.bool true) else none
 last:Bld tItem F s.xa s.xn s.xc s.BX s.last
 nodup:s.last.Nodup
 qold:∀(j:Nat) (l:List Item),s.old[j]?=some l→∀x∈l,Q j x
 qlast:∀x∈s.last,Q s.k x
 small:s.k≤20
 olen:∀(j:Nat) (l:List Item),s.old[j]?=some l→l.length≤3360
 ndold:∀(j:Nat) (l:List Item),s.old[j]?=some l→l.Nodup
theorem COk.mono{g:Gram}{Q:Nat→Item→Prop}{q:ChP}{F G:Frz}{s:CSt}(h:COk g Q q F s)(hF:Frz.le F G):COk g Q q G s:=
 ⟨h.rules.mono hF,h.sets.mono hF,h.list.mono hF,h.usl,h.oldl,fun j l hj=>by obtain⟨a,n,c,h1,h2⟩:=h.olds j l hj;exact⟨a,n,c,h1,h2.mono hF⟩,h.map,h.last.mono hF,h.nodup,h.qold,h.qlast,h.small,h.olen,h.ndold⟩
theorem item_code{g:Gram}(hr:∀r∈g.rules,r.right.length≤4){k:Nat}{x:Item}(h:ItemOk g.rules k x):(x.rule*5+x.dot)*(k+1)+x.frm<g.rules.length*5*(k+1):=by
 obtain⟨r,h1,h2,h3⟩:=h;have hlt:=(gS h1).1;have h4:=hr r (gM h1);have h5:(x.rule*5+x.dot+1)*(k+1)≤g.rules.length*5*(k+1):=Nat.mul_le_mul_right _ zo;rw[Nat.add_mul,Nat.one_mul] at h5;omega
theorem items_few{g:Gram}(hr:∀r∈g.rules,r.right.length≤4){k:Nat}{l:List Item}(hn:l.Nodup)(h:∀x∈l,ItemOk g.rules k x):l.length≤g.rules.length*5*(k+1):=by
 have h1:=nodup_lt (g.rules.length*5*(k+1)) (l.map fun x=>(x.rule*5+x.dot)*(k+1)+x.frm) (List.Pairwise.map _ (fun x y=>?_) (List.Pairwise.and_mem.1 hn)) (fun c hc=>?_)
 ·rwa [List.length_map] at h1
 ·rintro⟨hx,hy,hxy⟩ e;apply hxy;obtain⟨r,a1,a2,a3⟩:=h x hx;obtain⟨r',b1,b2,b3⟩:=h y hy;have c1:=hr r (gM a1);have c2:=hr r' (gM b1);have d1:x.frm=y.frm:=by
   have m1:=congrArg (· % (k+1)) e;simp only[Nat.mul_comm _ (k+1),Nat.mul_add_mod] at m1;rw[Nat.mod_eq_of_lt zo,Nat.mod_eq_of_lt zo] at m1;exact m1
  have d2:x.rule*5+x.dot=y.rule*5+y.dot:=by
   rw[d1] at e;exact Nat.eq_of_mul_eq_mul_right (Nat.succ_pos k) (Nat.add_right_cancel e)
  cases x;cases y;simp only at d1 d2 a2 b2 c1 c2;simp only[Item.mk.injEq];omega
 ·obtain⟨x,hx,rfl⟩:=List.mem_map.1 hc;exact item_code hr (h x hx)
theorem COk.few{g:Gram}(hg:∀r∈g.rules,r.right.length≤4)(hgl:g.rules.length≤32){Q:Nat→Item→Prop}(hQ:QInv g Q){q:ChP}{F:Frz}{s:CSt}(h:COk g Q q F s):s.last.length≤g.rules.length*5*(s.k+1)∧g.rules.length*5*(s.k+1)≤3360:=by
 refine⟨items_few hg h.nodup (fun x hx=>hQ.ok _ _ (h.qlast x hx)),?_⟩;have h1:g.rules.length*5*(s.k+1)≤160*21:=Nat.mul_le_mul zo (by have:=h.small;omega);omega
theorem cnext_spec(G:Frz)(g:Gram)(hg:∀r∈g.rules,r.right.length≤4){q:ChP}{s:CSt}(hb:G q.ic=some (.cells false (chCells g q s)))(hr:Arr tRule G q.ra q.rm q.rc g.rules){k:Nat}{x:Item}(hx:ItemOk g.rules k x) :
  Abs.Spec CC 103 [.pointer (some ⟨q.ic,0,none⟩),.agg ⟨[.int .i64 x.rule,.int .i64 x.dot,.int .i64 x.frm]⟩] G [] fun _ v o=>o=[]∧
   ((nextOf g.rules x=none∧(∃r,g.rules[x.rule]?=some r∧x.dot=r.right.length)∧v=.tuple ⟨[.agg ⟨[.bool false,.int .i64 0]⟩,.bool false]⟩)∨∃y,nextOf g.rules x=some y∧v=.tuple ⟨[.agg ⟨[.bool y.term,.int .i64 y.n]⟩,.bool true]⟩):=by
 obtain⟨r,hrr,hd,hf⟩:=hx;have hlt:=(gS hrr).1;have hrl:=hr.len;have hr4:=hg r (gM hrr);unfold chCells at hb;refine Abs.Spec.fn (n:=28) Tryz.func103 rfl rfl fun own=>?_;refine AW.seq (AW.reg ?_);refine WT.boxT Z Z Z Z Z Z (fun i3 hi3=>?_);refine WT.allocT hT Z Z Z Z Z Z (fun i4 hi4=>?_);refine zB4 ?_;refine WT.idxL hT hr Z Z Z Z Z Z Z Z Z zo (fun r' hr' b off ro cs lx hb1 hp1 hrel=>?_);obtain rfl:r=r':=by rw[hrr] at hr';exact Option.some.inj hr'
 obtain⟨ra,rn,rc,rfl,hra⟩:=hrel;have hral:=hra.len;refine zB4 ?_;by_cases hdl:x.dot=rn
 ·refine AW.cond Z (fun _=>?_) (fun h=>(by simp[hdl] at h));refine zB4 ?_;exact AW.ret ⟨_,[],⟨_,_,⟨_,rfl,fun G h0 s0=>loadA_cells (s0.has (p:=0) rfl me) (readT_ok hT rfl)⟩,⟨_,_,rfl,rfl,rfl⟩,rfl⟩,zsb,rfl,.inl ⟨by unfold nextOf;rw[hrr];show r.right[x.dot]?=none;rw[List.getElem?_eq_none_iff];omega,⟨r,hrr,by omega⟩,rfl⟩⟩
 ·refine AW.cond Z (fun h=>absurd (by simp at h;omega) hdl) (fun h=>?_);refine zB4 ?_;refine WT.idxL hT hra Z Z Z Z Z Z Z Z Z zo (fun y hy b3 off3 ro3 cs3 lx3 hb3 hp3 hrel3=>?_);obtain rfl:lx3=_:=hrel3;refine zB4 ?_;exact AW.ret ⟨_,[],⟨_,_,⟨_,rfl,fun G h0 s0=>loadA_cells (s0.has (p:=0) rfl me) (readT_ok hT rfl)⟩,⟨_,_,rfl,rfl,rfl⟩,rfl⟩,zsb,rfl,.inr ⟨y,by unfold nextOf;rw[hrr];exact hy,rfl⟩⟩
theorem own_set(x y:Nat×Blk)(BS BL:List (Nat×Blk))(own:Own):OwnLe ((y::(BS++(BL++[x])))::own) ([x]::[y]::BS::BL::own):=by
 refine OwnLe.flat ?_;have:=List.perm_middle (a:=x) (l₁:=y::(BS++BL)) (l₂:=own.flatten);simpa using this.symm
theorem cset_spec(F:Frz){ic n sc lc:Nat}{x0 x1 x2 x3:Value}{sa la:Option Addr}{BS BL:List (Nat×Blk)}{vs us:List Value}(hs:Bld tRaw F sa n sc BS vs)(hl:Bld tRaw F la n lc BL us)(hn:n≤1000)
  (ho:one x0=true∧one x1=true∧one x2=true∧one x3=true) :
  Abs.Spec CC 99 [.pointer (some ⟨ic,0,none⟩)] F [(ic,.cells false [x0,x1,x2,x3,.slice sa n sc,.slice la n lc])::(BS++BL)] fun F' v o=>
   ∃B',o=[B']∧∃sa' sc' la' lc' BS' BL' im,Bld tRaw F' sa' (n+1) sc' BS' (vs++[.map (some im)])∧Bld tRaw F' la' (n+1) lc' BL' (us++[.slice none 0 0])∧
    B'=(ic,.cells false [x0,x1,x2,x3,.slice sa' (n+1) sc',.slice la' (n+1) lc'])::(BS'++(BL'++[(im,.map [])])):=by
 have hsl:=hs.len;have hll:=hl.len;refine Abs.Spec.fn (n:=21) Tryz.func99 rfl rfl fun own=>?_;refine AW.le (own2:=[(ic,.cells false [x0,x1,x2,x3,.slice sa n sc,.slice la n lc])]::BS::BL::own) (OwnLe.flat (List.Perm.of_eq (by simp))) ?_;refine AW.draw (ps:=[(5,6),(5,7),(5,13),(12,6),(12,7),(12,8),(12,13)]) Z Z ?_;refine zB4 ?_;refine WT.makeMap Z Z Z Z (fun im him=>?_);refine WT.buildT hT Z Z Z Z Z Z Z Z Z Z Z Z Z Z (fun i9 hi9=>?_)
 refine WT.appendT (ys:=[.map (some im)]) hT 3 hs Z (fun _=>rfl) Z Z Z Z Z Z Z Z Z Z Z (fun h0 s0=>news_own hT s0 0 Z Z Z Z) (Cells.single (R:=tRaw) (x:=.map (some im)) ⟨rfl,rfl⟩) Z (by decide) zom (fun sa' sc' BS' hBS'=>?_);refine zB6 ?_;refine WT.buildT hT Z Z Z Z Z Z Z Z Z Z Z Z Z Z (fun i15 hi15=>?_);refine WT.appendT (ys:=[.slice none 0 0]) hT 5 hl Z (fun _=>rfl) Z Z Z Z Z Z Z Z Z Z Z (fun h0 s0=>news_own hT s0 0 Z Z Z Z) (Cells.single (R:=tRaw) (x:=.slice none 0 0) ⟨rfl,rfl⟩) Z (by decide) zom (fun la' lc' BL' hBL'=>?_)
 refine WT.le (own2:=((ic,.cells false [x0,x1,x2,x3,.slice sa n sc,.slice la n lc])::(BS'++(BL'++[(im,.map [])])))::own) (OwnLe.skip _ (OwnLe.skip _ (own_set _ _ _ _ _))) ?_;refine zB6 ?_;refine⟨zrC,?_⟩;exact⟨_,[_],rfl,zsb,_,rfl,sa',sc',la',lc',BS',BL',im,hBS',hBL',rfl⟩
theorem own_chart(a:Nat×Blk)(b:Nat×Blk)(BS BL BX:List (Nat×Blk))(own:Own):OwnLe ([a]::BS::BL::[b]::BX::own) ((a::(BS++(BL++(b::BX))))::own):=
 OwnLe.flat (List.Perm.of_eq (by simp))
theorem own_chart'(a:Nat×Blk)(b:Nat×Blk)(BS BL BX:List (Nat×Blk))(own:Own):OwnLe ((a::(BS++(BL++(b::BX))))::own) ([a]::BS::BL::[b]::BX::own):=
 OwnLe.flat (List.Perm.of_eq (by simp))
structure Grows(s s':CSt)(P:Item→Prop):Prop where
 k:s'.k=s.k
 old:s'.old=s.old
 last:∃new,s'.last=s.last++new∧∀y∈new,P y
theorem Grows.refl(s:CSt)(P:Item→Prop):Grows s s P:=⟨rfl,rfl,[],by simp,fun _ h=>by cases h⟩
theorem Grows.trans{s t u:CSt}{P:Item→Prop}(h1:Grows s t P)(h2:Grows t u P):Grows s u P:=by
 obtain⟨n1,e1,p1⟩:=h1.last;obtain⟨n2,e2,p2⟩:=h2.last;refine⟨h2.k.trans h1.k,h2.old.trans h1.old,n1++n2,by rw[e2,e1,List.append_assoc],fun y hy=>?_⟩;rcases List.mem_append.1 hy with hy | hy
 ·exact p1 y hy
 ·exact p2 y hy
theorem Grows.mono{s t:CSt}{P P':Item→Prop}(h:Grows s t P)(hp:∀y,P y→P' y):Grows s t P':=by
 obtain⟨n,e,p⟩:=h.last;exact⟨h.k,h.old,n,e,fun y hy=>hp y (p y hy)⟩
theorem Grows.mem{s t:CSt}{P:Item→Prop}(h:Grows s t P){x:Item}(hx:x∈s.last):x∈t.last:=by
 obtain⟨n,e,_⟩:=h.last;rw[e];exact List.mem_append_left _ hx
theorem cadd_spec(F:Frz)(g:Gram){Q:Nat→Item→Prop}{q:ChP}{s:CSt}(h:COk g Q q F s)(hlen:s.last.length≤100000)(x:Item)(hx:Q s.k x) :
  Abs.Spec CC 105 [.pointer (some ⟨q.ic,0,none⟩),.agg ⟨[.int .i64 x.rule,.int .i64 x.dot,.int .i64 x.frm]⟩] F [cB g q s] fun F' v o=>
   ∃B',o=[B']∧∃s',B'=cB g q s'∧COk g Q q F' s'∧Grows s s' (fun y=>y=x)∧x∈s'.last:=by
 have hsmall:=h.small;have hvl:=h.sets.len;have hul:=h.list.len;have hxl:=h.last.len;simp only[List.length_append,List.length_singleton] at hvl hul;have hvk:(s.vs++[.map (some s.im)])[s.k]?=some (.map (some s.im)):=by rw[List.getElem?_append_right zo];simp[show s.k-s.vs.length=0 by omega]
 have huk:(s.us++[.slice s.xa s.xn s.xc])[s.k]?=some (.slice s.xa s.xn s.xc):=by rw[List.getElem?_append_right zo];simp[show s.k-s.us.length=0 by omega]
 unfold cB chCells;refine Abs.Spec.fn (n:=45) Tryz.func105 rfl rfl fun own=>?_;refine AW.le (own_chart _ _ _ _ _ _) ?_;refine AW.seq (AW.reg ?_);refine WT.boxT Z Z Z Z Z Z (fun i3 hi3=>?_);refine zB4 ?_;refine WT.know (v':=.int .i64 (s.k:Nat)) 15 Z (by congr 1;omega) ?_;refine WT.know (v':=.int .i64 (s.k:Nat)) 4 Z (by congr 1;omega) ?_;refine WT.vidx hT h.sets.vec Z Z Z Z Z Z Z Z Z zo (fun b5 hb5=>?_);refine WT.vld1 (v:=.map (some s.im)) hT 2 h.sets.vec hb5 hvk Z Z Z Z Z Z Z Z Z (fun l h=>h.1) ?_;refine zB4 ?_;refine WT.lookup1 keyI (key:=x) hT 4 Z Z Z Z Z Z Z me Z Z Z ?_;rw[h.map x]
 by_cases hin:x∈s.last
 ·rw[if_pos hin];refine zB4 ?_;refine AW.cond Z (fun h=>(by cases h)) (fun _=>?_);refine AW.le (OwnLe.skip _ (own_chart' _ _ _ _ _ _)) ?_;refine zB4 ?_;exact⟨_,[_],rfl,zsb,_,rfl,s,rfl,h,Grows.refl _ _,hin⟩
 ·rw[if_neg hin];refine zB4 ?_;refine AW.cond Z (fun _=>?_) (fun h=>(by cases h));refine zB4 ?_;refine WT.vidx hT h.sets.vec Z Z Z Z Z Z Z Z Z zo (fun b6 hb6=>?_);refine WT.vld1 (v:=.map (some s.im)) hT 2 h.sets.vec hb6 hvk Z Z Z Z Z Z Z Z Z (fun l h=>h.1) ?_;refine zB4 ?_;refine WT.mapSet keyI (key:=x) hT 4 0 Z Z Z Z Z Z Z Z Z Z Z Z ?_;refine zB4 ?_;refine AW.draw (ps:=[(3,13),(3,14),(8,13),(11,13)]) Z Z ?_;refine zB4 ?_;refine WT.vidx hT h.list.vec Z Z Z Z Z Z Z Z Z zo (fun b7 hb7=>?_);refine WT.vld1 (v:=.slice s.xa s.xn s.xc) hT 3 h.list.vec hb7 huk Z Z Z Z Z Z Z Z Z (fun l h=>h.1) ?_
  refine zB4 ?_;refine WT.buildT hT Z Z Z Z Z Z Z Z Z Z Z Z Z Z (fun i42 hi42=>?_);refine WT.appendT (ys:=[x]) hT 6 h.last Z (fun _=>rfl) Z Z Z Z Z Z Z Z Z Z Z (fun h0 s0=>news_own hT s0 0 Z Z Z Z) (Cells.single (R:=tItem) (x:=x) rfl) Z (by decide) zom (fun xa' xc' BX' hBX'=>?_);refine WT.vidx hT h.list.vec Z Z Z Z Z Z Z Z Z zo (fun b8 hb8=>?_);refine WT.vst (y:=.slice xa' (s.xn+1) xc') hT 4 h.list.vec hb8 huk Z Z Z Z Z ⟨rfl,rfl⟩ Z (fun _=>rfl) Z (fun BL' hBL'=>?_);have hset:(s.us++[Value.slice s.xa s.xn s.xc]).set s.k (.slice xa' (s.xn+1) xc')=s.us++[.slice xa' (s.xn+1) xc']:=by
   rw[List.set_append_right _ _ zo,show s.k-s.us.length=0 by omega];rfl
  rw[hset] at hBL';refine WT.le (OwnLe.skip _ (OwnLe.skip _ (own_chart' _ _ _ _ _ _))) ?_;refine zB4 ?_;obtain⟨il,lcs,hla,hBL,_⟩:=h.list.vec.at_ huk;have hmem:(b7,Blk.cells false lcs)∈s.BL:=by
   rw[hla] at hb7;injection hb7 with hb7;injection hb7 with hb7;rw[hBL,hb7];exact List.mem_cons_self ..
  refine⟨zrA,?_⟩;refine⟨_,[_],rfl,zsb,_,rfl,{ s with last:=s.last++[x],es:=mset s.es x (.bool true),la:=s.la,BL:=BL',xa:=xa',xn:=s.xn+1,xc:=xc',BX:=BX' },rfl,?_,⟨rfl,rfl,[x],rfl,fun y hy=>List.mem_singleton.1 hy⟩,by simp⟩;refine⟨h.rules,h.sets,hBL'.bld (by simp),h.usl,h.oldl,h.olds,fun y=>?_,hBX',?_,h.qold,fun y hy=>?_,h.small,h.olen,h.ndold⟩
  ·show Abs.look (mset s.es x (.bool true)) y=_;rw[look_mset,h.map y];by_cases hy:y=x
   ·subst hy;simp
   ·simp[hy]
  ·show (s.last++[x]).Nodup;rw[List.nodup_append];refine⟨h.nodup,by simp,fun a ha b hb=>?_⟩;obtain rfl:=List.mem_singleton.1 hb;rintro rfl;exact hin ha
  ·rcases List.mem_append.1 hy with hy | hy
   ·exact h.qlast y hy
   ·obtain rfl:=List.mem_singleton.1 hy;exact hx
theorem COk.uk{g:Gram}{Q:Nat→Item→Prop}{q:ChP}{F:Frz}{s:CSt}(h:COk g Q q F s):(s.us++[.slice s.xa s.xn s.xc])[s.k]?=some (.slice s.xa s.xn s.xc):=by
 have:=h.usl;rw[List.getElem?_append_right zo];simp[show s.k-s.us.length=0 by omega]
theorem subL{g:Gram}{q:ChP}{s:CSt}:∀z,z∈s.BL→z∈cB g q s:=fun z hz=>by unfold cB;simp[hz]
theorem subX{g:Gram}{q:ChP}{s:CSt}:∀z,z∈s.BX→z∈cB g q s:=fun z hz=>by unfold cB;simp[hz]
theorem cpredict_spec(F:Frz)(g:Gram)(hg:∀r∈g.rules,r.right.length≤4)(hgl:g.rules.length≤32){Q:Nat→Item→Prop}(hQ:QInv g Q){q:ChP}{s:CSt}(h:COk g Q q F s)(y:Sym)
  (hy:y.term=false→∀i r,g.rules[i]?=some r→r.left=y.n→Q s.k ⟨i,0,s.k⟩) :
  Abs.Spec CC 100 [.pointer (some ⟨q.ic,0,none⟩),.agg ⟨[.bool y.term,.int .i64 y.n]⟩] F [cB g q s] fun F' v o=>
   ∃B',o=[B']∧∃s',B'=cB g q s'∧COk g Q q F' s'∧Grows s s' (fun _=>True)∧∀i r,g.rules[i]?=some r→y.term=false→r.left=y.n→(⟨i,0,s.k⟩:Item)∈s'.last:=by
 have hrl:=h.rules.len;have hsm:=h.small;refine Abs.Spec.fn (n:=38) Tryz.func100 rfl rfl fun own=>?_;refine AW.seq (AW.reg ?_);refine WT.boxT Z Z Z Z Z Z (fun i3 hi3=>?_);refine zB4 ?_;refine AW.range (S:=CSt) (fun _=>[]) (fun t=>[(i3,.cells false [.bool y.term,.int .i64 y.n])]::cB g q t::own)
  (fun j t G=>COk g Q q G t∧Grows s t (fun _=>True)∧∀i r,i<j→g.rules[i]?=some r→y.term=false→r.left=y.n→(⟨i,0,s.k⟩:Item)∈t.last) q.rm s
  Z Z Z Z Z Z Z Z Z zo rfl rfl (fun _=>rfl) (fun _=>rfl) sM oR ⟨h,Grows.refl _ _,fun i r hi=>absurd hi (Nat.not_lt_zero _)⟩ ?_ ?_
 ·intro j t F1 hF1 hj hP;obtain⟨ht,hgr,hin⟩:=hP;have htk:=hgr.k;refine zB4 ?_;refine WT.idxL hT ht.rules Z Z Z Z Z Z Z Z Z zo (fun r hrj b off ro cs lx hb1 hp1 hrel=>?_);obtain⟨ra,rn,rc,rfl,hra⟩:=hrel;refine zB4 ?_;refine WT.allocT hT Z Z Z Z Z Z (fun i5 hi5=>?_);refine zB4 ?_;have next:∀u:CSt,Grows t u (fun _=>True)→(y.term=false→r.left=y.n→(⟨j,0,s.k⟩:Item)∈u.last)→∀i r,i<j+1→g.rules[i]?=some r→y.term=false→r.left=y.n→(⟨i,0,s.k⟩:Item)∈u.last:=by
   intro u hu h1 i r' hi hr' hty hl;rcases Nat.lt_or_ge i j with h2 | h2
   ·exact hu.mem (hin i r' h2 hr' hty hl)
   ·obtain rfl:i=j:=by omega
    rw[hrj] at hr';obtain rfl:=Option.some.inj hr';exact h1 hty hl
  refine WT.split 20 Z (fun hty=>?_) (fun hty=>?_)
  ·have hty:y.term=false:=by simpa using hty
   refine zB4 ?_;refine AW.cond Z (fun hc=>?_) (fun hc=>?_)
   ·have hc:r.left=y.n:=by simp at hc;omega
    refine zB4 ?_;refine WT.know (v':=.agg ⟨[.int .i64 (j:Nat),.int .i64 0,.int .i64 (s.k:Nat)]⟩) 35 Z (by rw[show ((t.k+1:Nat):Int)-1=(s.k:Nat) by omega]) ?_;refine WT.call1F 2 Tryz.func105 Z Z Z Z Z Z Z (fun _=>rfl) (cadd_spec _ g ht (by have:=(ht.few hg hgl hQ);omega) ⟨j,0,s.k⟩ (by rw[htk];exact hy hty j r hrj hc)) (fun F2 v B2 hF2 hv=>?_);obtain⟨u,rfl,hu,hgu,hmem⟩:=hv;refine zB4 ?_;have hgu':=hgu.mono (P':=fun _=>True) (fun _ _=>trivial);exact⟨u,sM,zow,hu,hgr.trans hgu',next u hgu' (fun _ _=>hmem)⟩
   ·have hc:r.left≠y.n:=by simp at hc;omega
    refine zB4 ?_;exact⟨t,sM,zow,ht,hgr,next t (Grows.refl _ _) (fun _ h=>absurd h hc)⟩
  ·have hty:y.term=true:=by simpa using hty
   refine zB4 ?_;refine AW.cond Z (fun h=>(by cases h)) (fun _=>?_);refine zB4 ?_;exact⟨t,sM,zow,ht,hgr,next t (Grows.refl _ _) (fun h=>by rw[hty] at h;cases h)⟩
 ·intro t F1 hF1 hP;obtain⟨ht,hgr,hin⟩:=hP;exact⟨_,[_],rfl,zsb,_,rfl,t,rfl,ht,hgr,fun i r hr=>hin i r (by have:=(gS hr).1;omega) hr⟩
def LS(s:CSt):Nat→List Item:=fun j=>if j=s.k then s.last else s.old.getD j []
theorem Vec.itemAny{F G:Frz}{a:Option Addr}{n c:Nat}{B:List (Nat×Blk)}{xs:List Item}(h:Vec tItem F a n c B xs):Vec tItem G a n c B xs:=by
 have cells:∀{cs:List Value} {xs:List Item},Cells tItem F cs xs→Cells tItem G cs xs:=by
  intro cs xs h
  induction h with
  | nil=>exact .nil
  | cons h1 _ ih=>exact .cons h1 ih
 exact⟨h.len,h.cap,h.zero,h.nil,h.spot,h.el.imp id fun ⟨i,cs,h1,h2,h3,h4⟩=>⟨i,cs,h1,h2,cells h3,h4⟩⟩
theorem COk.at_{g:Gram}{Q:Nat→Item→Prop}{q:ChP}{F:Frz}{s:CSt}(h:COk g Q q F s){j:Nat}(hj:j≤s.k):∃a n c,(s.us++[.slice s.xa s.xn s.xc])[j]?=some (.slice a n c)∧
  (∀G,Frz.le F G→(∀i b,(i,b)∈cB g q s→G i=some b)→Arr tItem G a n c (LS s j))∧∀x∈LS s j,Q j x:=by
 by_cases hk:j=s.k
 ·subst hk;refine⟨_,_,_,h.uk,fun G hG hB=>?_,fun x hx=>?_⟩
  ·unfold LS;rw[if_pos rfl];exact h.last.frozen hG (fun i b hb=>hB i b (subX _ hb))
  ·unfold LS at hx;rw[if_pos rfl] at hx;exact h.qlast x hx
 ·have hl:j<s.old.length:=by have:=h.oldl;omega
  obtain⟨a,n,c,h1,h2⟩:=h.olds j _ (gE hl);have e:LS s j=s.old[j]:=by unfold LS;rw[if_neg hk,List.getD_eq_getElem?_getD,gE hl];rfl
  refine⟨a,n,c,by rw[List.getElem?_append_left (by have:=h.usl;omega)];exact h1,fun G hG _=>by rw[e];exact h2.mono hG,fun x hx=>?_⟩;rw[e] at hx;exact h.qold j _ (gE hl) x hx
theorem COk.few'{g:Gram}(hg:∀r∈g.rules,r.right.length≤4)(hgl:g.rules.length≤32){Q:Nat→Item→Prop}(hQ:QInv g Q){q:ChP}{F:Frz}{s:CSt}(h:COk g Q q F s)(j:Nat):(LS s j).length≤3360:=by
 unfold LS;split
 ·have:=h.few hg hgl hQ;omega
 ·rw[List.getD_eq_getElem?_getD];cases e:s.old[j]? with
  | none=>simp
  | some l=>simpa using h.olen j l e
structure CI where
 s:CSt
 n:Int
structure CJ where
 s:CSt
 i:Nat
theorem ccomplete_spec(F:Frz)(g:Gram)(hg:∀r∈g.rules,r.right.length≤4)(hgl:g.rules.length≤32){Q:Nat→Item→Prop}(hQ:QInv g Q){q:ChP}{s0:CSt}(h:COk g Q q F s0) :
  Abs.Spec CC 102 [.pointer (some ⟨q.ic,0,none⟩)] F [cB g q s0] fun F' v o=>
   ∃B',o=[B']∧∃s',B'=cB g q s'∧COk g Q q F' s'∧Grows s0 s' (fun _=>True)∧∀x∈s'.last,ItemClosed g.rules (LS s') s'.k x:=by
 have hsm:=h.small;refine Abs.Spec.fn (n:=115) Tryz.func102 rfl rfl fun own=>?_;refine zB4 ?_;refine AW.know (v':=.int .i64 (s0.k:Nat)) 2 Z (by congr 1;omega) ?_;refine AW.block ?_;refine AW.loopR (S:=CI) (fun w=>[(3,.int .i64 w.n)]) (fun w=>cB g q w.s::own) (fun w G=>COk g Q q G w.s∧Grows s0 w.s (fun _=>True)∧w.n≤w.s.last.length∧(w.n=w.s.last.length→∀x∈w.s.last,ItemClosed g.rules (LS w.s) s0.k x))
  (fun w=>2*(g.rules.length*5*(s0.k+1)-w.s.last.length)+(if w.n=w.s.last.length then 0 else 1)) ⟨s0,-1⟩ sM oR ⟨h,Grows.refl _ _,by dsimp only;omega,fun e=>by dsimp only at e;omega⟩ ?_
 intro p F1 hF1 hP;obtain⟨hs,hgr,hnl,hcl⟩:=hP;have hk:=hgr.k;have hfew:=hs.few hg hgl hQ;have hxl:=hs.last.len;have huk:=hs.uk;rw[hk] at huk;refine zB4 ?_;refine WT.vidx hT hs.list.vec Z Z Z Z Z Z Z Z Z zo (fun b1 hb1=>?_);refine WT.wld1 (v:=.slice p.s.xa p.s.xn p.s.xc) hT 0 hs.list.vec hb1 huk Z Z Z Z Z Z subL Z Z Z (fun l h=>h.1) ?_;refine zB4 ?_;refine AW.cond Z (fun hne=>?_) (fun heq=>?_)
 ·have hne:p.n≠p.s.last.length:=by simp at hne;omega
  refine zB4 ?_;refine AW.block ?_;refine zB4 ?_;refine WT.vidx hT hs.list.vec Z Z Z Z Z Z Z Z Z zo (fun b2 hb2=>?_);refine WT.wld1 (v:=.slice p.s.xa p.s.xn p.s.xc) hT 0 hs.list.vec hb2 huk Z Z Z Z Z Z subL Z Z Z (fun l h=>h.1) ?_;refine zB4 ?_;refine AW.block ?_;refine AW.loopR (S:=CJ) (fun w=>[(4,.int .i64 (w.i:Nat))]) (fun w=>cB g q w.s::own) (fun w G=>COk g Q q G w.s∧Grows p.s w.s (fun _=>True)∧w.i≤w.s.last.length∧(w.s.last=p.s.last→∀x∈p.s.last.take w.i,ItemClosed g.rules (LS w.s) s0.k x))
   (fun w=>g.rules.length*5*(s0.k+1)-w.i) ⟨p.s,0⟩ sM oR ⟨hs,Grows.refl _ _,Nat.zero_le _,fun _ x hx=>by simp at hx⟩ ?_
  intro c F2 hF2 hP2;obtain⟨ht,hgt,hil,hcl2⟩:=hP2;have hk2:c.s.k=s0.k:=hgt.k.trans hk;have hfew2:=ht.few hg hgl hQ;rw[hk2] at hfew2;have hxl2:=ht.last.len;have huk2:=ht.uk;rw[hk2] at huk2;refine zB4 ?_;refine WT.vidx hT ht.list.vec Z Z Z Z Z Z Z Z Z zo (fun b3 hb3=>?_);refine WT.wld1 (v:=.slice c.s.xa c.s.xn c.s.xc) hT 0 ht.list.vec hb3 huk2 Z Z Z Z Z Z subL Z Z Z (fun l h=>h.1) ?_;refine zB4 ?_;refine AW.cond Z (fun hlt=>?_) (fun hge=>?_)
  ·have hlt:c.i<c.s.last.length:=by simp at hlt;omega
   obtain⟨x,hx⟩:∃x,c.s.last[c.i]?=some x:=⟨_,gE hlt⟩;have hQx:=ht.qlast x (gM hx);rw[hk2] at hQx;have hxok:=hQ.ok _ _ hQx;have fin:∀(u:CSt) (G:Frz),COk g Q q G u→Grows c.s u (fun _=>True)→(u.last=c.s.last→ItemClosed g.rules (LS u) s0.k x)→
     COk g Q q G u∧Grows p.s u (fun _=>True)∧c.i+1≤u.last.length∧(u.last=p.s.last→∀z∈p.s.last.take (c.i+1),ItemClosed g.rules (LS u) s0.k z):=by
    intro u G hu hgu hx2;refine⟨hu,hgt.trans hgu,?_,fun e z hz=>?_⟩
    ·obtain⟨new,e,_⟩:=hgu.last;rw[e,List.length_append];omega
    ·have e1:c.s.last=p.s.last:=by
      obtain⟨n1,e1,_⟩:=hgt.last;obtain⟨n2,e2,_⟩:=hgu.last;rw[e2,e1] at e;have:=congrArg List.length e;simp only[List.length_append] at this;have:n1=[]:=List.eq_nil_of_length_eq_zero zo;rw[e1,this,List.append_nil]
     have eL:LS u=LS c.s:=by
      funext j;unfold LS;rw[hgu.k,hgu.old,e,e1]
     rw[List.take_add_one,←e1,hx] at hz;rcases List.mem_append.1 hz with hz | hz
     ·rw[eL];rw[e1] at hz;exact hcl2 e1 z hz
     ·simp at hz;subst hz;exact hx2 (e.trans e1.symm)
   refine zB4 ?_;refine AW.block ?_;refine zB4 ?_;refine WT.vidx hT ht.list.vec Z Z Z Z Z Z Z Z Z zo (fun b4 hb4=>?_);refine WT.wld1 (v:=.slice c.s.xa c.s.xn c.s.xc) hT 0 ht.list.vec hb4 huk2 Z Z Z Z Z Z subL Z Z Z (fun l h=>h.1) ?_;refine zB4 ?_;refine WT.vidx hT ht.last.vec Z Z Z Z Z Z Z Z Z zo (fun b5 hb5=>?_);refine WT.wldS hT 0 ht.last.vec hb5 hx Z Z Z Z Z Z subX Z Z Z (fun l hl=>?_);obtain rfl:l=_:=hl;refine WT.allocT hT Z Z Z Z Z Z (fun i5 hi5=>?_);refine zB4 ?_
   refine WT.callLend 1 Tryz.func103 Z Z Z Z Z Z Z (fun G hG hBG=>cnext_spec G g hg (hBG _ _ me) (ht.rules.mono hG) hxok) (fun v hv=>?_);rcases hv with ⟨hno,⟨r,hr,hd⟩,rfl⟩ | ⟨y,hyn,rfl⟩
   ·refine zB4 ?_;refine WT.allocT hT Z Z Z Z Z Z (fun i6 hi6=>?_);refine zB4 ?_;refine AW.cond Z (fun h=>(by cases h)) (fun _=>?_);have hfk:x.frm≤c.s.k:=by obtain⟨_,_,_,h3⟩:=hxok;omega
    obtain⟨a',n',c',hat,harr,hqs⟩:=ht.at_ hfk;have hfl:=ht.few' hg hgl hQ x.frm;refine zB4 ?_;refine WT.vidx hT ht.list.vec Z Z Z Z Z Z Z Z Z zo (fun b6 hb6=>?_);refine WT.wld1 (v:=.slice a' n' c') hT 2 ht.list.vec hb6 hat Z Z Z Z Z Z subL Z Z Z (fun l h=>h.1) ?_
    refine WT.callLendN (P:=fun v B'=>∃a2 c2,v=.slice a2 n' c2∧Vec tItem F2 a2 n' c2 B' (LS c.s x.frm)) 2 Tryz.func143 Z Z Z Z Z Z Z (fun G hG hBG=>Spec.mono (itemClone_spec G (harr G hG hBG) (by have:=(harr G hG hBG).len;omega)) (fun F' v o _ hv=>by
     obtain⟨B',e,a2,c2,e2,hv⟩:=hv;exact⟨B',e,a2,c2,e2,Vec.itemAny hv⟩)) (fun v BC hv=>?_)
    obtain⟨a2,c2,rfl,hcv⟩:=hv;refine WT.freezeAll 0 Z Z (fun F3 hF3 hB3=>?_);have hya:=hcv.arr hF3 hB3;have hyl:=hya.len;have ht3:=ht.mono hF3;refine zB4 ?_;refine AW.range (S:=CSt) (fun _=>[]) (fun u=>[]::[(i6,.cells false [.bool false,.int .i64 0])]::[(i5,.cells false [.int .i64 x.rule,.int .i64 x.dot,.int .i64 x.frm])]::cB g q u::own)
     (fun j u G=>COk g Q q G u∧Grows c.s u (fun _=>True)∧∀y∈(LS c.s x.frm).take j,nextOf g.rules y=some ⟨false,r.left⟩→stepItem y∈u.last) n' c.s
     Z Z Z Z Z Z Z Z Z zo rfl rfl (fun _=>rfl) (fun _=>rfl) sM oR ⟨ht3,Grows.refl _ _,fun y hy=>by simp at hy⟩ ?_ ?_
    ·intro j u F4 hF4 hj hP4;obtain⟨hu,hgu,hin⟩:=hP4;have hku:u.k=s0.k:=hgu.k.trans hk2;have hya4:=hya.mono hF4;have hfew4:=hu.few hg hgl hQ;refine zB6 ?_;refine WT.idxL hT hya4 Z Z Z Z Z Z Z Z Z zo (fun y hyj b7 off7 ro7 cs7 lx7 hb7 hp7 hrel7=>?_);obtain rfl:lx7=_:=hrel7;have hQy:=hqs y (gM hyj);have hyok:=hQ.ok _ _ hQy;have next:∀w:CSt,Grows u w (fun _=>True)→(nextOf g.rules y=some ⟨false,r.left⟩→stepItem y∈w.last)→∀z∈(LS c.s x.frm).take (j+1),nextOf g.rules z=some ⟨false,r.left⟩→stepItem z∈w.last:=by
      intro w hw h1 z hz hn;rw[List.take_add_one,hyj] at hz;rcases List.mem_append.1 hz with hz | hz
      ·exact hw.mem (hin z hz hn)
      ·simp at hz;subst hz;exact h1 hn
     refine zB6 ?_;refine WT.allocT hT Z Z Z Z Z Z (fun i9 hi9=>?_);refine zB6 ?_;refine WT.callLend 4 Tryz.func103 Z Z Z Z Z Z Z (fun G hG hBG=>cnext_spec G g hg (hBG _ _ me) (hu.rules.mono hG) hyok) (fun v hv=>?_);rcases hv with ⟨hno2,_,rfl⟩ | ⟨z,hzn,rfl⟩
     ·refine zB6 ?_;refine WT.allocT hT Z Z Z Z Z Z (fun i10 hi10=>?_);refine zB6 ?_;refine AW.draw (ps:=[(2,13)]) Z Z ?_;refine zB6 ?_;refine⟨zrC,?_⟩;refine AW.cond Z (fun h=>(by cases h)) (fun _=>?_);refine zB6 ?_;exact⟨u,sM,zow,hu,hgu,next u (Grows.refl _ _) (fun h=>by rw[hno2] at h;cases h)⟩
     ·refine zB6 ?_;refine WT.allocT hT Z Z Z Z Z Z (fun i10 hi10=>?_);refine zB6 ?_;refine AW.draw (ps:=[(2,13)]) Z Z ?_;refine zB6 ?_;refine WT.idxL hT hu.rules Z Z Z Z Z Z Z Z Z (by have:=(gS hr).1;have:=hu.rules.len;omega) (fun r2 hr2 b8 off8 ro8 cs8 lx8 hb8 hp8 hrel8=>?_);obtain rfl:r=r2:=by rw[hr] at hr2;exact Option.some.inj hr2
      obtain⟨ra,rn,rc,rfl,hra⟩:=hrel8;refine zB6 ?_;refine WT.callV Tryz.func101 Z Z Z Z Z Z (gN_spec _ _) (fun v hv=>?_);subst hv;refine zB6 ?_;refine⟨zrC,?_⟩;refine AW.cond Z (fun hc=>?_) (fun hc=>?_)
      ·have hz:z=(⟨false,r.left⟩:Sym):=by
        have h1:=sym_eq z ⟨false,r.left⟩;rw[show ((z.term==false)&&(((z.n:Int)==(r.left:Int))&&true))=true from hc] at h1;exact of_decide_eq_true h1.symm
       have hyd:y.dot≤4:=by
        obtain⟨ry,hy1,hy2,_⟩:=hyok;have:=hg ry (gM hy1);omega
       refine zB6 ?_;refine WT.know (v':=.agg ⟨[.int .i64 (y.rule:Nat),.int .i64 ((y.dot+1:Nat):Int),.int .i64 (y.frm:Nat)]⟩) 112 Z (by simp) ?_;refine WT.call1F 5 Tryz.func105 Z Z Z Z Z Z Z (fun _=>rfl) (cadd_spec _ g hu zo (stepItem y) (by rw[hku];exact hQ.complete s0.k x y r hQx hr hd hQy (by rw[hzn,hz]))) (fun F5 v B5 hF5 hv=>?_);obtain⟨w,rfl,hw,hgw,hmem⟩:=hv;refine zB6 ?_;have hgw':=hgw.mono (P':=fun _=>True) (fun _ _=>trivial);exact⟨w,sM,zow,hw,hgu.trans hgw',next w hgw' (fun _=>hmem)⟩
      ·have hz:z≠(⟨false,r.left⟩:Sym):=by
        have h1:=sym_eq z ⟨false,r.left⟩;rw[show ((z.term==false)&&(((z.n:Int)==(r.left:Int))&&true))=false from hc] at h1;exact of_decide_eq_false h1.symm
       refine zB6 ?_;exact⟨u,sM,zow,hu,hgu,next u (Grows.refl _ _) (fun h=>by rw[hzn] at h;exact absurd (Option.some.inj h) hz)⟩
    ·intro u F4 hF4 hP4;obtain⟨hu,hgu,hin⟩:=hP4;rw[List.take_of_length_le zo] at hin;refine zB6 ?_;refine⟨⟨u,c.i+1⟩,by dsimp only;omega,sM,zow,?_⟩;refine fin u _ hu hgu (fun e=>⟨fun n2 i2 r2 hn2 _ _=>(by rw[hno] at hn2;cases hn2),fun r2 hr2 hd2 y hy hn2=>?_⟩);rw[hr] at hr2;obtain rfl:=Option.some.inj hr2;have eL:LS u=LS c.s:=by
      funext j;unfold LS;rw[hgu.k,hgu.old,e]
     rw[eL] at hy;have:=hin y hy hn2;unfold LS;rw[hgu.k,hk2,if_pos rfl];exact this
   ·refine zB4 ?_;refine WT.allocT hT Z Z Z Z Z Z (fun i6 hi6=>?_);refine zB4 ?_;refine AW.cond Z (fun _=>?_) (fun h=>(by cases h));refine zB4 ?_
    refine WT.call1F 2 Tryz.func100 Z Z Z Z Z Z Z (fun _=>rfl) (cpredict_spec _ g hg hgl hQ ht y (fun hyt i' r' hr' hl'=>by
     rw[hk2];exact hQ.predict s0.k x y.n i' r' hQx (by rw[hyn];cases y;simp only at hyt;rw[hyt]) hr' hl')) (fun F3 v B3 hF3 hv=>?_)
    obtain⟨u,rfl,hu,hgu,hin⟩:=hv;refine zB4 ?_;refine AW.exit ?_;refine zB4 ?_;refine⟨⟨u,c.i+1⟩,by dsimp only;omega,sM,zow,?_⟩;refine fin u _ hu hgu (fun _=>⟨fun n' i' r' hn' hr' hl'=>?_,fun r' hr' hd'=>?_⟩)
    ·rw[hyn] at hn';obtain rfl:=Option.some.inj hn';have:=hin i' r' hr' rfl hl';unfold LS;rw[hgu.k,hk2,if_pos rfl];rw[hk2] at this;exact this
    ·exfalso;unfold nextOf at hyn;rw[hr'] at hyn;have:r'.right[x.dot]?=some y:=hyn;have:=(gS this).1;omega
  ·have hge:c.i=c.s.last.length:=by simp at hge;omega
   refine AW.exit ?_;have hpl:p.s.last.length≤c.s.last.length:=by
    obtain⟨n1,e1,_⟩:=hgt.last;rw[e1,List.length_append];omega
   refine⟨⟨c.s,(p.s.xn:Nat)⟩,?_,sM,OwnLe.refl _,ht,hgr.trans hgt,by dsimp only;omega,fun e=>?_⟩
   ·dsimp only;rw[if_neg hne];split<;>omega
   ·dsimp only at e;have e1:c.s.last=p.s.last:=by
     obtain⟨n1,e1,_⟩:=hgt.last;have:=congrArg List.length e1;simp only[List.length_append] at this;have:n1=[]:=List.eq_nil_of_length_eq_zero zo;rw[e1,this,List.append_nil]
    intro z hz;refine hcl2 e1 z ?_;rw[List.take_of_length_le zo,←e1];exact hz
 ·have heq:p.n=p.s.last.length:=by simp at heq;omega
  refine AW.exit ?_;exact⟨_,[_],rfl,zsb,_,rfl,p.s,rfl,hs,hgr,fun x hx=>by rw[hk];exact hcl heq x hx⟩
theorem own_drop(a b:Nat×Blk)(BS BL BX:List (Nat×Blk))(own:Own):OwnLe ((a::(BS++BL))::BX::own) ((a::(BS++(BL++(b::BX))))::own):=by
 refine⟨(a::(BS++(BL++BX)))++own.flatten,?_,List.Perm.of_eq (by simp)⟩;simp only[List.flatten_cons];refine List.Sublist.append_right (List.Sublist.cons_cons _ (List.Sublist.append_left (List.Sublist.append_left (List.sublist_cons_self _ _) _) _)) _
theorem cstartQ_spec(F:Frz)(g:Gram)(hg:∀r∈g.rules,r.right.length≤4)(hgl:g.rules.length≤32){Q:Nat→Item→Prop}(hQ:QInv g Q)(hst:∀i r,g.rules[i]?=some r→r.left=g.start→Q 0 ⟨i,0,0⟩)
  {a:Option Addr} {m c:Nat} (hr:Arr tRule F a m c g.rules) :
  Abs.Spec CC 62 [.agg ⟨gramCells g a m c⟩] F [] fun F' v o=>
   ∃B',o=[B']∧∃q s,v=.pointer (some ⟨q.ic,0,none⟩)∧B'=cB g q s∧COk g Q q F' s∧s.k=0∧(∀i r,g.rules[i]?=some r→r.left=g.start→(⟨i,0,0⟩:Item)∈s.last)∧(∀x∈s.last,ItemClosed g.rules (LS s) s.k x)∧q=⟨q.ic,a,m,c⟩:=by
 unfold gramCells;refine Abs.Spec.fn (n:=17) Tryz.func62 rfl rfl fun own=>?_;refine AW.seq (AW.reg ?_);refine WT.boxT Z Z Z Z Z Z (fun i1 hi1=>?_);refine zB4 ?_;refine WT.boxT Z Z Z Z Z Z (fun ic hic=>?_);refine zB4 ?_;refine WT.call1F 0 Tryz.func99 Z Z Z Z Z Z Z (fun _=>rfl) (cset_spec F (ic:=ic) (n:=0) (BS:=[]) (BL:=[]) (Bld.nil_ tRaw F) (Bld.nil_ tRaw F) (by decide) ⟨rfl,rfl,rfl,rfl⟩) (fun F1 v B1 hF1 hv=>?_);obtain⟨sa,sc,la,lc,BS,BL,im,hs,hl,rfl⟩:=hv;have h0:COk g Q ⟨ic,a,m,c⟩ F1 ⟨0,[],[],sa,sc,BS,[],la,lc,BL,[],im,[],none,0,0,[]⟩:=
  ⟨hr.mono hF1,hs,hl,rfl,rfl,fun j l h=>by simp at h,fun y=>by simp[Abs.look],Bld.nil_ _ _,List.nodup_nil,fun j l h=>by simp at h,fun x h=>by simp at h,Nat.zero_le _,fun j l h=>by simp at h,fun j l h=>by simp at h⟩
 refine zB4 ?_;refine WT.callV Tryz.func101 Z Z Z Z Z Z (gN_spec _ _) (fun v hv=>?_);subst hv;refine WT.call1F 0 Tryz.func100 Z Z Z Z Z Z Z (fun _=>rfl) (cpredict_spec _ g hg hgl hQ h0 ⟨false,g.start⟩ (fun _ i r hr hl=>hst i r hr hl)) (fun F2 v B2 hF2 hv=>?_);obtain⟨s1,rfl,h1,hg1,hin⟩:=hv;refine zB4 ?_;refine WT.call1F 0 Tryz.func102 Z Z Z Z Z Z Z (fun _=>rfl) (ccomplete_spec _ g hg hgl hQ h1) (fun F3 v B3 hF3 hv=>?_);obtain⟨s2,rfl,h2,hg2,hcl⟩:=hv;refine zB4 ?_;refine AW.perm (perm_to1 _ _ _) ?_
 exact AW.ret ⟨_,[_],⟨_,_,rfl,rfl,rfl⟩,zsb,_,rfl,⟨ic,a,m,c⟩,s2,rfl,rfl,h2,hg2.k.trans hg1.k,fun i r hr hl=>hg2.mem (hin i r hr rfl hl),hcl,rfl⟩
theorem cstart_spec(F:Frz)(g:Gram)(hg:∀r∈g.rules,r.right.length≤4)(hgl:g.rules.length≤32){Q:Nat→Item→Prop}(hQ:QInv g Q)(hst:∀i r,g.rules[i]?=some r→r.left=g.start→Q 0 ⟨i,0,0⟩)
  {a:Option Addr} {m c:Nat} (hr:Arr tRule F a m c g.rules) :
  Abs.Spec CC 62 [.agg ⟨gramCells g a m c⟩] F [] fun F' v o=>
   ∃B',o=[B']∧∃q s,v=.pointer (some ⟨q.ic,0,none⟩)∧B'=cB g q s∧COk g Q q F' s∧s.k=0∧(∀i r,g.rules[i]?=some r→r.left=g.start→(⟨i,0,0⟩:Item)∈s.last)∧∀x∈s.last,ItemClosed g.rules (LS s) s.k x:=
 (cstartQ_spec F g hg hgl hQ hst hr).mono fun _ _ _ _ ⟨B',h1,q,s,h2,h3,h4,h5,h6,h7,_⟩=>⟨B',h1,q,s,h2,h3,h4,h5,h6,h7⟩
theorem vec_repB{F:Frz}{i n:Nat}(z:Bool):Vec tBool F (some ⟨i,0,none⟩) n (bif n==0 then 0 else 1) [(i,.cells false (List.replicate n (.bool z)))] (List.replicate n z):=by
 refine⟨by simp,?_,fun h=>?_,fun h=>(by cases h),fun p hp=>(by cases hp;rfl),.inr ⟨i,_,rfl,rfl,?_,by decide⟩⟩
 ·cases n<;>simp[tBool]
 ·cases n with
  | zero=>rfl
  | succ n=>simp at h
 ·induction n with
  | zero=>exact .nil
  | succ n ih=>
   rw[List.replicate_succ,List.replicate_succ];exact Cells.cons (R:=tBool) (l:=[.bool z]) rfl ih
structure NB where
 xs:List Bool
 B:List (Nat×Blk)
theorem shE10{p:Prop} (h:p:=by
 refine AW.seq (AW.reg ?_);refine WT.boxT Z Z Z Z Z Z (fun i2 hi2=>?_);refine zB4 ?_;refine WT.split 7 Z (fun hty=>?_) (fun hty=>?_)
 ·have hty:y.term=false:=by simpa using hty
  have hyn:y.n<E.length:=by rcases hy with h | h;rw[hty] at h;cases h;exact h
  refine zB4 ?_;refine WT.idxL hT hE Z Z Z Z Z Z Z Z Z hyn (fun z hz b3 off3 ro3 cs3 lx3 hb3 hp3 hrel3=>?_);obtain rfl:lx3=_:=hrel3;refine zB4 ?_;refine AW.ret ⟨_,[],⟨_,_,rfl,rfl,rfl⟩,zsb,rfl,?_⟩;rw[hty,List.getD_eq_getElem?_getD,hz];rfl
 ·have hty:y.term=true:=by simpa using hty
  refine zB4 ?_;refine AW.ret ⟨_,[],⟨_,_,rfl,rfl,rfl⟩,zsb,rfl,?_⟩;rw[hty];rfl):p:=h
theorem feed11_spec(F:Frz){ie:Nat}{ro:Bool}{ea:Option Addr}{en ec:Nat}{E:List Bool}(hi:F ie=some (.cells ro [.slice ea en ec]))(hE:Arr tBool F ea en ec E)(y:Sym)(hy:y.term=true∨y.n<E.length) :
  Abs.Spec CC 61 [.agg ⟨[.bool y.term,.int .i64 y.n]⟩,.pointer (some ⟨ie,0,none⟩)] F [] fun _ v o=>o=[]∧v=.bool (!y.term&&!(E.getD y.n false)):=by
 have hEl:=hE.len;refine Abs.Spec.fn (n:=15) Tryz.func61 rfl rfl fun own=>?_;exact shE10
theorem feed1_spec(F:Frz){ie:Nat}{ro:Bool}{ea:Option Addr}{en ec:Nat}{E:List Bool}(hi:F ie=some (.cells ro [.slice ea en ec]))(hE:Arr tBool F ea en ec E)(r:Rule)(hr:∀y∈r.right,y.term=true∨y.n<E.length){b:Option Addr}{n d:Nat}(hb:Arr tSym F b n d r.right)(hn:n≤1000000) :
  Abs.Spec CC 60 [.agg ⟨[.int .i64 r.left,.slice b n d]⟩,.pointer (some ⟨ie,0,none⟩)] F [] fun _ v o=>o=[]∧v=.bool (r.right.any fun y=>!y.term&&!(E.getD y.n false)):=by
 refine Abs.Spec.fn (n:=8) Tryz.func60 rfl rfl fun own=>?_;refine AW.seq (AW.reg ?_);refine WT.boxT Z Z Z Z Z Z (fun i2 hi2=>?_);refine zB4 ?_;refine WT.callV Tryz.func55 Z Z Z Z Z Z (symAny_spec _ hb hn (fun y=>!y.term&&!(E.getD y.n false)) (first:=[]) (capt:=[.pointer (some ⟨ie,0,none⟩)]) Tryz.func61 Z (fun y hy=>feed11_spec _ hi hE y (hr y hy))) (fun v hv=>?_)
 subst hv;refine zB4 ?_;exact AW.ret ⟨_,[],⟨_,_,rfl,rfl,rfl⟩,zsb,rfl,rfl⟩
def QI(g:Gram):Nat→Item→Prop:=fun k x=>ItemOk g.rules k x
theorem nextOf_some{rs:List Rule}{x:Item}{y:Sym}(h:nextOf rs x=some y):∃r,rs[x.rule]?=some r∧r.right[x.dot]?=some y:=by
 unfold nextOf at h;cases hr:rs[x.rule]? with
 | none=>rw[hr] at h;cases h
 | some r=>rw[hr] at h;exact⟨r,rfl,h⟩
theorem QI_inv(g:Gram):QInv g (QI g) where
 ok:=fun _ _ h=>h
 predict:=fun k x n i r _ _ hr _=>⟨r,hr,Nat.zero_le _,Nat.le_refl _⟩
 complete:=fun k x y r hx hr hd hy hn=>by
  obtain⟨ry,h1,h2,h3⟩:=hy;obtain⟨r',h4,h5⟩:=nextOf_some hn;rw[h1] at h4;obtain rfl:=Option.some.inj h4;obtain⟨_,_,_,h6⟩:=hx;have:=(gS h5).1;exact⟨ry,h1,by show y.dot+1≤_;omega,by show y.frm≤k;omega⟩
theorem QI_scan(g:Gram)(k t:Nat):∀x,QI g k x→nextOf g.rules x=some ⟨true,t⟩→QI g (k+1) (stepItem x):=fun x hx hn=>by
 obtain⟨rx,h1,h2,h3⟩:=hx;obtain⟨r',h4,h5⟩:=nextOf_some hn;rw[h1] at h4;obtain rfl:=Option.some.inj h4;have:=(gS h5).1;exact⟨rx,h1,by show x.dot+1≤_;omega,by show x.frm≤k+1;omega⟩
structure FSt where
 fi:Nat
 ga:Option Addr
 gm:Nat
 gc:Nat
 q:ChP
 s:CSt
 wa:Option Addr
 wn:Nat
 wc:Nat
 BW:List (Nat×Blk)
 w:List Nat
 E:List Bool
structure FdOk(g:Gram)(F:Frz)(f:FSt):Prop where
 rules:Arr tRule F f.ga f.gm f.gc g.rules
 ends:EndsIn g f.E
 chart:COk (trimmed f.E g) (QI (trimmed f.E g)) f.q F f.s
 k:f.s.k=f.w.length
 sets:Sets (trimmed f.E g) f.w (LS f.s)
 word:Bld tNat F f.wa f.wn f.wc f.BW f.w
 ok:∀t∈f.w,t<g.terms
theorem FdOk.mono{g:Gram}{F G:Frz}{f:FSt}(h:FdOk g F f)(hF:Frz.le F G):FdOk g G f:=⟨h.rules.mono hF,h.ends,h.chart.mono hF,h.k,h.sets,h.word.mono hF,h.ok⟩
theorem trim_right{g:Gram}(hg:Valid g)(E:List Bool):∀r∈(trimmed E g).rules,r.right.length≤4:=fun r hr=>(hg.right r (List.mem_filter.1 hr).1).2.1
theorem trim_len{g:Gram}(hg:Valid g)(E:List Bool):(trimmed E g).rules.length≤32:=Nat.le_trans (List.length_filter_le _ _) hg.range.rules
theorem trim_sym{g:Gram}(hg:Valid g)(E:List Bool):∀r∈(trimmed E g).rules,∀y∈r.right,SymOk (trimmed E g).terms (trimmed E g).nons y:=fun r hr=>(hg.right r (List.mem_filter.1 hr).1).2.2
structure NextOk(g:Gram)(f:FSt)(xs:List Bool):Prop where
 len:xs.length=g.terms+1
 term:∀t,t<g.terms→(xs[t]?=some true↔∃x∈f.s.last,nextOf (trimmed f.E g).rules x=some ⟨true,t⟩)
 done:xs[g.terms]?=some (derives g f.w g.start 0 f.w.length)
theorem Vec.boolAny{F G:Frz}{a:Option Addr}{n c:Nat}{B:List (Nat×Blk)}{xs:List Bool}(h:Vec tBool F a n c B xs):Vec tBool G a n c B xs:=by
 have cells:∀{cs:List Value} {xs:List Bool},Cells tBool F cs xs→Cells tBool G cs xs:=by
  intro cs xs h
  induction h with
  | nil=>exact .nil
  | cons h1 _ ih=>exact .cons h1 ih
 exact⟨h.len,h.cap,h.zero,h.nil,h.spot,h.el.imp id fun ⟨i,cs,h1,h2,h3,h4⟩=>⟨i,cs,h1,h2,cells h3,h4⟩⟩
theorem csetG_spec(F:Frz){ic n sc lc:Nat}{x0 x1 x2 x3:Value}{sa la:Option Addr}{BS BL:List (Nat×Blk)}{vs us:List Value}(hs:GB tRaw F sa n sc BS vs)(hl:GB tRaw F la n lc BL us)(hn:n≤1000)
  (ho:one x0=true∧one x1=true∧one x2=true∧one x3=true) :
  Abs.Spec CC 99 [.pointer (some ⟨ic,0,none⟩)] F [(ic,.cells false [x0,x1,x2,x3,.slice sa n sc,.slice la n lc])::(BS++BL)] fun F' v o=>
   ∃B',o=[B']∧∃sa' sc' la' lc' BS' BL' im,Bld tRaw F' sa' (n+1) sc' BS' (vs++[.map (some im)])∧Bld tRaw F' la' (n+1) lc' BL' (us++[.slice none 0 0])∧
    B'=(ic,.cells false [x0,x1,x2,x3,.slice sa' (n+1) sc',.slice la' (n+1) lc'])::(BS'++(BL'++[(im,.map [])])):=by
 have hsl:=hs.len;have hll:=hl.len;refine Abs.Spec.fn (n:=21) Tryz.func99 rfl rfl fun own=>?_;refine AW.le (own2:=[(ic,.cells false [x0,x1,x2,x3,.slice sa n sc,.slice la n lc])]::BS::BL::own) (OwnLe.flat (List.Perm.of_eq (by simp))) ?_;refine AW.draw (ps:=[(5,6),(5,7),(5,13),(12,6),(12,7),(12,8),(12,13)]) Z Z ?_;refine zB4 ?_;refine WT.makeMap Z Z Z Z (fun im him=>?_);refine WT.buildT hT Z Z Z Z Z Z Z Z Z Z Z Z Z Z (fun i9 hi9=>?_)
 refine WT.appendG (ys:=[.map (some im)]) hT 3 hs Z (fun _=>rfl) Z Z Z Z Z Z Z Z Z Z Z (fun h0 s0=>news_own hT s0 0 Z Z Z Z) (Cells.single (R:=tRaw) (x:=.map (some im)) ⟨rfl,rfl⟩) Z (by decide) zom (fun sa' sc' BS' hBS'=>?_);refine zB6 ?_;refine WT.buildT hT Z Z Z Z Z Z Z Z Z Z Z Z Z Z (fun i15 hi15=>?_);refine WT.appendG (ys:=[.slice none 0 0]) hT 5 hl Z (fun _=>rfl) Z Z Z Z Z Z Z Z Z Z Z (fun h0 s0=>news_own hT s0 0 Z Z Z Z) (Cells.single (R:=tRaw) (x:=.slice none 0 0) ⟨rfl,rfl⟩) Z (by decide) zom (fun la' lc' BL' hBL'=>?_)
 refine WT.le (own2:=((ic,.cells false [x0,x1,x2,x3,.slice sa n sc,.slice la n lc])::(BS'++(BL'++[(im,.map [])])))::own) (OwnLe.skip _ (OwnLe.skip _ (own_set _ _ _ _ _))) ?_;refine zB6 ?_;refine⟨zrC,?_⟩;exact⟨_,[_],rfl,zsb,_,rfl,sa',sc',la',lc',BS',BL',im,hBS',hBL',rfl⟩
structure SSt where
 k:Nat
 lists:List (List Item)
 sa:Option Addr
 sc:Nat
 BS:List (Nat×Blk)
 vs:List Value
 la:Option Addr
 lc:Nat
 BL:List (Nat×Blk)
 us:List Value
def shCells(g:Gram)(q:ChP)(s:SSt):List Value:=[.int .i64 g.terms,.int .i64 g.nons,.int .i64 g.start,.slice q.ra q.rm q.rc,.slice s.sa (s.k+1) s.sc,.slice s.la (s.k+1) s.lc]
def shB(g:Gram)(q:ChP)(s:SSt):List (Nat×Blk):=(q.ic,.cells false (shCells g q s))::(s.BS++s.BL)
structure SOk(g:Gram)(Q:Nat→Item→Prop)(q:ChP)(F:Frz)(s:SSt):Prop where
 rules:Arr tRule F q.ra q.rm q.rc g.rules
 sets:GB tRaw F s.sa (s.k+1) s.sc s.BS s.vs
 list:GB tRaw F s.la (s.k+1) s.lc s.BL s.us
 len:s.lists.length=s.k+1
 olds:∀(j:Nat) (l:List Item),s.lists[j]?=some l→∃a n c,s.us[j]?=some (.slice a n c)∧Arr tItem F a n c l
 all:∀(j:Nat) (l:List Item),s.lists[j]?=some l→∀x∈l,Q j x
 small:s.k≤20
 olen:∀(j:Nat) (l:List Item),s.lists[j]?=some l→l.length≤3360
 nd:∀(j:Nat) (l:List Item),s.lists[j]?=some l→l.Nodup
theorem SOk.mono{g:Gram}{Q:Nat→Item→Prop}{q:ChP}{F G:Frz}{s:SSt}(h:SOk g Q q F s)(hF:Frz.le F G):SOk g Q q G s:=
 ⟨h.rules.mono hF,h.sets.mono hF,h.list.mono hF,h.len,fun j l hj=>by obtain⟨a,n,c,h1,h2⟩:=h.olds j l hj;exact⟨a,n,c,h1,h2.mono hF⟩,h.all,h.small,h.olen,h.nd⟩
theorem SOk.weaken{g:Gram}{Q Q':Nat→Item→Prop}{q:ChP}{F:Frz}{s:SSt}(h:SOk g Q q F s)(hQ:∀k x,k≤s.k→Q k x→Q' k x):SOk g Q' q F s:=
 ⟨h.rules,h.sets,h.list,h.len,h.olds,fun j l hj x hx=>hQ j x (by have:=(gS hj).1;have:=h.len;omega) (h.all j l hj x hx),h.small,h.olen,h.nd⟩
def LZ(s:SSt):Nat→List Item:=fun j=>s.lists.getD j []
def restOf(s:CSt):SSt:=⟨s.k,s.old++[s.last],s.sa,s.sc,s.BS,s.vs++[.map (some s.im)],s.la,s.lc,s.BL,s.us++[.slice s.xa s.xn s.xc]⟩
theorem COk.rest{g:Gram}{Q:Nat→Item→Prop}{q:ChP}{F G:Frz}{s:CSt}(h:COk g Q q F s)(hfew:s.last.length≤3360)(hG:Frz.le F G)(hB:∀i b,(i,b)∈s.BX→G i=some b):SOk g Q q G (restOf s):=by
 have hol:=h.oldl;have hul:=h.usl;have hpass:∀j l,(s.old++[s.last])[j]?=some l→s.old[j]?=some l∨(j=s.k∧l=s.last):=by
  intro j l hj;rcases Nat.lt_or_ge j s.old.length with h1 | h1
  ·rw[List.getElem?_append_left h1] at hj;exact .inl hj
  ·rw[List.getElem?_append_right h1] at hj;have:=(gS hj).1;simp at this;have e:j-s.old.length=0:=by omega
   rw[e] at hj;exact .inr ⟨by omega,by simpa using hj.symm⟩
 refine⟨h.rules.mono hG,(h.sets.mono hG).gb,(h.list.mono hG).gb,by simp[restOf,hol],fun j l hj=>?_,fun j l hj x hx=>?_,h.small,fun j l hj=>?_,fun j l hj=>?_⟩
 ·rcases hpass j l hj with h1 | ⟨rfl,rfl⟩
  ·obtain⟨a,n,c,h2,h3⟩:=h.olds j l h1;exact⟨a,n,c,by show (s.us++[_])[j]?=_;rw[List.getElem?_append_left (gS h2).1];exact h2,h3.mono hG⟩
  ·exact⟨_,_,_,h.uk,h.last.frozen hG hB⟩
 ·rcases hpass j l hj with h1 | ⟨rfl,rfl⟩
  ·exact h.qold j l h1 x hx
  ·exact h.qlast x hx
 ·rcases hpass j l hj with h1 | ⟨rfl,rfl⟩
  ·exact h.olen j l h1
  ·exact hfew
 ·rcases hpass j l hj with h1 | ⟨rfl,rfl⟩
  ·exact h.ndold j l h1
  ·exact h.nodup
theorem LZ_rest{s:CSt}(hol:s.old.length=s.k):LZ (restOf s)=LS s:=by
 funext j;unfold LZ LS restOf;show (s.old++[s.last]).getD j []=_;rw[List.getD_eq_getElem?_getD];by_cases h:j=s.k
 ·rw[if_pos h,List.getElem?_append_right zo,show j-s.old.length=0 by omega];rfl
 ·rw[if_neg h,List.getD_eq_getElem?_getD];rcases Nat.lt_or_ge j s.k with h1 | h1
  ·rw[List.getElem?_append_left zo]
  ·rw[List.getElem?_eq_none (by simp;omega),List.getElem?_eq_none zo]
theorem own_rest{g:Gram}{q:ChP}{s:CSt}(own:Own):OwnLe (shB g q (restOf s)::s.BX::own) (cB g q s::own):=own_drop _ _ _ _ _ _
theorem cnextA_spec(G:Frz)(g:Gram)(hg:∀r∈g.rules,r.right.length≤4)(hgt:g.terms≤1000)(hsym:∀r∈g.rules,∀y∈r.right,SymOk g.terms g.nons y){ic rm rc sc lc k xn xc:Nat}{ra sa la xa:Option Addr}{us:List Value}{last:List Item}
  (hic:G ic=some (.cells false [.int .i64 g.terms,.int .i64 g.nons,.int .i64 g.start,.slice ra rm rc,.slice sa (k+1) sc,.slice la (k+1) lc])) (hr:Arr tRule G ra rm rc g.rules) (hla:Arr tRaw G la (k+1) lc us) (huk:us[k]?=some (.slice xa xn xc)) (hxa:Arr tItem G xa xn xc last) (hok:∀x∈last,ItemOk g.rules k x) (hfew:last.length≤3360) (hsm:k≤20) :
  Abs.Spec CC 63 [.pointer (some ⟨ic,0,none⟩)] G [] fun F' v o=>
   ∃B',o=[B']∧∃a' c' xs,v=.slice a' g.terms c'∧Vec tBool F' a' g.terms c' B' xs∧∀t,t<g.terms→(xs[t]?=some true↔∃x∈last,nextOf g.rules x=some ⟨true,t⟩):=by
 have hxl:=hxa.len;have hlal:=hla.len;refine Abs.Spec.fn (n:=48) Tryz.func63 rfl rfl fun own=>?_;refine zB4 ?_;refine WT.makeT (by_:=1) hT Z Z Z Z Z Z Z Z Z Z Z Z zo (fun io hio=>?_);have hv0:=vec_repB (F:=G) (i:=io) (n:=g.terms) false;refine zB4 ?_;refine WT.know (v':=.int .i64 (k:Nat)) 23 Z (by congr 1;omega) ?_;refine WT.idxL hT hla Z Z Z Z Z Z Z Z Z zo (fun v hv b off ro cs lx hb1 hp1 hrel=>?_);obtain rfl:v=.slice xa xn xc:=by rw[huk] at hv;exact(Option.some.inj hv).symm
 obtain⟨rfl,_⟩:=hrel;refine zB4 ?_;refine AW.range (S:=NB) (fun _=>[]) (fun u=>u.B::own)
  (fun j u F=>Vec tBool F (some ⟨io,0,none⟩) g.terms (bif g.terms==0 then 0 else 1) u.B u.xs∧∀t,t<g.terms→(u.xs[t]?=some true↔∃x∈last.take j,nextOf g.rules x=some ⟨true,t⟩)) xn ⟨_,_⟩
  Z Z Z Z Z Z Z Z Z zo rfl rfl (fun _=>rfl) (fun _=>rfl) sM oR ⟨hv0,fun t ht=>?_⟩ ?_ ?_
 ·simp[List.getElem?_replicate]
 ·intro j u F1 hF1 hj hP;obtain⟨hv,hin⟩:=hP;have hxa1:=hxa.mono hF1;have hrules:=hr.mono hF1;have hic1:=hF1 _ _ hic;refine zB6 ?_;refine WT.idxL hT hxa1 Z Z Z Z Z Z Z Z Z zo (fun y hyj b7 off7 ro7 cs7 lx7 hb7 hp7 hrel7=>?_);obtain rfl:lx7=_:=hrel7;have hyok:=hok y (gM hyj);have htk:last.take (j+1)=last.take j++[y]:=by rw[List.take_add_one,hyj];rfl
  refine zB6 ?_;refine WT.allocT hT Z Z Z Z Z Z (fun i5 hi5=>?_);refine zB6 ?_;refine WT.callV Tryz.func103 Z Z Z Z Z Z (cnext_spec F1 g hg (q:=⟨ic,ra,rm,rc⟩) (s:=⟨k,[],[],sa,sc,[],[],la,lc,[],[],0,[],none,0,0,[]⟩) hic1 hrules hyok) (fun v hv'=>?_);rcases hv' with ⟨hno2,_,rfl⟩ | ⟨z,hzn,rfl⟩
  ·refine zB6 ?_;refine WT.allocT hT Z Z Z Z Z Z (fun i6 hi6=>?_);refine zB6 ?_;refine AW.cond Z (fun h=>(by cases h)) (fun _=>?_);refine zB6 ?_;refine⟨u,sM,zow,hv,fun t ht=>?_⟩;rw[hin t ht,htk];simp[hno2]
  ·have hzt:z.term=true→z.n<g.terms:=fun hzt=>by
    unfold nextOf at hzn;cases hr:g.rules[y.rule]? with
    | none=>rw[hr] at hzn;cases hzn
    | some r=>
     rw[hr] at hzn;have:=hsym r (gM hr) z (gM (show r.right[y.dot]?=some z from hzn));rw[SymOk,if_pos hzt] at this;exact this
   refine zB6 ?_;refine WT.allocT hT Z Z Z Z Z Z (fun i6 hi6=>?_);refine zB6 ?_;refine AW.cond Z (fun hc=>?_) (fun hc=>?_)
   ·have hc:z.term=true:=hc;have hzn':nextOf g.rules y=some ⟨true,z.n⟩:=by rw[hzn];cases z;simp only at hc;rw[hc]
    have hlt:=hzt hc;have hvl:=hv.len;obtain⟨w,hw⟩:∃w,u.xs[z.n]?=some w:=⟨_,gE zo⟩;refine zB6 ?_;refine WT.vidx hT hv Z Z Z Z Z Z Z Z Z hlt (fun b5 hb5=>?_);refine WT.vst (y:=true) hT 2 hv hb5 hw Z Z Z Z Z Z Z (fun _=>rfl) Z (fun B6 hB6=>?_);refine zB6 ?_;refine⟨⟨u.xs.set z.n true,B6⟩,sM,zow,hB6,fun t ht=>?_⟩;show (u.xs.set z.n true)[t]?=some true↔_;rw[htk];by_cases e:t=z.n
    ·subst e;rw[List.getElem?_set_self zo];simp only[true_iff];exact⟨y,by simp,hzn'⟩
    ·rw[List.getElem?_set_ne (fun h=>e h.symm),hin t ht];constructor
     ·rintro⟨x,hx,hn⟩;exact⟨x,List.mem_append_left _ hx,hn⟩
     ·rintro⟨x,hx,hn⟩;rcases List.mem_append.1 hx with hx | hx
      ·exact⟨x,hx,hn⟩
      ·simp at hx;subst hx;rw[hzn'] at hn;injection hn with hn;injection hn with _ hn;exact absurd hn.symm e
   ·have hc:z.term=false:=hc;refine zB6 ?_;refine⟨u,sM,zow,hv,fun t ht=>?_⟩;rw[hin t ht,htk];constructor
    ·rintro⟨x,hx,hn⟩;exact⟨x,List.mem_append_left _ hx,hn⟩
    ·rintro⟨x,hx,hn⟩;rcases List.mem_append.1 hx with hx | hx
     ·exact⟨x,hx,hn⟩
     ·simp at hx;subst hx;rw[hzn] at hn;injection hn with hn;rw[hn] at hc;cases hc
 ·intro u F1 hF1 hP;obtain⟨hv,hin⟩:=hP;rw[List.take_of_length_le zo] at hin;refine zB6 ?_;exact AW.ret ⟨_,[_],⟨_,_,rfl,rfl,rfl⟩,zsb,_,rfl,_,_,u.xs,rfl,hv,hin⟩
theorem cputS_spec(F:Frz)(g:Gram)(hg:∀r∈g.rules,r.right.length≤4)(hgl:g.rules.length≤32){Q:Nat→Item→Prop}(hQ:QInv g Q){q:ChP}{s:SSt}(h:SOk g Q q F s)(hk:s.k<20)(t:Nat)
  (hsc:∀x,Q s.k x→nextOf g.rules x=some ⟨true,t⟩→Q (s.k+1) (stepItem x)) :
  Abs.Spec CC 64 [.pointer (some ⟨q.ic,0,none⟩),.int .i64 t] F [shB g q s] fun F' v o=>
   ∃B',o=[B']∧∃s',B'=shB g q s'∧SOk g Q q F' s'∧s'.k=s.k+1∧∃last new,s.lists[s.k]?=some last∧s'.lists=s.lists++[new]∧(∀x∈last,nextOf g.rules x=some ⟨true,t⟩→stepItem x∈new)∧∀x∈new,ItemClosed g.rules (LZ s') s'.k x:=by
 have hll:=h.len;obtain⟨last,hlast⟩:∃l,s.lists[s.k]?=some l:=⟨_,gE zo⟩;obtain⟨xa,xn,xc,huk,hxa⟩:=h.olds _ _ hlast;have hall:=h.all _ _ hlast;have hxl:=hxa.len;have hlen:=h.olen _ _ hlast;have hul:=h.list.len;have hvl:=h.sets.len;have hsets:=h.sets;have hlist:=h.list;have holds:=h.olds;have hallq:=h.all;have holen:=h.olen;have hnd:=h.nd;have hrules:=h.rules;clear h;obtain⟨k,lists,sa,sc,BS,vs,la,lc,BL,us⟩:=s;have hll:lists.length=k+1:=hll;have hk:k<20:=hk;have hlast:lists[k]?=some last:=hlast;have huk:us[k]?=some (.slice xa xn xc):=huk;have hul:k+1=us.length:=hul;have hvl:k+1=vs.length:=hvl
 have hlist:GB tRaw F la (k+1) lc BL us:=hlist;have hsets:GB tRaw F sa (k+1) sc BS vs:=hsets;have hsc:∀x,Q k x→nextOf g.rules x=some ⟨true,t⟩→Q (k+1) (stepItem x):=hsc;have holds:∀(j:Nat) (l:List Item),lists[j]?=some l→∃a n c,us[j]?=some (.slice a n c)∧Arr tItem F a n c l:=holds;have hall:∀x∈last,Q k x:=hall;rcases hlist.at_ with ⟨e0,_⟩ | ⟨il,cs,rst,e1,e2,e3,e4,_⟩
 ·rw[e0] at hul;simp at hul
 have e5:=cells_raw e4;have e2:lc=1:=e2;subst e1 e2 e5;unfold shB shCells;refine Abs.Spec.fn (n:=55) Tryz.func64 rfl rfl fun own=>?_;refine AW.seq (AW.draw (ps:=[]) Z Z ?_);refine zB4 ?_;refine WT.know (v':=.int .i64 (k:Nat)) 18 Z (by congr 1;simp) ?_;refine WT.idxA (j:=k) (s:=1) hT Z Z Z Z Z Z Z Z Z (Nat.lt_succ_self _) ?_;refine WT.loadAt hT 0 Z Z Z Z Z Z (show (il,Blk.cells false (cs++rst))∈_ by simp[e3]) Z Z (v:=.slice xa xn xc) (by rw[Nat.zero_add,Nat.mul_one,List.getElem?_append_left zo];exact huk) ?_;refine zB4 ?_
 refine WT.call1F 0 Tryz.func99 Z Z Z Z Z Z Z (fun _=>rfl) (csetG_spec F (ic:=q.ic) hsets hlist zo ⟨rfl,rfl,rfl,rfl⟩) (fun F2 v B2 hF2 hv=>?_);obtain⟨sa',sc',la',lc',BS',BL',im,hs2,hl2,rfl⟩:=hv;have hold2:=hxa.mono hF2;have h0:COk g Q q F2 ⟨k+1,lists,[],sa',sc',BS',vs,la',lc',BL',cs,im,[],none,0,0,[]⟩:=
  ⟨hrules.mono hF2,hs2,hl2,hul.symm,hll,fun j l hj=>by obtain⟨a,n,c,h1,h2⟩:=holds j l hj;exact⟨a,n,c,h1,h2.mono hF2⟩,fun y=>by simp[Abs.look],Bld.nil_ _ _,List.nodup_nil,hallq,fun x h=>by simp at h,by dsimp only;omega,holen,hnd⟩
 refine zB4 ?_;refine AW.range (S:=CSt) (fun _=>[]) (fun u=>cB g q u::own)
  (fun j u G=>COk g Q q G u∧Grows ⟨k+1,lists,[],sa',sc',BS',vs,la',lc',BL',cs,im,[],none,0,0,[]⟩ u (fun _=>True)∧∀y∈last.take j,nextOf g.rules y=some ⟨true,t⟩→stepItem y∈u.last) xn
  ⟨k+1,lists,[],sa',sc',BS',vs,la',lc',BL',cs,im,[],none,0,0,[]⟩
  Z Z Z Z Z Z Z Z Z zo rfl rfl (fun _=>rfl) (fun _=>rfl) sM oR ⟨h0,Grows.refl _ _,fun y hy=>by simp at hy⟩ ?_ ?_
 ·intro j u F4 hF4 hj hP4;obtain⟨hu,hgu,hin⟩:=hP4;have hku:u.k=k+1:=hgu.k;have hya4:=hold2.mono hF4;have hfew4:=hu.few hg hgl hQ;refine zB6 ?_;refine WT.idxL hT hya4 Z Z Z Z Z Z Z Z Z zo (fun y hyj b7 off7 ro7 cs7 lx7 hb7 hp7 hrel7=>?_);obtain rfl:lx7=_:=hrel7;have hQy:=hall y (gM hyj);have hyok:=hQ.ok _ _ hQy;have next:∀w:CSt,Grows u w (fun _=>True)→(nextOf g.rules y=some ⟨true,t⟩→stepItem y∈w.last)→∀z∈last.take (j+1),nextOf g.rules z=some ⟨true,t⟩→stepItem z∈w.last:=by
   intro w hw h1 z hz hn;rw[List.take_add_one,hyj] at hz;rcases List.mem_append.1 hz with hz | hz
   ·exact hw.mem (hin z hz hn)
   ·simp at hz;subst hz;exact h1 hn
  refine zB6 ?_;refine WT.allocT hT Z Z Z Z Z Z (fun i9 hi9=>?_);refine zB6 ?_;refine WT.callLend 1 Tryz.func103 Z Z Z Z Z Z Z (fun G hG hBG=>cnext_spec G g hg (hBG _ _ me) (hu.rules.mono hG) hyok) (fun v hv=>?_);rcases hv with ⟨hno2,_,rfl⟩ | ⟨z,hzn,rfl⟩
  ·refine zB6 ?_;refine WT.allocT hT Z Z Z Z Z Z (fun i10 hi10=>?_);refine zB6 ?_;refine AW.draw (ps:=[(2,4)]) Z Z ?_;refine zB6 ?_;refine⟨zrC,?_⟩;refine AW.cond Z (fun h=>(by cases h)) (fun _=>?_);refine zB6 ?_;exact⟨u,sM,zow,hu,hgu,next u (Grows.refl _ _) (fun h=>by rw[hno2] at h;cases h)⟩
  ·refine zB6 ?_;refine WT.allocT hT Z Z Z Z Z Z (fun i10 hi10=>?_);refine zB6 ?_;refine AW.draw (ps:=[(2,4)]) Z Z ?_;refine zB6 ?_;refine WT.callV Tryz.func104 Z Z Z Z Z Z (gT_spec _ _) (fun v hv=>?_);subst hv;refine zB6 ?_;refine⟨zrC,?_⟩;refine AW.cond Z (fun hc=>?_) (fun hc=>?_)
   ·have hz:z=(⟨true,t⟩:Sym):=by
     have h1:=sym_eq z ⟨true,t⟩;rw[show ((z.term==true)&&(((z.n:Int)==(t:Int))&&true))=true from hc] at h1;exact of_decide_eq_true h1.symm
    have hyd:y.dot≤4:=by
     obtain⟨ry,hy1,hy2,_⟩:=hyok;have:=hg ry (gM hy1);omega
    refine zB6 ?_;refine WT.know (v':=.agg ⟨[.int .i64 (y.rule:Nat),.int .i64 ((y.dot+1:Nat):Int),.int .i64 (y.frm:Nat)]⟩) 50 Z (by simp) ?_;refine WT.call1F 2 Tryz.func105 Z Z Z Z Z Z Z (fun _=>rfl) (cadd_spec _ g hu zo (stepItem y) (by rw[hku];exact hsc y hQy (by rw[hzn,hz]))) (fun F5 v B5 hF5 hv=>?_);obtain⟨w,rfl,hw,hgw,hmem⟩:=hv;refine zB6 ?_;have hgw':=hgw.mono (P':=fun _=>True) (fun _ _=>trivial);exact⟨w,sM,zow,hw,hgu.trans hgw',next w hgw' (fun _=>hmem)⟩
   ·have hz:z≠(⟨true,t⟩:Sym):=by
     have h1:=sym_eq z ⟨true,t⟩;rw[show ((z.term==true)&&(((z.n:Int)==(t:Int))&&true))=false from hc] at h1;exact of_decide_eq_false h1.symm
    refine zB6 ?_;exact⟨u,sM,zow,hu,hgu,next u (Grows.refl _ _) (fun h=>by rw[hzn] at h;exact absurd (Option.some.inj h) hz)⟩
 ·intro u F4 hF4 hP4;obtain⟨hu,hgu,hin⟩:=hP4;rw[List.take_of_length_le zo] at hin;refine zB6 ?_;refine WT.call1F 0 Tryz.func102 Z Z Z Z Z Z Z (fun _=>rfl) (ccomplete_spec _ g hg hgl hQ hu) (fun F5 v B5 hF5 hv=>?_);obtain⟨w,rfl,hw,hgw,hcl⟩:=hv;have hfw:=hw.few hg hgl hQ;refine WT.le (own_rest _) ?_;refine WT.freezeAll 1 Z Z (fun F6 hF6 hB6=>?_);have hrest:=hw.rest zo hF6 hB6;refine WT.le (own2:=shB g q (restOf w)::own) (OwnLe.flat (List.Perm.of_eq (by simp))) ?_;refine zB6 ?_;have hwo:w.old=lists:=hgw.old.trans hgu.old;have hwk:w.k=k+1:=hgw.k.trans hgu.k
  refine⟨_,[_],rfl,zsb,_,rfl,restOf w,rfl,hrest,hwk,last,w.last,hlast,?_,fun x hx hn=>hgw.mem (hin x hx hn),?_⟩
  ·show w.old++[w.last]=lists++[w.last];rw[hwo]
  ·rw[LZ_rest hw.oldl];exact hcl
theorem Sets.cut{g:Gram}{w:List Nat}{L:Nat→List Item}(h:Sets g w L)(j:Nat):Sets g (w.take j) L where
 ok:=fun k hk=>h.ok k (by rw[List.length_take] at hk;omega)
 start:=h.start
 closed:=fun k hk=>h.closed k (by rw[List.length_take] at hk;omega)
 scan:=fun k t hk=>h.scan k t (by
  rw[List.getElem?_take] at hk;split at hk
  ·exact hk
  ·cases hk)
def QP(g:Gram)(w:List Nat):Nat→Item→Prop:=fun k x=>ItemOk g.rules k x∧(k≤w.length→∀L,Sets g (w.take k) L→x∈L k)
theorem QP_inv(g:Gram)(w:List Nat):QInv g (QP g w) where
 ok:=fun _ _ h=>h.1
 predict:=fun k x n i r hx hn hr hl=>⟨⟨r,hr,Nat.zero_le _,Nat.le_refl _⟩,fun hk L hL=>(hL.closed k (by rw[List.length_take];omega) x (hx.2 hk L hL)).1 n i r hn hr hl⟩
 complete:=fun k x y r hx hr hd hy hn=>by
  refine⟨(QI_inv g).complete k x y r hx.1 hr hd hy.1 hn,fun hk L hL=>?_⟩;obtain⟨_,_,_,hf⟩:=hx.1;refine(hL.closed k (by rw[List.length_take];omega) x (hx.2 hk L hL)).2 r hr hd y ?_ hn;refine hy.2 zo L ?_;have:=hL.cut x.frm;rw[List.take_take,show min x.frm k=x.frm by omega] at this;exact this
theorem QP_more{g:Gram}{w:List Nat}{m:Nat}(hm:m=w.length)(t:Nat):∀k x,k≤m→QP g w k x→QP g (w++[t]) k x:=fun k x hk hx=>
 ⟨hx.1,fun _ L hL=>hx.2 zo L (by rw[List.take_append_of_le_length zo] at hL;exact hL)⟩
theorem QP_scan{g:Gram}{w:List Nat}{m:Nat}(hm:m=w.length)(t:Nat):∀x,QP g (w++[t]) m x→nextOf g.rules x=some ⟨true,t⟩→QP g (w++[t]) (m+1) (stepItem x):=fun x hx hn=>by
 subst hm;refine⟨QI_scan g _ t x hx.1 hn,fun hk L hL=>?_⟩;rw[List.take_of_length_le (by simp)] at hL;refine hL.scan w.length t (by simp) x (hx.2 (by simp) L ?_) hn;exact hL.cut _
structure FZ where
 fi:Nat
 ga:Option Addr
 gm:Nat
 gc:Nat
 q:ChP
 s:SSt
 wa:Option Addr
 wn:Nat
 wc:Nat
 BW:List (Nat×Blk)
 w:List Nat
 E:List Bool
def zCells(g:Gram)(f:FZ):List Value:=[.int .i64 g.terms,.int .i64 g.nons,.int .i64 g.start,.slice f.ga f.gm f.gc,.pointer (some ⟨f.q.ic,0,none⟩),.slice f.wa f.wn f.wc]
def zB(g:Gram)(f:FZ):List (Nat×Blk):=(f.fi,.cells false (zCells g f))::(f.BW++shB (trimmed f.E g) f.q f.s)
structure ZOk(g:Gram)(F:Frz)(f:FZ):Prop where
 rules:Arr tRule F f.ga f.gm f.gc g.rules
 ends:EndsIn g f.E
 chart:SOk (trimmed f.E g) (QP (trimmed f.E g) f.w) f.q F f.s
 k:f.s.k=f.w.length
 sets:Sets (trimmed f.E g) f.w (LZ f.s)
 word:GB tNat F f.wa f.wn f.wc f.BW f.w
 ok:∀t∈f.w,t<g.terms
theorem ZOk.mono{g:Gram}{F G:Frz}{f:FZ}(h:ZOk g F f)(hF:Frz.le F G):ZOk g G f:=⟨h.rules.mono hF,h.ends,h.chart.mono hF,h.k,h.sets,h.word.mono hF,h.ok⟩
structure NextZ(g:Gram)(f:FZ)(xs:List Bool):Prop where
 len:xs.length=g.terms+1
 term:∀t,t<g.terms→(xs[t]?=some true↔∃x∈LZ f.s f.s.k,nextOf (trimmed f.E g).rules x=some ⟨true,t⟩)
 done:xs[g.terms]?=some (derives g f.w g.start 0 f.w.length)
theorem zsubW{g:Gram}{f:FZ}:∀z,z∈f.BW→z∈zB g f:=fun z hz=>by unfold zB;simp[hz]
theorem zsubC{g:Gram}{f:FZ}:∀z,z∈shB (trimmed f.E g) f.q f.s→z∈zB g f:=fun z hz=>by unfold zB;simp[hz]
theorem own_zeed(a:Nat×Blk)(BW C:List (Nat×Blk))(own:Own):OwnLe ([a]::BW::C::own) ((a::(BW++C))::own):=OwnLe.flat (List.Perm.of_eq (by simp))
theorem own_zeed'(a:Nat×Blk)(BW C:List (Nat×Blk))(own:Own):OwnLe ((a::(BW++C))::own) ([a]::BW::C::own):=OwnLe.flat (List.Perm.of_eq (by simp))
theorem zNew_spec(F:Frz)(g:Gram)(hg:Valid g){a:Option Addr}{m c:Nat}(hr:Arr tRule F a m c g.rules) :
  Abs.Spec CC 28 [.agg ⟨gramCells g a m c⟩] F [] fun F' v o=>∃B',o=[B']∧∃f,v=.tuple ⟨[.pointer (some ⟨f.fi,0,none⟩),.int .i64 0]⟩∧B'=zB g f∧ZOk g F' f∧f.w=[]:=by
 have hrl:=hr.len;have hgr:=hg.range.rules;have hr4:∀r∈g.rules,r.right.length≤1000000:=fun r h=>by have:=(hg.right r h).2.1;omega
 unfold gramCells;refine Abs.Spec.fn (n:=28) Tryz.func28 rfl rfl fun own=>?_;refine AW.seq (AW.reg ?_);refine WT.boxT Z Z Z Z Z Z (fun i1 hi1=>?_);refine zB4 ?_;refine WT.callF0 Tryz.func58 Z Z Z Z Z Z (uends_spec _ g hg hr) (fun F1 v hF1 hv=>?_);obtain⟨ea,ec,E,rfl,hE,hEi⟩:=hv;have hr1:=hr.mono hF1;refine zB4 ?_;refine WT.allocT hT Z Z Z Z Z Z (fun i4 hi4=>?_);refine zB4 ?_;refine AW.cond Z (fun h=>(by cases h)) (fun _=>?_);refine zB4 ?_;refine WT.callN Tryz.func44 Z Z Z Z Z Z (copy_spec _ g hr1 zo hr4) (fun F2 v B2 hF2 hv=>?_);obtain⟨ca,cc,rfl,hc⟩:=hv;have hr2:=hr1.mono hF2
 have hE2:=hE.mono hF2;unfold gramCells;refine WT.allocT hT Z Z Z Z Z Z (fun i6 hi6=>?_);refine zB6 ?_;refine WT.freezeAll 2 Z Z (fun F3 hF3 hB3=>?_);have hie:=hB3 i4 _ me;have hr3:=hr2.mono hF3;have hE3:=hE2.mono hF3
 refine WT.callF (oin:=[B2]) Tryz.func59 Z Z Z Z Z Z (deleteFunc_spec F3 (hc.mono hF3) zo (fun r=>r.right.any fun y=>!y.term&&!(E.getD y.n false)) (first:=[]) (capt:=[.pointer (some ⟨i4,0,none⟩)]) Tryz.func60 Z (fun G hG r hrg b n d hb=>feed1_spec G (hG _ _ hie) (hE3.mono hG) r (fun y hy=>?_) hb (by have:=hb.len;have:=(hg.right r hrg).2.1;omega))) (List.Perm.swap _ _ _) (fun F4 v oout hF4 hv=>?_)
 ·have:=(hg.right r hrg).2.2 y hy;unfold SymOk at this;cases hty:y.term with
  | true=>exact .inl rfl
  | false=>rw[if_neg (by simp[hty])] at this;rw[hEi.len];exact .inr this
 obtain⟨rfl,xa,xn,xc,rfl,hx⟩:=hv;have hr4':=hr3.mono hF4;refine zB6 ?_;refine AW.draw (ps:=[(2,1)]) Z Z ?_;refine zB6 ?_;refine WT.callN Tryz.func44 Z Z Z Z Z Z (copy_spec _ g hr4' zo hr4) (fun F5 v B5 hF5 hv=>?_);obtain⟨da,dc,rfl,hd⟩:=hv;refine WT.freezeAll 0 Z Z (fun F6 hF6 hB6=>?_);have hd6:=hd.frozen hF6 hB6;have hx6:=(hx.mono hF5).mono hF6;unfold gramCells;refine zB6 ?_
 refine WT.callN Tryz.func62 Z Z Z Z Z Z (cstart_spec F6 (trimmed E g) (trim_right hg E) (trim_len hg E) (QP_inv (trimmed E g) []) (fun i r hr' hl=>⟨⟨r,hr',Nat.zero_le _,Nat.le_refl _⟩,fun _ L hL=>hL.start i r hr' hl⟩) hx6) (fun F7 v B7 hF7 hv=>?_);obtain⟨q,s,rfl,rfl,hs,hk,hin,hcl⟩:=hv;refine zB6 ?_;refine WT.boxT Z Z Z Z Z Z (fun fi hfi=>?_);refine zB6 ?_;refine⟨zrC,?_⟩;have hfew:=hs.few (trim_right hg E) (trim_len hg E) (QP_inv (trimmed E g) [])
 refine AW.le (own2:=zB g ⟨fi,da,m,dc,q,restOf s,none,0,0,[],[],E⟩::s.BX::own) (OwnLe.trans (b:=[(fi,.cells false (zCells g ⟨fi,da,m,dc,q,restOf s,none,0,0,[],[],E⟩))]::cB (trimmed E g) q s::own) (OwnLe.trans (OwnLe.flat (List.Perm.of_eq (by simp[zB]))) (OwnLe.cons _ (own_rest (g:=trimmed E g) (q:=q) (s:=s) own))) (OwnLe.cons _ (OwnLe.cons _ zow))) ?_;refine AW.freezeAll 1 Z Z (fun F8 hF8 hB8=>?_);refine AW.le (own2:=zB g ⟨fi,da,m,dc,q,restOf s,none,0,0,[],[],E⟩::own) (OwnLe.flat (List.Perm.of_eq (by simp))) ?_
 have hls:LZ (restOf s) 0=s.last:=by rw[LZ_rest hs.oldl];unfold LS;rw[if_pos hk.symm]
 refine AW.ret ⟨_,[_],⟨_,_,rfl,⟨_,_,rfl,rfl,rfl⟩,rfl⟩,zsb,_,rfl,⟨fi,da,m,dc,q,restOf s,none,0,0,[],[],E⟩,rfl,rfl,⟨(hd6.mono hF7).mono hF8,hEi,hs.rest zo hF8 hB8,hk,⟨?_,?_,?_,?_⟩,(Bld.nil_ _ _).gb,fun t h=>by cases h⟩,rfl⟩
 ·intro k hk0 x hx;obtain rfl:k=0:=Nat.le_zero.1 hk0;rw[hls] at hx;have:=(hs.qlast x hx).1;rw[hk] at this;exact this
 ·intro i r hr' hl;rw[hls];exact hin i r hr' hl
 ·intro k hk0 x hx;obtain rfl:k=0:=Nat.le_zero.1 hk0;rw[hls] at hx;have:=hcl x hx;rw[hk,←LZ_rest hs.oldl] at this;exact this
 ·intro k t h;simp at h
theorem znextC_spec'(G:Frz)(g:Gram)(hg:Valid g){f:FZ}(h:ZOk g G f)(hB:∀i b,(i,b)∈shB (trimmed f.E g) f.q f.s→G i=some b) :
  Abs.Spec CC 63 [.pointer (some ⟨f.q.ic,0,none⟩)] G [] fun F' v o=>
   ∃B',o=[B']∧∃a' c' xs,v=.slice a' g.terms c'∧Vec tBool F' a' g.terms c' B' xs∧∀t,t<g.terms→(xs[t]?=some true↔∃x∈LZ f.s f.s.k,nextOf (trimmed f.E g).rules x=some ⟨true,t⟩):=by
 have hgt:=hg.range.terms;have hc:=h.chart;have hll:=hc.len;obtain⟨last,hlast⟩:∃l,f.s.lists[f.s.k]?=some l:=⟨_,gE zo⟩;obtain⟨xa,xn,xc,huk,hxa⟩:=hc.olds _ _ hlast;have e:LZ f.s f.s.k=last:=by unfold LZ;rw[List.getD_eq_getElem?_getD,hlast];rfl
 rw[e];exact cnextA_spec G (trimmed f.E g) (trim_right hg _) (by show g.terms≤1000;omega) (trim_sym hg _) (hB _ _ me) hc.rules (hc.list.arr (Frz.le.refl G) (fun i b hb=>hB i b (List.mem_cons_of_mem _ (List.mem_append_right _ hb)))) huk hxa (fun x hx=>(hc.all _ _ hlast x hx).1) (hc.olen _ _ hlast) hc.small
theorem znextC_spec(G:Frz)(g:Gram)(hg:Valid g){f:FZ}(h:ZOk g G f)(hB:∀i b,(i,b)∈zB g f→G i=some b) :
  Abs.Spec CC 63 [.pointer (some ⟨f.q.ic,0,none⟩)] G [] fun F' v o=>
   ∃B',o=[B']∧∃a' c' xs,v=.slice a' g.terms c'∧Vec tBool F' a' g.terms c' B' xs∧∀t,t<g.terms→(xs[t]?=some true↔∃x∈LZ f.s f.s.k,nextOf (trimmed f.E g).rules x=some ⟨true,t⟩):=
 znextC_spec' G g hg h fun i b hb=>hB i b (zsubC _ hb)
theorem zNext_spec(G:Frz)(hL:Laid G)(g:Gram)(hg:Valid g){f:FZ}(h:ZOk g G f)(hw:f.w.length≤12)(hB:∀i b,(i,b)∈zB g f→G i=some b) :
  Abs.Spec CC 30 [.pointer (some ⟨f.fi,0,none⟩)] G [] fun F' v o=>∃B',o=[B']∧∃a' c' xs,v=.slice a' (g.terms+1) c'∧Vec tBool F' a' (g.terms+1) c' B' xs∧NextZ g f xs:=by
 have hfi:G f.fi=some (.cells false [.int .i64 g.terms,.int .i64 g.nons,.int .i64 g.start,.slice f.ga f.gm f.gc,.pointer (some ⟨f.q.ic,0,none⟩),.slice f.wa f.wn f.wc]):=hB _ _ me;have hgt:=hg.range.terms;have hgn:=hg.range.nons;have hgs:=hg.range.start;have hwa:=h.word.arr (Frz.le.refl G) (fun i b hb=>hB i b (zsubW _ hb));have hwl:=hwa.len;refine Abs.Spec.fn (n:=36) Tryz.func30 rfl rfl fun own=>?_;refine zB4 ?_;refine AW.draw (ps:=[(8,4),(12,4),(18,4),(18,13),(26,4),(26,13),(27,4),(27,13)]) Z Z ?_;refine zB4 ?_
 refine WT.callN Tryz.func63 Z Z Z Z Z Z (znextC_spec G g hg h hB) (fun F1 v B1 hF1 hv=>?_);obtain⟨na,nc,xs,rfl,hv,hxs⟩:=hv;have hfi1:=hF1 _ _ hfi;have hL1:=hL.mono hF1;have hwa1:=hwa.mono hF1;refine zB4 ?_;refine WT.callF0 Tryz.func38 Z Z Z Z Z Z (ends_spec F1 hL1 g hg (h.rules.mono hF1) hwa1 zo) (fun F2 v hF2 hv2=>?_);obtain⟨ea,ec,E,rfl,hE,hE2⟩:=hv2;have hfi2:=hF2 _ _ hfi1;have hElen:=hE2.ok.size;refine zB4 ?_;refine WT.idxL hT hE Z Z Z Z Z Z Z Z Z zo (fun row hrow b1 off ro cs lx hb1 hp1 hrel=>?_);obtain⟨a2,n2,c2,rfl,hrow2⟩:=hrel;have hrl:=hE2.ok.row row (gM hrow);refine zB4 ?_
 refine WT.idxL (j:=0) hT hrow2 Z Z Z Z Z Z Z Z Z zo (fun x hx b3 off3 ro3 cs3 lx3 hb3 hp3 hrel3=>?_);obtain rfl:lx3=_:=hrel3;have hxb:=hE2.ok.bit row (gM hrow) x (gM hx);have pwl:2 ^ (f.w.length+1)≤4294967296:=Nat.pow_le_pow_right (j:=32) (by decide) zo;have e:derives g f.w g.start 0 f.w.length=x.testBit f.wn:=by
  rw[Bool.eq_iff_iff,derives_iff,←hE2.iff _ _ _ (Nat.zero_le _),←hwl];constructor
  ·rintro⟨row',x',h3,h4,h5⟩;rw[hrow] at h3;cases h3;rw[hx] at h4;cases h4;exact h5
  ·intro hb;exact⟨row,x,hrow,hx,hb⟩
 have e2:(((x / 2 ^ f.wn &&& 1:Nat):Int)==1)=derives g f.w g.start 0 f.w.length:=by
  rw[shift_bit,e];cases x.testBit f.wn<;>rfl
 refine zB4 ?_;refine WT.shr32 (x:=x) (y:=f.wn) Z Z Z Z Z Z zo ?_;refine WT.and32 (x:=x / 2 ^ f.wn) (y:=1) Z Z Z Z Z Z (Nat.lt_of_le_of_lt (Nat.div_le_self _ _) zo) (by decide) ?_;have hxne:xs≠[]:=by
  intro e;subst e;have h1:=hv.len;have h2:(trimmed f.E g).terms=g.terms:=rfl;simp at h1;omega
 have hvb:=(hv.mono hF2).bld hxne;have hxl:xs.length=g.terms:=hv.len.symm;refine zB4 ?_;refine WT.buildT hT Z Z Z Z Z Z Z Z Z Z Z Z Z Z (fun i9 hi9=>?_);refine WT.appendT (ys:=[((x / 2 ^ f.wn &&& 1:Nat):Int)==1]) hT 1 hvb Z (fun _=>rfl) Z Z Z Z Z Z Z Z Z Z Z (fun h0 s0=>news_own hT s0 0 Z Z Z Z) (Cells.single (R:=tBool) (x:=(((x / 2 ^ f.wn &&& 1:Nat):Int)==1)) rfl) Z (by decide) (by show (g.terms+1)*1≤_;omega) (fun a3 c3 B3 hB3=>?_);refine zB4 ?_;refine⟨zrC,?_⟩;refine AW.ret ⟨_,[_],⟨_,_,rfl,rfl,rfl⟩,zsb,_,rfl,a3,c3,_,rfl,hB3.vec,⟨?_,fun t ht=>?_,?_⟩⟩
 ·simp[hxl]
 ·rw[List.getElem?_append_left zo];exact hxs t ht
 ·rw[List.getElem?_append_right zo,hxl,Nat.sub_self];exact congrArg some e2
theorem sets_putZ{g:Gram}{w:List Nat}{t:Nat}{s s':SSt}{last new:List Item}(h:Sets g w (LZ s))(hw:s.k=w.length)(hk:s'.k=s.k+1)(hlen:s.lists.length=s.k+1)(hlast:s.lists[s.k]?=some last)(ho:s'.lists=s.lists++[new])
  (hok:∀x∈new,ItemOk g.rules (s.k+1) x) (hsc:∀x∈last,nextOf g.rules x=some ⟨true,t⟩→stepItem x∈new) (hcl:∀x∈new,ItemClosed g.rules (LZ s') s'.k x):Sets g (w++[t]) (LZ s'):=by
 have hL:∀j,j≤s.k→LZ s' j=LZ s j:=fun j hj=>by
  unfold LZ;rw[ho,List.getD_eq_getElem?_getD,List.getD_eq_getElem?_getD,List.getElem?_append_left zo]
 have hN:LZ s' (s.k+1)=new:=by
  unfold LZ;rw[ho,List.getD_eq_getElem?_getD,List.getElem?_append_right zo,show s.k+1-s.lists.length=0 by omega];rfl
 have hS:LZ s s.k=last:=by unfold LZ;rw[List.getD_eq_getElem?_getD,hlast];rfl
 refine⟨fun k hk1 x hx=>?_,fun i r hr hl=>?_,fun k hk1 x hx=>?_,fun k t' ht x hx hn=>?_⟩
 ·simp only[List.length_append,List.length_singleton] at hk1;rcases Nat.lt_or_ge k (s.k+1) with h1 | h1
  ·rw[hL k zo] at hx;exact h.ok k zo x hx
  ·obtain rfl:k=s.k+1:=by omega
   rw[hN] at hx;exact hok x hx
 ·rw[hL 0 (Nat.zero_le _)];exact h.start i r hr hl
 ·simp only[List.length_append,List.length_singleton] at hk1;rcases Nat.lt_or_ge k (s.k+1) with h1 | h1
  ·rw[hL k zo] at hx;obtain⟨c1,c2⟩:=h.closed k zo x hx;obtain⟨_,_,_,hf⟩:=h.ok k zo x hx;refine⟨fun n i r hn hr hl=>?_,fun r hr hd y hy hn=>?_⟩
   ·rw[hL k zo];exact c1 n i r hn hr hl
   ·rw[hL x.frm zo] at hy;rw[hL k zo];exact c2 r hr hd y hy hn
  ·obtain rfl:k=s.k+1:=by omega
   rw[hN] at hx;have:=hcl x hx;rw[hk] at this;exact this
 ·rcases Nat.lt_or_ge k w.length with h1 | h1
  ·rw[List.getElem?_append_left h1] at ht;rw[hL k zo] at hx;have h2:=h.scan k t' ht x hx hn;rw[hL (k+1) zo];exact h2
  ·rw[List.getElem?_append_right h1] at ht;have:=(gS ht).1;simp at this;have e:k=s.k:=by omega
   subst e;rw[hw,Nat.sub_self] at ht;obtain rfl:t=t':=by simpa using ht
   rw[hL _ (Nat.le_refl _),hS] at hx;rw[hN];exact hsc x hx hn
theorem zPut_spec(F:Frz)(g:Gram)(hg:Valid g){f:FZ}(h:ZOk g F f)(hw:f.w.length<12)(t:Nat)(ht:t<g.terms) :
  Abs.Spec CC 29 [.pointer (some ⟨f.fi,0,none⟩),.int .i64 t] F [zB g f] fun F' v o=>∃B',o=[B']∧∃f',B'=zB g f'∧ZOk g F' f'∧f'.fi=f.fi∧f'.E=f.E∧
   (((∃x∈LZ f.s f.s.k,nextOf (trimmed f.E g).rules x=some ⟨true,t⟩)∧v=.int .i64 0∧f'.w=f.w++[t])∨((¬∃x∈LZ f.s f.s.k,nextOf (trimmed f.E g).rules x=some ⟨true,t⟩)∧v=.int .i64 10∧f'.w=f.w)):=by
 have hgt:=hg.range.terms;have hwl:=h.word.len;have hk:=h.k;refine Abs.Spec.fn (n:=47) Tryz.func29 rfl rfl fun own=>?_;refine AW.le (own_zeed _ _ _ _) ?_;refine zB4 ?_;refine AW.cond Z (fun h=>(by simp at h;omega)) (fun _=>?_);refine zB4 ?_;refine AW.cond Z (fun h=>(by simp at h;omega)) (fun _=>?_);refine zB4 ?_
 refine WT.callLendN (P:=fun v B'=>∃a' c' xs,v=.slice a' g.terms c'∧Vec tBool F a' g.terms c' B' xs∧∀t,t<g.terms→(xs[t]?=some true↔∃x∈LZ f.s f.s.k,nextOf (trimmed f.E g).rules x=some ⟨true,t⟩)) 2 Tryz.func63 Z Z Z Z Z Z Z (fun G hG hBG=>Spec.mono (znextC_spec' G g hg (h.mono hG) hBG) (fun F' v o _ hv=>by
  obtain⟨B',e,a2,c2,xs,e2,hv,hx⟩:=hv;exact⟨B',e,a2,c2,xs,e2,Vec.boolAny hv,hx⟩)) (fun v BN hv=>?_)
 obtain⟨na,nc,xs,rfl,hv,hxs⟩:=hv;have hxl:xs.length=g.terms:=hv.len.symm;obtain⟨z,hz⟩:∃z,xs[t]?=some z:=⟨_,gE zo⟩;refine zB4 ?_;refine WT.vidx hT hv Z Z Z Z Z Z Z Z Z ht (fun b5 hb5=>?_);refine WT.vld1 hT 0 hv hb5 hz Z Z Z Z Z Z Z Z Z (fun l h=>h) ?_;refine zB4 ?_;refine AW.cond Z (fun hc=>?_) (fun hc=>?_)
 ·have hc:z=false:=by simpa using hc
  have hno:¬∃x∈LZ f.s f.s.k,nextOf (trimmed f.E g).rules x=some ⟨true,t⟩:=by
   rw[←hxs t ht,hz,hc];simp
  refine zB4 ?_;refine AW.le (OwnLe.skip _ (own_zeed' _ _ _ _)) ?_;exact AW.ret ⟨_,[_],⟨_,_,rfl,rfl,rfl⟩,zsb,_,rfl,f,rfl,h,rfl,rfl,.inr ⟨hno,rfl,rfl⟩⟩
 ·have hc:z=true:=by simpa using hc
  have hyes:∃x∈LZ f.s f.s.k,nextOf (trimmed f.E g).rules x=some ⟨true,t⟩:=by
   rw[←hxs t ht,hz,hc]
  refine zB4 ?_;refine WT.call1F 3 Tryz.func64 Z Z Z Z Z Z Z (fun _=>rfl) (cputS_spec F (trimmed f.E g) (trim_right hg _) (trim_len hg _) (QP_inv _ (f.w++[t])) (h.chart.weaken (QP_more hk t)) zo t (QP_scan hk t)) (fun F1 v B1 hF1 hv1=>?_);obtain⟨s',rfl,hs',hk',last,new,hlast,hold,hsc,hcl⟩:=hv1;refine zB4 ?_;refine WT.buildT hT Z Z Z Z Z Z Z Z Z Z Z Z Z Z (fun i43 hi43=>?_);refine WT.appendG (ys:=[t]) hT 3 (h.word.mono hF1) Z (fun _=>rfl) Z Z Z Z Z Z Z Z Z Z Z (fun h0 s0=>news_own hT s0 0 Z Z Z Z) (Cells.single (R:=tNat) (x:=t) rfl) Z (by decide) zom (fun wa' wc' BW' hBW'=>?_);refine zB4 ?_
  refine AW.le (OwnLe.skip _ (OwnLe.skip _ (own_zeed' _ _ _ _))) ?_;refine AW.ret ⟨_,[_],⟨_,_,rfl,rfl,rfl⟩,zsb,_,rfl,{ f with s:=s',wa:=wa',wn:=f.wn+1,wc:=wc',BW:=BW',w:=f.w++[t] },rfl,⟨h.rules.mono hF1,h.ends,hs',?_,?_,hBW'.gb,?_⟩,rfl,rfl,.inl ⟨hyes,rfl,rfl⟩⟩
  ·show s'.k=(f.w++[t]).length;rw[hk',hk];simp
  ·exact sets_putZ h.sets hk hk' h.chart.len hlast hold (fun x hx=>(hs'.all _ _ (by rw[hold,List.getElem?_append_right (by have:=h.chart.len;omega),show f.s.k+1-f.s.lists.length=0 by have:=h.chart.len;omega];rfl) x hx).1) hsc hcl
  ·intro t' ht';rcases List.mem_append.1 ht' with h1 | h1
   ·exact h.ok t' h1
   ·simp at h1;subst h1;exact ht
end Go.Proofs.D