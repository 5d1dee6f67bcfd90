/-
  Walks: what functions of the program do, over the abstract machine.
-/
import Derived.Test.YtnbhiijpjbnfaaaGreatDoorWk3
set_option linter.unusedVariables false
set_option maxRecDepth 20000
set_option maxHeartbeats 0
open Go Go.Abs Go.Proofs Go.Proofs.D
namespace Go.Proofs.D
def tConf:Ty (Nat×Nat×List (Nat×Nat)) where
 size:=3
 rel:=fun F l x=>∃a n c,l=[.int .i64 x.1,.int .i64 x.2.1,.slice a n c]∧Arr tAct F a n c x.2.2
 len:=fun _ _ _ h=>by obtain⟨a,n,c,rfl,_⟩:=h;rfl
 one:=fun _ _ _ h=>by obtain⟨a,n,c,rfl,_⟩:=h;rfl
 mono:=fun _ _ _ _ hF h=>by obtain⟨a,n,c,e,h⟩:=h;exact⟨a,n,c,e,h.mono hF⟩
def headA(l:List (Nat×Nat)):Nat×Nat:=l.head?.getD (0,0)
def confsTo(all:List (List (List (Nat×Nat))))(j:Nat):List (Nat×Nat×List (Nat×Nat)):=((List.range j).map fun s=>confRow s (all.getD s []) (all.getD s []).length).flatten
theorem confRow_succ(s:Nat)(row:List (List (Nat×Nat)))(k:Nat):confRow s row (k+1)=confRow s row k++(if 1<(row.getD k []).length then [(s,k,row.getD k [])] else []):=by
 unfold confRow;rw[List.range_succ,List.filterMap_append];congr 1;rw[List.filterMap_cons];split
 ·rename_i h;split at h
  ·cases h
  ·rw[if_neg (by assumption)];rfl
 ·rename_i b h;split at h
  ·obtain rfl:=Option.some.inj h;rw[if_pos (by assumption)];rfl
  ·cases h
theorem confRow_few(s:Nat)(row:List (List (Nat×Nat)))(k:Nat):(confRow s row k).length≤k:=by
 unfold confRow;exact Nat.le_trans (List.length_filterMap_le _ _) (by rw[List.length_range];exact Nat.le_refl _)
theorem confsTo_succ(all:List (List (List (Nat×Nat))))(j:Nat):confsTo all (j+1)=confsTo all j++confRow j (all.getD j []) (all.getD j []).length:=by
 unfold confsTo;rw[List.range_succ,List.map_append,List.flatten_append];simp
theorem confsTo_few(all:List (List (List (Nat×Nat))))(hall:∀r∈all,r.length≤6):∀j,(confsTo all j).length≤j*6
 | 0=>Nat.zero_le _
 | j+1=>by
  rw[confsTo_succ,List.length_append,Nat.succ_mul];have h1:=confsTo_few all hall j;have h2:=confRow_few j (all.getD j []) (all.getD j []).length;have h3:(all.getD j []).length≤6:=by
   rw[List.getD_eq_getElem?_getD];cases hx:all[j]? with
   | none=>exact Nat.zero_le _
   | some r=>exact hall r (gM hx)
  omega
def TabV(F:Frz)(method:Nat)(T:Tab)(v:Value):Prop:=∃a1 n1 c1 a2 n2 c2 a3 n3 c3,v=.agg ⟨[.int .i64 method,.slice a1 n1 c1,.slice a2 n2 c2,.slice a3 n3 c3]⟩∧
 Arr (tList tAct) F a1 n1 c1 T.act∧Arr (tList tInt) F a2 n2 c2 T.go∧Arr tConf F a3 n3 c3 T.conf
theorem TabV.mono{F G:Frz}{method:Nat}{T:Tab}{v:Value}(h:TabV F method T v)(hF:Frz.le F G):TabV G method T v:=by
 obtain⟨a1,n1,c1,a2,n2,c2,a3,n3,c3,e,h1,h2,h3⟩:=h;exact⟨a1,n1,c1,a2,n2,c2,a3,n3,c3,e,h1.mono hF,h2.mono hF,h3.mono hF⟩
theorem of_spec(F:Frz)(g:Gram)(hg:Valid g)(ht5:g.terms≤5)(method:Nat)(hm:method=1∨method=2∨method=3){a:Option Addr}{m c:Nat}(hr:Arr tRule F a m c g.rules) :
  Abs.Spec CC 8 [.agg ⟨gramCells g a m c⟩,.int .i64 method] F [] fun F' v o=>o=[]∧((tableF g method=none∧v=.tuple ⟨[.agg ⟨[.int .i64 0,.slice none 0 0,.slice none 0 0,.slice none 0 0]⟩,.int .i64 2]⟩)∨
   ∃T x,tableF g method=some T∧v=.tuple ⟨[x,.int .i64 0]⟩∧TabV F' method T x):=by
 have hrl:=hr.len;have hmb:method≤3:=by omega
 unfold gramCells;refine Abs.Spec.fn (n:=76) Tryz.func8 rfl rfl fun own=>?_;refine AW.seq (AW.reg ?_);refine WT.boxT Z Z Z Z Z Z (fun i2 hi2=>?_);refine WT.freezeAll 0 Z Z (fun F0 hF0 hB0=>?_);have hi2:=hB0 i2 _ me;have hr:=hr.mono hF0;refine WT.allocT hT Z Z Z Z Z Z (fun i4 hi4=>?_);refine zC4 ?_;have hal:=all_spec F0 g hg ht5 method hm hr;unfold gramCells at hal;refine WT.callF0 Tryz.func20 Z Z Z Z Z Z hal (fun F1 v hF1 hv=>?_);rcases hv with ⟨hst,rfl⟩ | ⟨S,rows,a1,n1,c1,a2,n2,c2,hst,rfl,h1,h2⟩
 ·refine zC4 ?_;refine AW.cond Z (fun _=>?_) (fun h=>(by cases h));refine zC4 ?_;refine AW.ret ⟨_,[],⟨_,_,⟨_,rfl,fun G h0 s0=>loadA_cells (s0.has (p:=0) Z me) (readT_ok hT rfl)⟩,⟨_,_,rfl,rfl,rfl⟩,rfl⟩,zsb,rfl,.inl ⟨by unfold tableF;rw[hst];rfl,rfl⟩⟩
 ·refine zC4 ?_;refine AW.cond Z (fun h=>(by cases h)) (fun _=>?_);refine zC4 ?_;refine WT.allocT hT Z Z Z Z Z Z (fun i9 hi9=>?_);refine zC4 ?_;have hfew:=autoK_few hst;have hall6:∀r∈allF g S rows,r.length≤6:=fun r hr=>by
   unfold allF at hr;obtain⟨s,_,rfl⟩:=List.mem_map.1 hr;simp only[List.length_map,List.length_range];omega
  have halen:(allF g S rows).length≤400:=by unfold allF;simpa using hfew
  have hsm:∀r∈allF g S rows,∀l∈r,l.length≤1001:=fun r hr l hl=>by
   unfold allF at hr;obtain⟨s,hs,rfl⟩:=List.mem_map.1 hr;obtain⟨t,_,rfl⟩:=List.mem_map.1 hl;have hs:=List.mem_range.1 hs;have h1:=(statesF_PK hg hst (S.getD s []) (by rw[getD_some (gE hs)];exact List.getElem_mem hs)).1;have h2:=actPre_len (g:=g) (row:=rows.getD s []) (t:=t);have h3:=List.length_filterMap_le (actOne g t) (S.getD s []);rw[actsF_eq,List.length_append];omega
  have hT2:tableF g method=some (tabF (allF g S rows) (rows.map (·.drop g.terms))):=by unfold tableF;rw[hst];rfl
  generalize allF g S rows=all at h1 hall6 halen hsm hT2;have hn1:=h1.len;refine AW.range (S:=AlS) (fun s=>[]) (fun s=>[(i9,.cells false [.int .i64 method,.slice s.a s.m s.c,.slice a2 n2 c2,.slice s.a2 s.m2 s.c2])]::s.B::s.B2::[(i4,.cells false [.int .i64 0,.slice none 0 0,.slice none 0 0,.slice none 0 0])]::[]::own) (fun j s G=>Bld (tList tAct) G s.a s.m s.c s.B ((all.take j).map (·.map headA))∧Bld tConf G s.a2 s.m2 s.c2 s.B2 (confsTo all j)) n1 ⟨none,0,0,[],none,0,0,[]⟩
   Z Z Z Z Z Z Z Z Z zo rfl rfl (fun _=>rfl) (fun _=>rfl) sM (OwnLe.flat (List.Perm.refl _)) ⟨Bld.nil_ _ _,Bld.nil_ _ _⟩ ?_ ?_
  ·intro j s F2 hF2 hj hP;obtain⟨hb,hb2⟩:=hP;have h12:=h1.mono hF2;have hbl:=hb.len;rw[List.length_map,List.length_take] at hbl;refine zC4 ?_;refine WT.idxL hT h12 Z Z Z Z Z Z Z Z Z zo (fun row hrj b1 off1 ro1 cs1 lx1 hb1 hp1 hrel1=>?_);obtain⟨ra,rn,rc,rfl,hrow⟩:=hrel1;have hrl:=hrow.len;have hr6:=hall6 row (gM hrj);have hrs:=hsm row (gM hrj);have hcf:=confsTo_few all hall6 j;have hgd:all.getD j []=row:=getD_some hrj;refine zC4 ?_
   refine AW.range (S:=AlS) (fun u=>[(12,.slice u.a u.m u.c)]) (fun u=>u.B::[(i9,.cells false [.int .i64 method,.slice s.a s.m s.c,.slice a2 n2 c2,.slice u.a2 u.m2 u.c2])]::s.B::u.B2::[(i4,.cells false [.int .i64 0,.slice none 0 0,.slice none 0 0,.slice none 0 0])]::[]::own) (fun k u G=>Bld tAct G u.a u.m u.c u.B ((row.take k).map headA)∧Bld tConf G u.a2 u.m2 u.c2 u.B2 (confsTo all j++confRow j row k)) rn ⟨none,0,0,[],s.a2,s.m2,s.c2,s.B2⟩
    Z Z Z Z Z Z Z Z Z zo rfl rfl (fun _=>rfl) (fun _=>rfl) sM (OwnLe.flat (List.Perm.refl _)) ⟨Bld.nil_ _ _,by rw[show confRow j row 0=[] from rfl,List.append_nil];exact hb2⟩ ?_ ?_
   ·intro k u F3 hF3 hk hP;obtain⟨hu,hu2⟩:=hP;have hrow3:=hrow.mono hF3;have hul:=hu.len;have hul2:=hu2.len;have hcr:=confRow_few j row k;rw[List.length_map,List.length_take] at hul;rw[List.length_append] at hul2;refine zC4 ?_;refine WT.idxL hT hrow3 Z Z Z Z Z Z Z Z Z zo (fun l hlk b2 off2 ro2 cs2 lx2 hb2 hp2 hrel2=>?_);obtain⟨la,ln,lc,rfl,hl⟩:=hrel2;have hll:=hl.len;have hl1:=hrs l (gM hlk);have htk:(row.take (k+1)).map headA=(row.take k).map headA++[headA l]:=by rw[List.take_add_one,hlk,List.map_append];rfl
    have hgk:row.getD k []=l:=getD_some hlk;refine zC4 ?_;refine WT.allocT hT Z Z Z Z Z Z (fun i15 hi15=>?_);refine zC4 ?_;refine AW.jnT (S:=Unit) (fun _=>[]) (fun _=>[(i15,.cells false [.int .i64 (headA l).1,.int .i64 (headA l).2])]::u.B::[(i9,.cells false [.int .i64 method,.slice s.a s.m s.c,.slice a2 n2 c2,.slice u.a2 u.m2 u.c2])]::s.B::u.B2::[(i4,.cells false [.int .i64 0,.slice none 0 0,.slice none 0 0,.slice none 0 0])]::[]::own) (fun _ _=>True) ?_ (fun _ F4 hF4 _=>?_)
    ·refine AW.cond Z (fun h=>?_) (fun h=>?_)
     ·have h:0<ln:=by simp at h;omega
      refine zC4 ?_;refine WT.idxL (j:=0) hT hl Z Z Z Z Z Z Z Z Z zo (fun p hp0 b3 off3 ro3 cs3 lx3 hb3 hp3 hrel3=>?_);obtain rfl:lx3=_:=hrel3;have hhp:headA l=p:=by unfold headA;rw[List.head?_eq_getElem?,hp0];rfl
      refine zC4 ?_;rw[hhp];exact⟨(),sM,zow,trivial⟩
     ·have h:ln=0:=by simp at h;omega
      have hhp:headA l=(0,0):=by
       obtain rfl:l=[]:=List.eq_nil_of_length_eq_zero zo;rfl
      refine zC4 ?_;rw[hhp];exact⟨(),sM,zow,trivial⟩
    ·have hl4:=hl.mono hF4;refine zC4 ?_;refine WT.buildT hT Z Z Z Z Z Z Z Z Z Z Z Z Z Z (fun i33 hi33=>?_);refine WT.appendT (R:=tAct) (ys:=[headA l]) hT 2 (hu.mono hF4) Z (fun _=>rfl) Z Z Z Z Z Z Z Z Z Z Z (fun h0 s0=>news_own hT s0 0 Z Z Z Z) (Cells.single (R:=tAct) (x:=headA l) rfl) Z (by decide) zom (fun a3 c3 B3 hB3=>?_);refine zC4 ?_;refine AW.cond Z (fun h=>?_) (fun h=>?_)
     ·have h:1<ln:=by simp at h;omega
      have hcs:confRow j row (k+1)=confRow j row k++[(j,k,l)]:=by rw[confRow_succ,hgk,if_pos zo]
      refine zC4 ?_;refine WT.buildT hT Z Z Z Z Z Z Z Z Z Z Z Z Z Z (fun i34 hi34=>?_);refine WT.appendT (R:=tConf) (ys:=[(j,k,l)]) hT 6 (hu2.mono hF4) Z (fun _=>rfl) Z Z Z Z Z Z Z Z Z Z Z (fun h0 s0=>news_own hT s0 0 Z Z Z Z) (Cells.single (R:=tConf) (x:=(j,k,l)) ⟨_,_,_,rfl,hl4⟩) Z (by decide) zom (fun a4 c4 B4 hB4=>?_);refine zC8 ?_;refine⟨⟨a3,u.m+1,c3,B3,a4,u.m2+1,c4,B4⟩,sM,zow,?_,?_⟩
      ·dsimp only;rw[htk];exact hB3
      ·dsimp only;rw[hcs,←List.append_assoc];exact hB4
     ·have h:ln≤1:=by simp at h;omega
      have hcs:confRow j row (k+1)=confRow j row k:=by rw[confRow_succ,hgk,if_neg zo,List.append_nil]
      refine zC4 ?_;refine⟨⟨a3,u.m+1,c3,B3,u.a2,u.m2,u.c2,u.B2⟩,sM,zow,?_,?_⟩
      ·dsimp only;rw[htk];exact hB3
      ·dsimp only;rw[hcs];exact hu2.mono hF4
   ·intro u F3 hF3 hP;obtain⟨hu,hu2⟩:=hP;rw[List.take_of_length_le zo] at hu;have hul:=hu.len;have hu2l:=hu2.len;have hcr:=confRow_few j row rn;rw[List.length_append] at hu2l;refine AW.freezeAll 0 Z Z (fun F4 hF4 hB4=>?_);have hrow4:=hu.frozen hF4 hB4;have htk:(all.take (j+1)).map (·.map headA)=(all.take j).map (·.map headA)++[row.map headA]:=by rw[List.take_add_one,hrj,List.map_append];rfl
    have hct:confsTo all (j+1)=confsTo all j++confRow j row rn:=by rw[confsTo_succ,hgd,hrl]
    refine zC8 ?_;refine WT.buildT hT Z Z Z Z Z Z Z Z Z Z Z Z Z Z (fun i35 hi35=>?_);refine WT.appendT (R:=tList tAct) (ys:=[row.map headA]) hT 3 ((hb.mono hF3).mono hF4) Z (fun _=>rfl) Z Z Z Z Z Z Z Z Z Z Z (fun h0 s0=>news_own hT s0 0 Z Z Z Z) (Cells.single (R:=tList tAct) (x:=row.map headA) ⟨_,_,_,rfl,hrow4⟩) Z (by decide) zom (fun a5 c5 B5 hB5=>?_);refine zC8 ?_;refine⟨⟨a5,s.m+1,c5,B5,u.a2,u.m2,u.c2,u.B2⟩,sM,zow,?_,?_⟩
    ·dsimp only;rw[htk];exact hB5
    ·dsimp only;rw[hct];exact hu2.mono hF4
  ·intro s F2 hF2 hP;obtain⟨hb,hb2⟩:=hP;rw[List.take_of_length_le zo] at hb;refine AW.freezeAll 1 Z Z (fun F3 hF3 hB3=>?_);have g1:=hb.frozen hF3 hB3;refine AW.freezeAll 2 Z Z (fun F4 hF4 hB4=>?_);have g2:=(hb2.mono hF3).frozen hF4 hB4;refine zC8 ?_;refine AW.ret ⟨_,[],⟨_,_,⟨_,rfl,fun G h0 s0=>loadA_cells (s0.has (p:=3) Z me) (readT_ok hT rfl)⟩,⟨_,_,rfl,rfl,rfl⟩,rfl⟩,zsb,rfl,.inr ⟨_,_,hT2,rfl,_,_,_,_,_,_,_,_,_,rfl,g1.mono hF4,((h2.mono hF2).mono hF3).mono hF4,?_⟩⟩;have e:n1=all.length:=hn1;rw[e] at g2;exact g2
theorem shE5{p:Prop} (h:p:=by
 have hxlen:=hx.len;have hylen:=hy.len;refine zB4 ?_;refine AW.cond Z (fun hc=>(by simp at hc;omega)) (fun hc=>?_);refine zB4 ?_;refine AW.range (S:=Unit) (fun _=>[]) (fun _=>_) (fun j _ G=>True) m () Z Z Z Z Z Z Z Z Z zo Z Z (fun _=>rfl) (fun _=>rfl) sM oR trivial ?_ ?_
 ·intro j _ F1 hF1 hj _;have hx1:=hx.mono hF1;have hy1:=hy.mono hF1;refine zB4 ?_;refine WT.idxL hT hx1 Z Z Z Z Z Z Z Z Z zo (fun x hxj b1 off ro cs lx hb hp1 hrel=>?_);obtain rfl:lx=_:=hrel;refine zB4 ?_;refine WT.idxL hT hy1 Z Z Z Z Z Z Z Z Z zo (fun y hyj b2 off2 ro2 cs2 ly hb2 hp2 hrel2=>?_);obtain rfl:ly=_:=hrel2;obtain rfl:x=y:=by rw[hxj] at hyj;exact Option.some.inj hyj
  refine zB4 ?_;refine AW.cond Z (fun hc=>?_) (fun hc=>?_)
  ·exfalso;simp at hc
  ·refine zB4 ?_;exact⟨(),sM,zow,trivial⟩
 ·intro _ F1 hF1 _;refine zB4 ?_;exact AW.ret ⟨_,[],⟨_,_,rfl,rfl,rfl⟩,zsb,rfl,rfl⟩):p:=h
theorem actEqual_spec(F:Frz){a b:Option Addr}{m n c d:Nat}{xs:List (Nat×Nat)}(hx:Arr tAct F a m c xs)(hy:Arr tAct F b n d xs)(hm:m≤1000000) :
  Abs.Spec CC 97 [.slice a m c,.slice b n d] F [] fun _ v o=>o=[]∧v=.bool true:=by
 refine Abs.Spec.fn (n:=26) Tryz.func97 rfl rfl fun own=>?_;exact shE5
theorem actFn_spec(F:Frz){a b:Option Addr}{m n c d:Nat}{xs:List (Nat×Nat)}(hx:Arr tAct F a m c xs)(hy:Arr tAct F b n d xs)(hm:m≤1000000) :
  Abs.Spec CC 96 [.slice a m c,.slice b n d] F [] fun _ v o=>o=[]∧v=.bool true:=by
 refine Abs.Spec.fn (n:=8) Tryz.func96 rfl rfl fun own=>?_;refine zB4 ?_;refine WT.callV Tryz.func97 Z Z Z Z Z Z (actEqual_spec _ hx hy hm) (fun v hv=>?_);subst hv;refine zB4 ?_;exact AW.ret ⟨_,[],⟨_,_,rfl,rfl,rfl⟩,zsb,rfl,rfl⟩
theorem actRows_spec(F:Frz){a b:Option Addr}{m n c d:Nat}{xs:List (List (Nat×Nat))}(hx:Arr (tList tAct) F a m c xs)(hy:Arr (tList tAct) F b n d xs)(hm:m≤1000000)(hl:∀l∈xs,l.length≤1000000) :
  Abs.Spec CC 95 [.slice a m c,.slice b n d,.func (.func 96) ⟨[]⟩ ⟨[]⟩] F [] fun _ v o=>o=[]∧v=.bool true:=by
 refine Abs.Spec.fn (n:=32) Tryz.func95 rfl rfl fun own=>?_;have hxlen:=hx.len;have hylen:=hy.len;refine zB4 ?_;refine AW.cond Z (fun hc=>(by simp at hc;omega)) (fun hc=>?_);refine zB4 ?_;refine AW.range (S:=Unit) (fun _=>[]) (fun _=>_) (fun j _ G=>True) m () Z Z Z Z Z Z Z Z Z zo Z Z (fun _=>rfl) (fun _=>rfl) sM oR trivial ?_ ?_
 ·intro j _ F1 hF1 hj _;have hx1:=hx.mono hF1;have hy1:=hy.mono hF1;refine zB4 ?_;refine WT.idxL hT hx1 Z Z Z Z Z Z Z Z Z zo (fun x hxj b1 off ro cs lx hb hp1 hrel=>?_);obtain⟨xa,xn,xc,rfl,hxx⟩:=hrel;refine zB4 ?_;refine WT.idxL hT hy1 Z Z Z Z Z Z Z Z Z zo (fun y hyj b2 off2 ro2 cs2 ly hb2 hp2 hrel2=>?_);obtain⟨ya,yn,yc,rfl,hyy⟩:=hrel2;obtain rfl:x=y:=by rw[hxj] at hyj;exact Option.some.inj hyj
  have hxn:=hxx.len;have hxs:=hl x (gM hxj);refine zB4 ?_;refine WT.callC Tryz.func96 Z Z Z Z Z Z Z Z (actFn_spec _ hxx hyy zo) (fun v hv=>?_);subst hv;refine zB4 ?_;refine AW.cond Z (fun h=>(by cases h)) (fun _=>?_);refine zB4 ?_;exact⟨(),sM,zow,trivial⟩
 ·intro _ F1 hF1 hP;refine zB4 ?_;exact AW.ret ⟨_,[],⟨_,_,rfl,rfl,rfl⟩,zsb,rfl,rfl⟩
theorem intEqual_spec(F:Frz){a b:Option Addr}{m n c d:Nat}{xs:List Int}(hx:Arr tInt F a m c xs)(hy:Arr tInt F b n d xs)(hm:m≤1000000) :
  Abs.Spec CC 16 [.slice a m c,.slice b n d] F [] fun _ v o=>o=[]∧v=.bool true:=by
 refine Abs.Spec.fn (n:=26) Tryz.func16 rfl rfl fun own=>?_;exact shE5
theorem intFn_spec(F:Frz){a b:Option Addr}{m n c d:Nat}{xs:List Int}(hx:Arr tInt F a m c xs)(hy:Arr tInt F b n d xs)(hm:m≤1000000) :
  Abs.Spec CC 99 [.slice a m c,.slice b n d] F [] fun _ v o=>o=[]∧v=.bool true:=by
 refine Abs.Spec.fn (n:=8) Tryz.func99 rfl rfl fun own=>?_;refine zB4 ?_;refine WT.callV Tryz.func16 Z Z Z Z Z Z (intEqual_spec _ hx hy hm) (fun v hv=>?_);subst hv;refine zB4 ?_;exact AW.ret ⟨_,[],⟨_,_,rfl,rfl,rfl⟩,zsb,rfl,rfl⟩
theorem intRows_spec(F:Frz){a b:Option Addr}{m n c d:Nat}{xs:List (List Int)}(hx:Arr (tList tInt) F a m c xs)(hy:Arr (tList tInt) F b n d xs)(hm:m≤1000000)(hl:∀l∈xs,l.length≤1000000) :
  Abs.Spec CC 98 [.slice a m c,.slice b n d,.func (.func 99) ⟨[]⟩ ⟨[]⟩] F [] fun _ v o=>o=[]∧v=.bool true:=by
 refine Abs.Spec.fn (n:=32) Tryz.func98 rfl rfl fun own=>?_;have hxlen:=hx.len;have hylen:=hy.len;refine zB4 ?_;refine AW.cond Z (fun hc=>(by simp at hc;omega)) (fun hc=>?_);refine zB4 ?_;refine AW.range (S:=Unit) (fun _=>[]) (fun _=>_) (fun j _ G=>True) m () Z Z Z Z Z Z Z Z Z zo Z Z (fun _=>rfl) (fun _=>rfl) sM oR trivial ?_ ?_
 ·intro j _ F1 hF1 hj _;have hx1:=hx.mono hF1;have hy1:=hy.mono hF1;refine zB4 ?_;refine WT.idxL hT hx1 Z Z Z Z Z Z Z Z Z zo (fun x hxj b1 off ro cs lx hb hp1 hrel=>?_);obtain⟨xa,xn,xc,rfl,hxx⟩:=hrel;refine zB4 ?_;refine WT.idxL hT hy1 Z Z Z Z Z Z Z Z Z zo (fun y hyj b2 off2 ro2 cs2 ly hb2 hp2 hrel2=>?_);obtain⟨ya,yn,yc,rfl,hyy⟩:=hrel2;obtain rfl:x=y:=by rw[hxj] at hyj;exact Option.some.inj hyj
  have hxn:=hxx.len;have hxs:=hl x (gM hxj);refine zB4 ?_;refine WT.callC Tryz.func99 Z Z Z Z Z Z Z Z (intFn_spec _ hxx hyy zo) (fun v hv=>?_);subst hv;refine zB4 ?_;refine AW.cond Z (fun h=>(by cases h)) (fun _=>?_);refine zB4 ?_;exact⟨(),sM,zow,trivial⟩
 ·intro _ F1 hF1 hP;refine zB4 ?_;exact AW.ret ⟨_,[],⟨_,_,rfl,rfl,rfl⟩,zsb,rfl,rfl⟩
theorem sameConf_spec(F:Frz){lx ly:List Value}(x:Nat×Nat×List (Nat×Nat))(hf:x.2.2.length≤1000000)(hx:tConf.rel F lx x)(hy:tConf.rel F ly x):Abs.Spec CC 101 [.agg ⟨lx⟩,.agg ⟨ly⟩] F [] fun _ v o=>o=[]∧v=.bool true:=by
 obtain⟨xa,xn,xc,rfl,hxa⟩:=hx;obtain⟨ya,yn,yc,rfl,hya⟩:=hy;have hxl:=hxa.len;have hyl:=hya.len;refine Abs.Spec.fn (n:=24) Tryz.func101 rfl rfl fun own=>?_;refine AW.seq (AW.reg ?_);refine WT.boxT Z Z Z Z Z Z (fun i2 hi2=>?_);refine WT.boxT Z Z Z Z Z Z (fun i3 hi3=>?_);refine zB4 ?_;refine WT.know (v':=.bool true) 10 Z (by congr 1;simp) ?_;refine zB4 ?_;refine WT.know (v':=.bool true) 17 Z (by congr 1;simp) ?_;refine zB4 ?_;refine WT.callV Tryz.func97 Z Z Z Z Z Z (actEqual_spec _ hxa hya zo) (fun v hv=>?_);subst hv;refine zB4 ?_;exact AW.ret ⟨_,[],⟨_,_,rfl,rfl,rfl⟩,zsb,rfl,rfl⟩
theorem confEqF_spec(F:Frz){a b:Option Addr}{m c d:Nat}{xs:List (Nat×Nat×List (Nat×Nat))}(hx:Arr tConf F a m c xs)(hy:Arr tConf F b m d xs)(hm:m≤1000000)
  (hcmp:∀G lx ly (x:(Nat×Nat×List (Nat×Nat))),x∈xs→tConf.rel G lx x→tConf.rel G ly x→Abs.Spec CC 101 [.agg ⟨lx⟩,.agg ⟨ly⟩] G [] fun _ v o=>o=[]∧v=.bool true) :
  Abs.Spec CC 100 [.slice a m c,.slice b m d,.func (.func 101) ⟨[]⟩ ⟨[]⟩] F [] fun _ v o=>o=[]∧v=.bool true:=by
 refine Abs.Spec.fn (n:=32) Tryz.func100 rfl rfl fun own=>?_;have hxlen:=hx.len;refine zB4 ?_;refine AW.cond Z (fun h=>(by exfalso;simp at h)) (fun _=>?_);refine zB4 ?_;refine AW.range (S:=Unit) (fun _=>[]) (fun _=>own) (fun j _ G=>True) m () Z Z Z Z Z Z Z Z Z zo Z Z (fun _=>rfl) (fun _=>rfl) sM oR trivial ?_ ?_
 ·intro j _ F1 hF1 hj hP;have hx1:=hx.mono hF1;have hy1:=hy.mono hF1;refine zB4 ?_;refine WT.idxL hT hx1 Z Z Z Z Z Z Z Z Z zo (fun x hxj b1 off ro cs lx hb hp1 hrel=>?_);have hrelx:=hrel;obtain⟨xa,xn,xc,rfl,_⟩:=hrel;refine zB4 ?_;refine WT.allocT hT Z Z Z Z Z Z (fun i8 hi8=>?_);refine zB4 ?_;refine WT.idxL hT hy1 Z Z Z Z Z Z Z Z Z zo (fun y hyj b2 off2 ro2 cs2 ly hb2 hp2 hrel=>?_);obtain rfl:y=x:=by rw[hxj] at hyj;exact(Option.some.inj hyj).symm
  have hrely:=hrel;obtain⟨ya,yn,yc,rfl,_⟩:=hrel;refine zB4 ?_;refine WT.allocT hT Z Z Z Z Z Z (fun i9 hi9=>?_);refine zB4 ?_;refine WT.callC Tryz.func101 Z Z Z Z Z Z Z Z (hcmp _ _ _ y (gM hxj) hrelx hrely) (fun v hv=>?_);subst hv;refine zB4 ?_;refine AW.cond Z (fun h=>(by cases h)) (fun _=>?_);refine zB4 ?_;exact⟨(),sM,OwnLe.skip _ (OwnLe.skip _ oR),trivial⟩
 ·intro _ F1 hF1 hP;refine zB4 ?_;exact AW.ret ⟨_,[],⟨_,_,rfl,rfl,rfl⟩,zsb,rfl,rfl⟩
structure TabSm(T:Tab):Prop where
 act:T.act.length≤1000000
 rows:∀l∈T.act,l.length≤1000000
 go:T.go.length≤1000000
 grows:∀l∈T.go,l.length≤1000000
 conf:T.conf.length≤1000000
 acts:∀x∈T.conf,x.2.2.length≤1000000
theorem tabSame_spec(F:Frz){method:Nat}{T:Tab}(hs:TabSm T){v w:Value}(hv:TabV F method T v)(hw:TabV F method T w):Abs.Spec CC 75 [v,w] F [] fun _ v o=>o=[]∧v=.bool true:=by
 obtain⟨a1,n1,c1,a2,n2,c2,a3,n3,c3,rfl,h1,h2,h3⟩:=hv;obtain⟨b1,m1,d1,b2,m2,d2,b3,m3,d3,rfl,g1,g2,g3⟩:=hw;obtain rfl:n3=m3:=by rw[h3.len,g3.len]
 have l1:=h1.len;have l2:=h2.len;have l3:=h3.len;refine Abs.Spec.fn (n:=31) Tryz.func75 rfl rfl fun own=>?_;refine AW.seq (AW.reg ?_);refine WT.boxT Z Z Z Z Z Z (fun i2 hi2=>?_);refine WT.boxT Z Z Z Z Z Z (fun i3 hi3=>?_);refine zB4 ?_;refine WT.know (v':=.bool true) 10 Z (by congr 1;simp) ?_;refine zB4 ?_;refine WT.callV Tryz.func95 Z Z Z Z Z Z (actRows_spec _ h1 g1 (by rw[l1];exact hs.act) hs.rows) (fun v hv=>?_);subst hv;refine zB4 ?_;refine WT.callV Tryz.func98 Z Z Z Z Z Z (intRows_spec _ h2 g2 (by rw[l2];exact hs.go) hs.grows) (fun v hv=>?_);subst hv;refine zB4 ?_
 refine WT.callV Tryz.func100 Z Z Z Z Z Z (confEqF_spec _ h3 g3 (by rw[l3];exact hs.conf) (fun G lx ly x hx q1 q2=>sameConf_spec G x (hs.acts x hx) q1 q2)) (fun v hv=>?_);subst hv;refine zB4 ?_;exact AW.ret ⟨_,[],⟨_,_,rfl,rfl,rfl⟩,zsb,rfl,rfl⟩
theorem tableF_sm{g:Gram}(hg:Valid g)(ht5:g.terms≤5){method:Nat}{T:Tab}(h:tableF g method=some T):TabSm T∧T.act.length≤400∧T.go.length=T.act.length∧(∀r∈T.act,r.length=g.terms+1)∧(∀r∈T.go,r.length=g.nons):=by
 unfold tableF at h;cases hst:statesF g method with
 | none=>rw[hst] at h;cases h
 | some a=>
  obtain⟨S,rows⟩:=a;rw[hst] at h;obtain rfl:=Option.some.inj h;have hfew:=autoK_few hst;have hAC:=(statesF_ok hg hst).1;have hlen:rows.length=S.length:=by have:=hAC.len;rwa [List.length_map] at this
  have hgn:=hg.range.nons;have hall6:∀r∈allF g S rows,r.length=g.terms+1:=fun r hr=>by
   unfold allF at hr;obtain⟨s,_,rfl⟩:=List.mem_map.1 hr;simp
  have halen:(allF g S rows).length=S.length:=by unfold allF;simp
  have hrow:∀r∈rows,r.length=g.terms+g.nons:=fun r hr=>by
   obtain⟨k,hk⟩:=List.getElem?_of_mem hr;have hk1:=(gS hk).1;have hS:=gE (show k<(S.map itemsK).length by rw[List.length_map];omega);exact hAC.row k _ r hS hk
  have hsm:∀s t,(actsF g (S.getD s []) (rows.getD s []) t).length≤1001:=fun s t=>by
   have h1:(S.getD s []).length≤1000:=by
    rw[List.getD_eq_getElem?_getD];cases hx:S[s]? with
    | none=>exact Nat.zero_le _
    | some st=>exact(statesF_PK hg hst st (gM hx)).1
   have h2:=actPre_len (g:=g) (row:=rows.getD s []) (t:=t);have h3:=List.length_filterMap_le (actOne g t) (S.getD s []);rw[actsF_eq,List.length_append];omega
  have hal:∀s r,(allF g S rows)[s]?=some r→∀l∈r,List.length l≤1001:=fun s r hr l hl=>by
   have hr:=gM hr;unfold allF at hr;obtain⟨s,_,rfl⟩:=List.mem_map.1 hr;obtain⟨t,_,rfl⟩:=List.mem_map.1 hl;exact hsm s t
  have hconf:(tabF (allF g S rows) (rows.map (·.drop g.terms))).conf=confsTo (allF g S rows) (allF g S rows).length:=rfl;refine⟨⟨?_,?_,?_,?_,?_,?_⟩,?_,?_,?_,?_⟩
  ·show ((allF g S rows).map _).length≤_;rw[List.length_map];omega
  ·intro l hl;obtain⟨r,hr,rfl⟩:=List.mem_map.1 hl;rw[List.length_map,hall6 r hr];omega
  ·show (rows.map _).length≤_;rw[List.length_map];omega
  ·intro l hl;obtain⟨r,hr,rfl⟩:=List.mem_map.1 hl;have:=hrow r hr;rw[List.length_drop];omega
  ·rw[hconf];have:=confsTo_few (allF g S rows) (fun r hr=>by rw[hall6 r hr];omega) (allF g S rows).length;omega
  ·intro x hx;rw[hconf] at hx;unfold confsTo at hx;obtain⟨l,hl,hxl⟩:=List.mem_flatten.1 hx;obtain⟨s,hs,rfl⟩:=List.mem_map.1 hl;unfold confRow at hxl;obtain⟨t,ht,hxt⟩:=List.mem_filterMap.1 hxl;split at hxt
   ·obtain rfl:=Option.some.inj hxt;dsimp only;obtain⟨r,hr⟩:∃r,(allF g S rows)[s]?=some r:=⟨_,gE (List.mem_range.1 hs)⟩;rw[getD_some hr] at ht ⊢;obtain⟨l,hl2⟩:∃l,r[t]?=some l:=⟨_,gE (List.mem_range.1 ht)⟩;rw[getD_some hl2];have:=hal s r hr l (gM hl2);exact Nat.le_trans this (by decide)
   ·cases hxt
  ·show ((allF g S rows).map _).length≤_;rw[List.length_map];omega
  ·show (rows.map _).length=((allF g S rows).map _).length;rw[List.length_map,List.length_map];omega
  ·intro l hl;obtain⟨r,hr,rfl⟩:=List.mem_map.1 hl;rw[List.length_map,hall6 r hr]
  ·intro l hl;obtain⟨r,hr,rfl⟩:=List.mem_map.1 hl;have:=hrow r hr;rw[List.length_drop];omega
theorem tcheck_spec(F:Frz)(g:Gram)(hg:Valid g)(ht5:g.terms≤5){method:Nat}(hm:method=1∨method=2∨method=3){T:Tab}(hT2:tableF g method=some T){v:Value}(hv:TabV F method T v){a:Option Addr}{m c:Nat}(hr:Arr tRule F a m c g.rules) :
  Abs.Spec CC 53 [v,.agg ⟨gramCells g a m c⟩] F [] fun _ v o=>o=[]∧v=.int .i64 0:=by
 obtain⟨a1,n1,c1,a2,n2,c2,a3,n3,c3,rfl,h1,h2,h3⟩:=id hv;have hmb:method≤3:=by omega
 unfold gramCells;refine Abs.Spec.fn (n:=21) Tryz.func53 rfl rfl fun own=>?_;refine AW.seq (AW.reg ?_);refine WT.boxT Z Z Z Z Z Z (fun i2 hi2=>?_);refine WT.boxT Z Z Z Z Z Z (fun i3 hi3=>?_);refine zB4 ?_;have hof:=of_spec F g hg ht5 method hm hr;unfold gramCells at hof;refine WT.callF0 Tryz.func8 Z Z Z Z Z Z hof (fun F1 v hF1 hv1=>?_);rcases hv1 with ⟨hn,_⟩ | ⟨T',x,hx1,rfl,hx2⟩
 ·rw[hT2] at hn;cases hn
 rw[hT2] at hx1;obtain rfl:=Option.some.inj hx1;obtain⟨b1,m1,d1,b2,m2,d2,b3,m3,d3,rfl,g1,g2,g3⟩:=id hx2;refine zB4 ?_;refine WT.allocT hT Z Z Z Z Z Z (fun i5 hi5=>?_);refine zB4 ?_;refine AW.cond Z (fun h=>(by cases h)) (fun _=>?_);refine zB4 ?_;refine WT.callV Tryz.func75 Z Z Z Z Z Z (tabSame_spec _ (tableF_sm hg ht5 hT2).1 (hv.mono hF1) hx2) (fun v hv=>?_);subst hv;refine zB4 ?_;refine AW.cond Z (fun h=>(by cases h)) (fun _=>?_);refine zB4 ?_;exact AW.ret ⟨_,[],⟨_,_,rfl,rfl,rfl⟩,zsb,rfl,rfl⟩
def tAt{α:Type}(R:Ty α)(H:Frz):Ty α where
 size:=R.size
 rel:=fun _ l x=>R.rel H l x
 len:=fun _ _ _ h=>R.len _ _ _ h
 one:=fun _ _ _ h=>R.one _ _ _ h
 mono:=fun _ _ _ _ _ h=>h
section
variable {α:Type}{R:Ty α}{F G H:Frz}{a:Option Addr}{n c:Nat}{B:List (Nat×Blk)}{xs:List α}
theorem cells_at{cs:List Value}(h:Cells R F cs xs):Cells (tAt R F) G cs xs:=by
 induction h with
 | nil=>exact .nil
 | cons h _ ih=>exact .cons h ih
theorem cells_of{cs:List Value}(h:Cells (tAt R H) G cs xs)(hH:Frz.le H F):Cells R F cs xs:=by
 induction h with
 | nil=>exact .nil
 | cons h _ ih=>exact .cons (R.mono _ _ _ _ hH h) ih
theorem gbAt(h:GB R F a n c B xs):GB (tAt R F) G a n c B xs:=
 ⟨h.len,h.at_.imp id fun ⟨i,cs,rest,h1,h2,h3,h4,h5⟩=>⟨i,cs,rest,h1,h2,h3,cells_at h4,h5⟩⟩
theorem vecOf(h:Vec (tAt R H) G a n c B xs)(hH:Frz.le H F):Vec R F a n c B xs:=
 ⟨h.len,h.cap,h.zero,h.nil,h.spot,h.el.imp id fun ⟨i,cs,h1,h2,h3,h4⟩=>⟨i,cs,h1,h2,cells_of h3 hH,h4⟩⟩
theorem arrAt(h:Arr R F a n c xs):Arr (tAt R F) F a n c xs:=⟨h.len,h.cap,h.zero,h.nil,h.spot,h.el⟩
theorem gbTail{C:Ctx}{T:RT}(h:GB R F a n c B xs){lo:Nat}(hlo:lo≤n)(hT:rowsOk C T=true){t e:Nat}{r:Row}(hr:rowOf T t=some r)(hd:r.d=.slice e)(hs:sizeT T e=some R.size) :
  ∃a' c',(∀h0,sliceA C h0 t (.slice a n c) (some (.int .i64 (lo:Nat))) none none=some (.slice a' (n-lo) c'))∧∀G,Frz.le F G→(∀i b,(i,b)∈B→G i=some b)→Arr R G a' (n-lo) c' (xs.drop lo):=by
 have hn:=h.len;have key:∀{S:Ty α} {G:Frz},S.size=R.size→Arr S G a n c xs→∃a' c',(∀h0,sliceA C h0 t (.slice a n c) (some (.int .i64 (lo:Nat))) none none=some (.slice a' (n-lo) c'))∧Arr S G a' (n-lo) c' (xs.drop lo):=fun {S G} hS hA=>by
  obtain⟨a',c',h1,h2⟩:=hA.slice (C:=C) (lo:=lo) (hi:=n) hlo (Nat.le_refl _) hT hr hd (by rw[hS];exact hs) (some (.int .i64 (lo:Nat))) none (by simp[boundA]) rfl;rw[List.take_of_length_le zo] at h2;exact⟨a',c',h1,h2⟩
 have hE:∃H:Frz,∀i b,(i,b)∈B→H i=some b:=by
  rcases h.at_ with ⟨_,_,_,rfl⟩ | ⟨i,cs,rest,_,_,rfl,_,_⟩
  ·exact⟨fun _=>none,fun i b hm=>by cases hm⟩
  ·exact⟨fun _=>some (.cells false (cs++rest)),fun j b hm=>by cases List.mem_singleton.1 hm;rfl⟩
 obtain⟨H,hH⟩:=hE;obtain⟨a',c',h1,_⟩:=key (S:=tAt R F) (G:=H) rfl ((gbAt (G:=fun _=>none) h).arr (fun _ _ h=>by cases h) hH);refine⟨a',c',h1,fun G hF hB=>?_⟩;obtain⟨a2,c2,g1,g2⟩:=key rfl (h.arr hF hB);have e:=(g1 ⟨0,.e⟩).symm.trans (h1 ⟨0,.e⟩);simp only[Option.some.injEq,Value.slice.injEq,true_and] at e;obtain⟨rfl,rfl⟩:=e;exact g2
end
theorem natClone2_spec(F:Frz){a:Option Addr}{m c:Nat}{xs:List Nat}(hx:Arr tNat F a m c xs)(hm:m≤10000000) :
  Abs.Spec CC 48 [.slice a m c] F [] fun F' v o=>∃B',o=[B']∧∃a' c',v=.slice a' m c'∧Vec tNat F' a' m c' B' xs∧(a=none→GB tNat F' a' m c' B' xs):=by
 refine Abs.Spec.fn (n:=8) Tryz.func48 rfl rfl fun own=>?_;refine zB4 ?_;refine WT.sliceNil hT Z Z Z Z Z Z Z Z ?_;refine zB4 ?_;refine AW.cond Z (fun h=>?_) (fun h=>?_)
 ·obtain rfl:a=none:=by simpa using h
  obtain⟨rfl,rfl⟩:=hx.nil rfl;obtain rfl:xs=[]:=List.eq_nil_of_length_eq_zero hx.len.symm;refine zB4 ?_;refine AW.le (own2:=[]::own) (OwnLe.flat (List.Perm.refl _)) ?_;exact AW.ret ⟨_,[[]],⟨_,_,rfl,rfl,rfl⟩,zsb,_,rfl,_,_,rfl,(Bld.nil_ _ _).vec,fun _=>(Bld.nil_ _ _).gb⟩
 ·have hne:a≠none:=fun e=>by rw[e] at h;cases h
  refine zB4 ?_;refine WT.buildT hT Z Z Z Z Z Z Z Z Z Z Z Z Z Z (fun i5 hi5=>?_);refine zB4 ?_;obtain⟨ds,hds,hcs⟩:=news_arr hT hx (t:=22) rfl rfl 3;refine WT.appendE hT Z Z Z Z Z Z Z Z Z Z Z Z (fun h0 s0=>hds _ h0 s0) hcs hx.len (by decide) zom (fun a' c' B' hB' _=>?_);refine zB4 ?_;refine AW.le (OwnLe.cons _ (OwnLe.skip _ oR)) ?_;exact AW.ret ⟨_,[_],⟨_,_,rfl,rfl,rfl⟩,zsb,_,rfl,_,_,rfl,hB',fun h=>absurd h hne⟩
theorem treeHClone2_spec(F:Frz)(H:Frz){a:Option Addr}{m c:Nat}{xs:List Tree}(hx:Arr (tAt tTree H) F a m c xs)(hm:m≤10000000) :
  Abs.Spec CC 77 [.slice a m c] F [] fun F' v o=>∃B',o=[B']∧∃a' c',v=.slice a' m c'∧Vec (tAt tTree H) F' a' m c' B' xs∧(a=none→GB (tAt tTree H) F' a' m c' B' xs):=by
 refine Abs.Spec.fn (n:=8) Tryz.func77 rfl rfl fun own=>?_;refine zB4 ?_;refine WT.sliceNil hT Z Z Z Z Z Z Z Z ?_;refine zB4 ?_;refine AW.cond Z (fun h=>?_) (fun h=>?_)
 ·obtain rfl:a=none:=by simpa using h
  obtain⟨rfl,rfl⟩:=hx.nil rfl;obtain rfl:xs=[]:=List.eq_nil_of_length_eq_zero hx.len.symm;refine zB4 ?_;refine AW.le (own2:=[]::own) (OwnLe.flat (List.Perm.refl _)) ?_;exact AW.ret ⟨_,[[]],⟨_,_,rfl,rfl,rfl⟩,zsb,_,rfl,_,_,rfl,(Bld.nil_ _ _).vec,fun _=>(Bld.nil_ _ _).gb⟩
 ·have hne:a≠none:=fun e=>by rw[e] at h;cases h
  refine zB4 ?_;refine WT.buildT hT Z Z Z Z Z Z Z Z Z Z Z Z Z Z (fun i5 hi5=>?_);refine zB4 ?_;obtain⟨ds,hds,hcs⟩:=news_arr hT hx (t:=43) rfl rfl 45;refine WT.appendE hT Z Z Z Z Z Z Z Z Z Z Z Z (fun h0 s0=>hds _ h0 s0) hcs hx.len ⟨Nat.succ_pos 2,by decide⟩ zom (fun a' c' B' hB' _=>?_);refine zB4 ?_;refine AW.le (OwnLe.cons _ (OwnLe.skip _ oR)) ?_;exact AW.ret ⟨_,[_],⟨_,_,rfl,rfl,rfl⟩,zsb,_,rfl,_,_,rfl,hB',fun h=>absurd h hne⟩
structure LRT(g:Gram)(T:Tab)(I:List (List Lr))(rows:List (List Int))(la:Nat→Lr→Nat→Prop):Prop where
 auto:AutoC g I rows
 lr:LRok g (itI I) la (goR g rows)
 only:Only g (itI I) la (goR g rows) (actT T)
 alen:T.act.length=I.length
 few:T.act.length≤400
 arow:∀r∈T.act,r.length=g.terms+1
 go:T.go=rows.map (·.drop g.terms)
theorem laK_le{g:Gram}{S:List (List Look)}(h:∀st∈S,∀x∈st,x.set<2 ^ (g.terms+1)){s:Nat}{x:Lr}{t:Nat}(hl:laK S s x t):t≤g.terms:=by
 obtain⟨st,m,h1,h2,h3⟩:=hl;have h4:=h st (gM h1) _ h2;rcases Nat.lt_or_ge g.terms t with h5 | h5
 ·have h6:m<2 ^ t:=Nat.lt_of_lt_of_le h4 (Nat.pow_le_pow_right (by decide) h5);rw[Nat.testBit_lt_two_pow h6] at h3;cases h3
 ·exact h5
theorem lrt_of{g:Gram}(hg:Valid g)(ht5:g.terms≤5){method:Nat}{T:Tab}(h:tableF g method=some T)(hc:T.conf=[]):∃I rows la,LRT g T I rows la:=by
 have hsm:=tableF_sm hg ht5 h;unfold tableF at h;cases hst:statesF g method with
 | none=>rw[hst] at h;cases h
 | some a=>
  obtain⟨S,rows⟩:=a;rw[hst] at h;obtain rfl:=Option.some.inj h;obtain⟨h1,h2⟩:=statesF_ok hg hst;have hPK:=statesF_PK hg hst;refine⟨S.map itemsK,rows,laK S,h1,h2,only_ok hg h1 (fun s x t hl=>laK_le (fun st hst x hx=>((hPK st hst).2 x hx).2) hl) hc,?_,hsm.2.1,hsm.2.2.2.1,rfl⟩;show ((allF g S rows).map _).length=_;unfold allF;simp
section
variable {g:Gram}{T:Tab}{I:List (List Lr)}{rows:List (List Int)}{la:Nat→Lr→Nat→Prop}
theorem LRT.goes(hg:Valid g)(h:LRT g T I rows la){s s':Nat}{y:Sym}(hgo:goR g rows s y=some s'):s'<T.act.length:=by
 obtain⟨st,st',_,e,_⟩:=h.auto.goes hg hgo;rw[h.alen];exact(gS e).1
theorem LRT.pos(h:LRT g T I rows la):0<T.act.length:=by
 obtain⟨st,hst,_⟩:=h.auto.zero;rw[h.alen];exact(gS hst).1
theorem LRT.act(h:LRT g T I rows la){s t:Nat}(hs:s<T.act.length)(ht:t≤g.terms):∃row p,T.act[s]?=some row∧row[t]?=some p∧actT T s t=decA p:=by
 have h1:=gE hs;have hr:=h.arow T.act[s] (List.getElem_mem hs);have h2:=gE (show t<(T.act[s]).length by omega);refine⟨_,_,h1,h2,?_⟩;unfold actT;rw[getD_some h1,getD_some h2]
theorem LRT.goAt(h:LRT g T I rows la){s s' n:Nat}(hgo:goR g rows s ⟨false,n⟩=some s'):∃row,T.go[s]?=some row∧row[n]?=some (s':Int):=by
 unfold goR at hgo;split at hgo
 ·rw[h.go];cases hr:rows[s]? with
  | none=>rw[hr] at hgo;cases hgo
  | some row=>
   rw[hr] at hgo;dsimp only at hgo;have e:idxS g ⟨false,n⟩=n+g.terms:=rfl;rw[e] at hgo;cases hx:row[n+g.terms]? with
   | none=>rw[hx] at hgo;cases hgo
   | some j=>
    rw[hx] at hgo;dsimp only at hgo;split at hgo
    ·have:=Option.some.inj hgo;refine⟨row.drop g.terms,by rw[List.getElem?_map,hr];rfl,?_⟩;rw[List.getElem?_drop,Nat.add_comm,hx];congr 1;omega
    ·cases hgo
 ·cases hgo
theorem LStk.top(hg:Valid g)(h:LRT g T I rows la){w:List Nat}{σ:List Nat}{τ:List Tree}{i:Nat}(hs:LStk g (goR g rows) w σ τ i):topS σ<T.act.length:=by
 cases hs with
 | nil=>exact h.pos
 | snoc h1 h2 h3=>rw[topS_snoc];exact h.goes hg h2
theorem LStk.redAt(hg:Valid g)(h:LRT g T I rows la){w:List Nat}{σ:List Nat}{τ:List Tree}{i t k:Nat}(hs:LStk g (goR g rows) w σ τ i)(hk:actT T (topS σ) t=.red k) :
  ∃r s0 s',g.rules[k]?=some r∧r.right.length<σ.length∧r.right.length≤τ.length∧σ[σ.length-r.right.length-1]?=some s0∧goR g rows s0 ⟨false,r.left⟩=some s'∧
   redS g (goR g rows) (actT T) t (σ,τ)=(σ.take (σ.length-r.right.length)++[s'],τ.take (τ.length-r.right.length)++[.mk k 0 (τ.drop (τ.length-r.right.length))]):=by
 have h1:=h.only.one (s:=topS σ) (t:=t) (by rw[hk];exact Act.noConfusion);rw[hk] at h1;cases h1 with
 | red hr hit hla=>
  rename_i r;have hrl:=rightL_rule hr;obtain⟨σ0,s0,τ0,τ1,i0,e1,e2,e3,e4,e5,e6⟩:=LStk.under h.lr r.right.length hs hit (by rw[hrl];exact Nat.le_refl _);obtain⟨s',hs'⟩:=h.lr.fill e5 hr;have hl:=congrArg List.length e1;rw[List.length_take,List.length_append,List.length_singleton] at hl;have hl2:=hs.len.1;have hτ:τ.length=τ0.length+r.right.length:=by rw[e2,List.length_append,e3]
  refine⟨r,s0,s',hr,by omega,by omega,?_,hs',?_⟩
  ·have:(σ.take (σ.length-r.right.length))[σ0.length]?=some s0:=by rw[e1];simp
   rw[List.getElem?_take_of_lt zo] at this;rw[←this];congr 1;omega
  ·unfold redS;dsimp only;rw[hk];dsimp only;rw[hr];dsimp only;rw[topS_take e1,hs'];rfl
end
structure PP where
 method:Nat
 a1:Option Addr
 n1:Nat
 c1:Nat
 a2:Option Addr
 n2:Nat
 c2:Nat
 a3:Option Addr
 n3:Nat
 c3:Nat
 ga:Option Addr
 gm:Nat
 gc:Nat
 sa:Option Addr
 sn:Nat
 sc:Nat
 ta:Option Addr
 tn:Nat
 tc:Nat
 read:Nat
def ppCells(g:Gram)(p:PP):List Value:=[.int .i64 p.method,.slice p.a1 p.n1 p.c1,.slice p.a2 p.n2 p.c2,.slice p.a3 p.n3 p.c3,.int .i64 g.terms,.int .i64 g.nons,.int .i64 g.start,.slice p.ga p.gm p.gc,.slice p.sa p.sn p.sc,.slice p.ta p.tn p.tc,.int .i64 p.read]
structure PPOk(g:Gram)(T:Tab)(F:Frz)(p:PP)(σ:List Nat)(τ:List Tree):Prop where
 act:Arr (tList tAct) F p.a1 p.n1 p.c1 T.act
 go:Arr (tList tInt) F p.a2 p.n2 p.c2 T.go
 rules:Arr tRule F p.ga p.gm p.gc g.rules
 states:Arr tNat F p.sa p.sn p.sc σ
 trees:Arr tTree F p.ta p.tn p.tc τ
 first:τ=[]→p.ta=none
theorem PPOk.mono{g:Gram}{T:Tab}{F G:Frz}{p:PP}{σ:List Nat}{τ:List Tree}(h:PPOk g T F p σ τ)(hF:Frz.le F G):PPOk g T G p σ τ:=
 ⟨h.act.mono hF,h.go.mono hF,h.rules.mono hF,h.states.mono hF,h.trees.mono hF,h.first⟩
def actOut:Act→Act
 | .red _=>.no
 | a=>a
structure RdS where
 j:Nat
 xa:Option Addr
 xn:Nat
 xc:Nat
 B1:List (Nat×Blk)
 ya:Option Addr
 yn:Nat
 yc:Nat
 B2:List (Nat×Blk)
theorem top_at{l:List Nat}(h:l≠[]):l[l.length-1]?=some (topS l):=by
 rcases List.eq_nil_or_concat l with rfl | ⟨l',a,rfl⟩
 ·exact absurd rfl h
 ·rw[List.concat_eq_append,topS_snoc];simp
theorem vecGB2{α:Type}{R:Ty α}{F:Frz}{a:Option Addr}{n c:Nat}{B:List (Nat×Blk)}{xs:List α}(h:Vec R F a n c B xs)(hne:xs≠[]):GB R F a n c B xs:=(h.bld hne).gb
theorem own_ret{α:Type}(A B1 B2 C D:List α)(l:List (List α)):(B2::B1::C::D::l).Perm (C::D::B1::B2::l):=
 ((List.perm_append_comm (l₁:=[B2,B1]) (l₂:=[C,D])).append_right l).trans (List.Perm.cons _ (List.Perm.cons _ (List.Perm.swap _ _ _)))
theorem redS_len{g:Gram}{go:Nat→Sym→Option Nat}{act:Nat→Nat→Act}(t:Nat)(c:Conf):(redS g go act t c).1.length≤c.1.length+1∧(redS g go act t c).2.length≤c.2.length+1:=by
 unfold redS;split
 ·split
  ·dsimp only;rw[List.length_append,List.length_append,List.length_take,List.length_take,List.length_singleton,List.length_singleton];omega
  ·omega
 ·omega
theorem redN_len{g:Gram}{go:Nat→Sym→Option Nat}{act:Nat→Nat→Act}(t:Nat):∀(n:Nat) (c:Conf),(redN g go act t n c).1.length≤c.1.length+n∧(redN g go act t n c).2.length≤c.2.length+n
 | 0,c=>⟨Nat.le_refl _,Nat.le_refl _⟩
 | n+1,c=>by
  have h1:=redN_len (g:=g) (go:=go) (act:=act) t n (redS g go act t c);have h2:=redS_len (g:=g) (go:=go) (act:=act) t c;show (redN g go act t n (redS g go act t c)).1.length≤_∧(redN g go act t n (redS g go act t c)).2.length≤_;omega
theorem decA_red{p:Nat×Nat}{k:Nat}:decA p=.red k↔p=(2,k):=by
 unfold decA;split<;>simp_all
theorem decA_other{a b:Nat}(h:a≠2):actOut (decA (a,b))=decA (a,b)∧∀k,decA (a,b)≠.red k:=by
 refine⟨?_,fun k e=>?_⟩
 ·unfold actOut;split
  ·rename_i k e;have:=decA_red.1 e;simp at this;exact absurd this.1 h
  ·rfl
 ·have:=decA_red.1 e;simp at this;exact absurd this.1 h
theorem reduce_spec(F:Frz)(g:Gram)(hg:Valid g){T:Tab}{I:List (List Lr)}{rows:List (List Int)}{la:Nat→Lr→Nat→Prop}(hL:LRT g T I rows la){p:PP}{pi:Nat}{σ:List Nat}{τ:List Tree}(hp:PPOk g T F p σ τ){w:List Nat}{i:Nat}(hs:LStk g (goR g rows) w σ τ i)(hσ:σ.length≤2000000)(hw:w.length≤1000){t:Nat}(ht:t≤g.terms) :
  Abs.Spec CC 55 [.pointer (some ⟨pi,0,none⟩),.int .i64 t] F [[(pi,.cells false (ppCells g p))]] fun F' v o=>∃B1 B2,o=[[(pi,.cells false (ppCells g p))],B1,B2]∧∃xa xn xc ya yn yc a b,v=.tuple ⟨[.slice xa xn xc,.slice ya yn yc,.agg ⟨[.int .i64 (a:Nat),.int .i64 (b:Nat)]⟩]⟩∧
   GB tNat F' xa xn xc B1 (redN g (goR g rows) (actT T) t 100000 (σ,τ)).1∧GB tTree F' ya yn yc B2 (redN g (goR g rows) (actT T) t 100000 (σ,τ)).2∧decA (a,b)=actOut (actT T (topS (redN g (goR g rows) (actT T) t 100000 (σ,τ)).1) t):=by
 have hsl:=hp.states.len;have htl:=hp.trees.len;have hal:=hp.act.len;have hgl:=hp.go.len;have hrl:=hp.rules.len;have hfew:=hL.few;have hgr:=hg.range.rules;have hgt:=hg.range.terms;have hst:=hs.len;have hgl2:T.go.length=T.act.length:=by rw[hL.go,List.length_map,hL.auto.len,hL.alen]
 unfold ppCells;refine Abs.Spec.fn (n:=128) Tryz.func55 rfl rfl fun own=>?_;refine zC5 ?_;refine WT.allocT hT Z Z Z Z Z Z (fun i6 hi6=>?_);refine zC5 ?_;refine AW.draw (ps:=[(8,4)]) Z Z ?_;refine zC5 ?_;refine WT.callN Tryz.func48 Z Z Z Z Z Z (natClone2_spec F hp.states zo) (fun F1 v B1 hF1 hv=>?_);obtain⟨xa,xc,rfl,hx,_⟩:=hv;have hp1:=hp.mono hF1;refine zC5 ?_;refine WT.callN Tryz.func77 Z Z Z Z Z Z (treeHClone2_spec F1 F1 (arrAt hp1.trees) zo) (fun F2 v B2 hF2 hv=>?_);obtain⟨ya,yc,rfl,hy,hy0⟩:=hv;have hp2:=hp1.mono hF2;have hσne:σ≠[]:=fun e=>by rw[e] at hst;simp at hst
 have hx:=vecGB2 (hx.mono hF2) hσne;have hy:GB tTree F2 ya p.tn yc B2 τ:=by
  by_cases e:τ=[]
  ·have h1:=hy0 (hp.first e)
   exact⟨h1.len,h1.at_.imp id fun ⟨i,cs,rest,g1,g2,g3,g4,g5⟩=>⟨i,cs,rest,g1,g2,g3,cells_of g4 hF2,g5⟩⟩
  ·exact vecGB2 (vecOf hy hF2) e
 refine zC5 ?_;refine⟨zrC,?_⟩;refine zC5 ?_;refine AW.block ?_;refine AW.loopR (S:=RdS) (fun s=>[(25,.int .i64 (s.j:Nat)),(7,.slice s.xa s.xn s.xc),(8,.slice s.ya s.yn s.yc)]) (fun s=>s.B2::s.B1::[(i6,.cells false [.int .i64 0,.int .i64 0])]::[(pi,.cells false (ppCells g p))]::own)
  (fun s G=>s.j≤100000∧GB tNat G s.xa s.xn s.xc s.B1 (redN g (goR g rows) (actT T) t s.j (σ,τ)).1∧GB tTree G s.ya s.yn s.yc s.B2 (redN g (goR g rows) (actT T) t s.j (σ,τ)).2) (fun s=>100000-s.j) ⟨0,xa,p.sn,xc,B1,ya,p.tn,yc,B2⟩ sM oR ⟨Nat.zero_le _,hx,hy⟩ ?_
 intro s F3 hF3 hP;obtain⟨j,xa,xn,xc,B1,ya,yn,yc,B2⟩:=s;obtain⟨hj,hx,hy⟩:=hP;dsimp only at hj hx hy;have hp3:=hp2.mono hF3;have hs3:=LStk.redN hL.lr hL.only (t:=t) j (c:=(σ,τ)) hs;have hln:=redN_len (g:=g) (go:=goR g rows) (act:=actT T) t j (σ,τ);have hend:∀k,j=k→(∀q,actT T (topS (redN g (goR g rows) (actT T) t k (σ,τ)).1) t≠.red q)→redN g (goR g rows) (actT T) t 100000 (σ,τ)=redN g (goR g rows) (actT T) t k (σ,τ):=fun k hk h=>redN_end rfl zo h;have hsuc:redN g (goR g rows) (actT T) t (j+1) (σ,τ)=redS g (goR g rows) (actT T) t (redN g (goR g rows) (actT T) t j (σ,τ)):=redN_last t j (σ,τ)
 have hlast:j=100000→redN g (goR g rows) (actT T) t 100000 (σ,τ)=redN g (goR g rows) (actT T) t j (σ,τ):=fun h=>by rw[h]
 have hend:=hend j rfl;generalize redN g (goR g rows) (actT T) t j (σ,τ)=cj at hx hy hs3 hln hend hsuc hlast;obtain⟨σj,τj⟩:=cj;have hxl:=hx.len;have hyl:=hy.len;have hs3l:=hs3.len;have htop:=hs3.top hg hL;have hne:σj≠[]:=fun e=>by rw[e] at hs3l;simp at hs3l
 have htat:=top_at hne;dsimp only at hx hy hxl hyl hs3l hln htop htat hend hsuc hlast hs3;obtain⟨ib,csb,rsb,rfl,rfl,rfl,hxc,_⟩:=hx.at_pos htat;obtain⟨row,⟨a,b⟩,hra,hrb,hact⟩:=hL.act htop ht;have hrow:=hL.arow row (gM hra);unfold ppCells;dsimp only;refine zC5 ?_;refine AW.cond Z (fun hk=>?_) (fun hk=>?_)
 ·have hk:j<100000:=by simp at hk;omega
  refine zC5 ?_;refine AW.block ?_;refine zC5 ?_;refine AW.draw (ps:=[(4,16),(7,16),(8,16),(10,16),(12,16),(15,16)]) Z Z ?_;refine zC5 ?_;refine WT.gidx (j:=xn-1) hT hx Z Z Z Z Z Z Z Z Z zo (fun b1 hb1=>?_);refine WT.gld1 (x:=topS σj) hT 1 hx hb1 (by rw[hxl];exact htat) Z Z Z Z Z Z (fun z hz=>hz) Z Z Z (fun v hv=>?_);obtain rfl:b1=ib:=by cases hb1;rfl
  obtain rfl:v=_:=(List.singleton_inj.1 hv);refine WT.idxL hT hp3.act Z Z Z Z Z Z Z Z Z zo (fun row' hr1 b2 off2 ro2 cs2 lx2 hb2 hp2' hrel2=>?_);obtain rfl:row'=row:=by rw[hra] at hr1;exact(Option.some.inj hr1).symm
  obtain⟨ra,rn,rc,rfl,hrow3⟩:=hrel2;have hrow3l:=hrow3.len;refine zC5 ?_;refine WT.idxL hT hrow3 Z Z Z Z Z Z Z Z Z zo (fun q hr2 b3 off3 ro3 cs3 lx3 hb3 hp3' hrel3=>?_);obtain rfl:q=(a,b):=by rw[hrb] at hr2;exact(Option.some.inj hr2).symm
  obtain rfl:lx3=_:=hrel3;refine zC5 ?_;refine WT.allocT hT Z Z Z Z Z Z (fun i9 hi9=>?_);refine zC5 ?_;refine⟨(by repeat (first | exact trivial | refine recs_pair rfl rfl (by first | exact keep0 | exact kp 3 4 me me | exact kp 1 2 me me | exact keep1 (keeps_frz hb2) | exact keep1 (keeps_frz hb3)) ?_)),?_⟩
  refine zC5 ?_;refine AW.cond Z (fun h2=>?_) (fun h2=>?_)
  ·have h2:a≠2:=by intro e;subst e;simp at h2
   obtain⟨ho,hn⟩:=decA_other (b:=b) h2;rw[←hact] at ho hn;refine zC5 ?_;refine AW.le (OwnLe.skip _ (OwnLe.perm (own_ret [] _ _ _ _ _))) ?_;have he:=hend hn;refine AW.ret ⟨_,[[(pi,.cells false (ppCells g p))],[(b1,.cells false (csb++rsb))],B2],⟨_,_,rfl,⟨_,_,rfl,⟨_,_,⟨_,rfl,fun G h0 s0=>loadA_cells (s0.has (p:=0) Z me) (readT_ok hT rfl)⟩,rfl,rfl⟩,rfl⟩,rfl⟩,zsb,_,_,rfl,_,_,_,_,_,_,_,_,rfl,?_,?_,?_⟩
   ·rw[he];exact hx
   ·rw[he];exact hy
   ·rw[he];exact hact.symm.trans ho.symm
  ·have h2:a=2:=by simp at h2;omega
   subst h2;have hact:actT T (topS σj) t=.red b:=hact;obtain⟨r,s0,s',hr1,hr2,hr3,hr4,hr5,hr6⟩:=hs3.redAt hg hL hact;rw[hr6] at hsuc;have hbl:=(gS hr1).1;have hrr:=hg.right r (gM hr1);refine zC5 ?_;refine AW.draw (ps:=[(4,9),(6,9),(8,9)]) Z Z ?_;refine zC5 ?_;refine WT.idxL hT hp3.rules Z Z Z Z Z Z Z Z Z zo (fun r' hq1 b4 off4 ro4 cs4 lx4 hb4 hp4' hrel4=>?_);obtain rfl:r'=r:=by rw[hr1] at hq1;exact(Option.some.inj hq1).symm
   obtain⟨qa,qn,qc,rfl,hright⟩:=hrel4;have hqn:=hright.len;refine zC5 ?_;refine WT.allocT hT Z Z Z Z Z Z (fun i10 hi10=>?_);refine zC5 ?_;refine⟨(by repeat (first | exact trivial | refine recs_pair rfl rfl (by first | exact keep0 | exact kp 4 5 me me | exact kp 0 1 me me | exact keep1 (keeps_frz hb4)) ?_)),?_⟩
   refine zC6 ?_;refine AW.draw (ps:=[(1,5),(1,7),(4,7)]) Z Z ?_;refine zC6 ?_;obtain⟨ka,kc,hks,hka⟩:=gbTail (C:=CC) (gbAt (G:=F3) hy) (lo:=yn-qn) zo hT (t:=43) Z Z Z;refine WT.slice Z Z Z Z Z Z Z Z hks ?_;refine WT.callLendN (P:=fun v B'=>∃a2 c2,v=.slice a2 (yn-(yn-qn)) c2∧Vec tTree F3 a2 (yn-(yn-qn)) c2 B' (τj.drop (yn-qn))) 2 Tryz.func77 Z Z Z Z Z Z Z (fun G hG hBG=>Spec.mono (treeHClone2_spec G F3 (hka G hG hBG) zo) (fun F' v o hF' ⟨B',e1,a',c',e2,hV,_⟩=>⟨B',e1,a',c',e2,vecOf hV (Frz.le.refl F3)⟩)) (fun v BK hv=>?_);obtain⟨ka2,kc2,rfl,hkv⟩:=hv;refine WT.freezeAll 0 Z Z (fun F4 hF4 hB4=>?_)
   have hkids:=hkv.arr hF4 hB4;have hkl:=hkids.len;refine zC6 ?_;refine WT.allocT hT Z Z Z Z Z Z (fun i13 hi13=>?_);refine zC6 ?_;refine⟨(by repeat (first | exact trivial | refine recs_pair rfl rfl (by first | exact keep0 | exact kp 1 2 me me | exact kp 2 3 me me) ?_)),?_⟩
   refine zC8 ?_;refine AW.draw (ps:=[(2,19)]) Z Z ?_;refine zC8 ?_;have hx4:=hx.mono hF4;have hy4:=hy.mono hF4;have hp4:=hp3.mono hF4;refine WT.sliceG hT hx4 Z Z Z Z Z Z Z Z Z (show xn-qn≤xn by omega) ?_;refine zC8 ?_;refine WT.gidx (j:=xn-qn-1) hT hx4 Z Z Z Z Z Z Z Z Z zo (fun b5 hb5=>?_);refine WT.gld1 (x:=s0) hT 5 hx4 hb5 (by rw[hxl,hqn];exact hr4) Z Z Z Z Z Z (fun z hz=>hz) Z Z Z (fun v hv=>?_);obtain rfl:v=_:=(List.singleton_inj.1 hv);obtain⟨grow,hg1,hg2⟩:=hL.goAt hr5;have hgb:=(gS hg1).1;have hgb2:=(gS hg2).1
   refine WT.idxL hT hp4.go Z Z Z Z Z Z Z Z Z zo (fun grow' hg3 b6 off6 ro6 cs6 lx6 hb6 hp6' hrel6=>?_);obtain rfl:grow'=grow:=by rw[hg1] at hg3;exact(Option.some.inj hg3).symm
   obtain⟨za,zn,zc,rfl,hgrow⟩:=hrel6;have hgrl:=hgrow.len;refine zC8 ?_;refine WT.idxL hT hgrow Z Z Z Z Z Z Z Z Z zo (fun z hg4 b7 off7 ro7 cs7 lx7 hb7 hp7' hrel7=>?_);obtain rfl:z=(s':Int):=by rw[hg2] at hg4;exact(Option.some.inj hg4).symm
   obtain rfl:lx7=_:=hrel7;refine zC8 ?_;refine WT.buildT hT Z Z Z Z Z Z Z Z Z Z Z Z Z Z (fun i33 hi33=>?_);refine WT.appendG (R:=tNat) (ys:=[s']) hT 6 (hx4.take (show xn-qn≤xn by omega)) Z (fun _=>rfl) Z Z Z Z Z Z Z Z Z Z Z (fun h0 s0=>news_own hT s0 0 Z Z Z Z) (Cells.single (R:=tNat) (x:=s') rfl) Z (by decide) zom (fun a8 c8 B8 hB8=>?_);refine zC8 ?_;refine⟨(by repeat (first | exact trivial | refine recs_pair rfl rfl (by first | exact keep0) ?_)),?_⟩
   refine AW.draw (ps:=[(2,4)]) Z Z ?_;refine zC8 ?_;refine WT.sliceG hT hy4 Z Z Z Z Z Z Z Z Z (show yn-qn≤yn by omega) ?_;refine zC8 ?_;refine WT.buildT hT Z Z Z Z Z Z Z Z Z Z Z Z Z Z (fun i34 hi34=>?_);refine WT.appendG (R:=tTree) (ys:=[.mk b 0 (τj.drop (yn-qn))]) hT 6 (hy4.take (show yn-qn≤yn by omega)) Z (fun _=>rfl) Z Z Z Z Z Z Z Z Z Z Z (fun h0 s0=>news_own hT s0 0 Z Z Z Z) (Cells.single (R:=tTree) (x:=.mk b 0 (τj.drop (yn-qn))) (tTree_mk hkids (by rw[List.length_drop];omega))) Z (by decide) zom (fun a9 c9 B9 hB9=>?_);refine zC8 ?_
   refine⟨(by repeat (first | exact trivial | refine recs_pair rfl rfl (by first | exact keep0) ?_)),?_⟩
   refine zC8 ?_;have ex:xn-qn=σj.length-r'.right.length:=by omega
   have ey:yn-qn=τj.length-r'.right.length:=by omega
   refine⟨⟨j+1,a8,xn-qn+1,c8,B8,a9,yn-qn+1,c9,B9⟩,by show 100000-(j+1)<100000-j;omega,sM,zow,?_,?_,?_⟩
   ·show j+1≤100000;omega
   ·show GB tNat _ a8 (xn-qn+1) c8 B8 (redN g (goR g rows) (actT T) t (j+1) (σ,τ)).1;rw[hsuc,←ex];exact hB8.gb
   ·show GB tTree _ a9 (yn-qn+1) c9 B9 (redN g (goR g rows) (actT T) t (j+1) (σ,τ)).2;rw[hsuc,←ey];exact hB9.gb
 ·have hk:j=100000:=by simp at hk;omega
  have he:=hlast hk;refine AW.exit ?_;refine zC5 ?_;refine AW.draw (ps:=[(4,16),(7,16),(8,16),(10,16),(12,16),(15,16)]) Z Z ?_;refine zC5 ?_;refine WT.gidx (j:=xn-1) hT hx Z Z Z Z Z Z Z Z Z zo (fun b1 hb1=>?_);refine WT.gld1 (x:=topS σj) hT 1 hx hb1 (by rw[hxl];exact htat) Z Z Z Z Z Z (fun z hz=>hz) Z Z Z (fun v hv=>?_);obtain rfl:b1=ib:=by cases hb1;rfl
  obtain rfl:v=_:=(List.singleton_inj.1 hv);refine WT.idxL hT hp3.act Z Z Z Z Z Z Z Z Z zo (fun row' hr1 b2 off2 ro2 cs2 lx2 hb2 hp2' hrel2=>?_);obtain rfl:row'=row:=by rw[hra] at hr1;exact(Option.some.inj hr1).symm
  obtain⟨ra,rn,rc,rfl,hrow3⟩:=hrel2;have hrow3l:=hrow3.len;refine zC5 ?_;refine WT.idxL hT hrow3 Z Z Z Z Z Z Z Z Z zo (fun q hr2 b3 off3 ro3 cs3 lx3 hb3 hp3' hrel3=>?_);obtain rfl:q=(a,b):=by rw[hrb] at hr2;exact(Option.some.inj hr2).symm
  obtain rfl:lx3=_:=hrel3;refine zC5 ?_;refine WT.allocT hT Z Z Z Z Z Z (fun i9 hi9=>?_);refine zC5 ?_;refine⟨(by repeat (first | exact trivial | refine recs_pair rfl rfl (by first | exact keep0 | exact kp 3 4 me me | exact kp 1 2 me me | exact keep1 (keeps_frz hb2) | exact keep1 (keeps_frz hb3)) ?_)),?_⟩
  refine zC5 ?_;refine AW.cond Z (fun h2=>?_) (fun h2=>?_)
  ·have h2:a=2:=by simp at h2;omega
   subst h2;have hact:actT T (topS σj) t=.red b:=hact;refine zC5 ?_;refine AW.le (OwnLe.skip _ (OwnLe.perm (own_ret [] _ _ _ _ _))) ?_;refine AW.ret ⟨_,[[(pi,.cells false (ppCells g p))],[(b1,.cells false (csb++rsb))],B2],⟨_,_,rfl,⟨_,_,rfl,⟨_,_,⟨_,rfl,fun G h0 s0=>loadA_cells (s0.has (p:=0) Z me) (readT_ok hT rfl)⟩,rfl,rfl⟩,rfl⟩,rfl⟩,zsb,_,_,rfl,_,_,_,_,_,_,(0:Nat),(0:Nat),rfl,?_,?_,?_⟩
   ·rw[he];exact hx
   ·rw[he];exact hy
   ·rw[he];show decA (0,0)=actOut (actT T (topS σj) t);rw[hact];rfl
  ·have h2:a≠2:=by intro e;subst e;simp at h2
   obtain⟨ho,hn⟩:=decA_other (b:=b) h2;rw[←hact] at ho hn;refine zC5 ?_;refine AW.le (OwnLe.skip _ (OwnLe.perm (own_ret [] _ _ _ _ _))) ?_;refine AW.ret ⟨_,[[(pi,.cells false (ppCells g p))],[(b1,.cells false (csb++rsb))],B2],⟨_,_,rfl,⟨_,_,rfl,⟨_,_,⟨_,rfl,fun G h0 s0=>loadA_cells (s0.has (p:=0) Z me) (readT_ok hT rfl)⟩,rfl,rfl⟩,rfl⟩,rfl⟩,zsb,_,_,rfl,_,_,_,_,_,_,_,_,rfl,?_,?_,?_⟩
   ·rw[he];exact hx
   ·rw[he];exact hy
   ·rw[he];exact hact.symm.trans ho.symm
theorem actOut_shift{x:Act}{s:Nat}:actOut x=.shift s↔x=.shift s:=by cases x<;>simp[actOut]
theorem actOut_acc{x:Act}:actOut x=.acc↔x=.acc:=by cases x<;>simp[actOut]
theorem decA_shift{a b s:Nat}:decA (a,b)=.shift s↔a=1∧b=s:=by
 unfold decA;split<;>simp_all
theorem decA_acc{a b:Nat}:decA (a,b)=.acc↔a=3:=by
 unfold decA;split<;>simp_all
theorem own_tr(A B C D:List (Nat×Blk))(l:Own):OwnLe (D::A::l) (A::B::C::D::l):=
 (OwnLe.perm (List.Perm.swap _ _ _)).trans (OwnLe.sub (List.Sublist.cons_cons _ (List.Sublist.cons _ (List.Sublist.cons _ (List.Sublist.refl _)))))
def PP.next(p:PP)(sa:Option Addr)(sn sc:Nat)(ta:Option Addr)(tn tc:Nat):PP:={ p with sa:=sa,sn:=sn,sc:=sc,ta:=ta,tn:=tn,tc:=tc,read:=p.read+1 }
theorem put_spec(F:Frz)(g:Gram)(hg:Valid g){T:Tab}{I:List (List Lr)}{rows:List (List Int)}{la:Nat→Lr→Nat→Prop}(hL:LRT g T I rows la){p:PP}{pi:Nat}{σ:List Nat}{τ:List Tree}(hp:PPOk g T F p σ τ){w:List Nat}{i:Nat}(hs:LStk g (goR g rows) w σ τ i)(hσ:σ.length≤2000000)(hw:w.length≤1000){t:Nat}(ht:t<g.terms)(hrd:p.read<2000) :
  Abs.Spec CC 26 [.pointer (some ⟨pi,0,none⟩),.int .i64 t] F [[(pi,.cells false (ppCells g p))]] fun F' v o=>∃p',o=[[(pi,.cells false (ppCells g p'))]]∧
   ((v=.int .i64 0∧p'.read=p.read+1∧∃s',actT T (topS (redN g (goR g rows) (actT T) t 100000 (σ,τ)).1) t=.shift s'∧PPOk g T F' p' ((redN g (goR g rows) (actT T) t 100000 (σ,τ)).1++[s']) ((redN g (goR g rows) (actT T) t 100000 (σ,τ)).2++[.mk (-1) t []]))∨
    (v=.int .i64 10∧p'=p∧∀s',actT T (topS (redN g (goR g rows) (actT T) t 100000 (σ,τ)).1) t≠.shift s')):=by
 have hgt:=hg.range.terms;have hst:=hs.len;unfold ppCells;refine Abs.Spec.fn (n:=57) Tryz.func26 rfl rfl fun own=>?_;refine zC5 ?_;refine AW.cond Z (fun h=>(by exfalso;simp at h;omega)) (fun _=>?_);refine zC5 ?_;refine AW.cond Z (fun h=>(by exfalso;simp at h;omega)) (fun _=>?_);refine zC5 ?_;have hrs:=reduce_spec F g hg hL hp hs hσ hw (pi:=pi) (t:=t) zo;have hln:=redN_len (g:=g) (go:=goR g rows) (act:=actT T) t 100000 (σ,τ);generalize redN g (goR g rows) (actT T) t 100000 (σ,τ)=cN at hrs hln;obtain⟨σN,τN⟩:=cN;dsimp only at hrs hln ⊢;unfold ppCells at hrs
 refine WT.callF (oin:=[[(pi,.cells false (ppCells g p))]]) Tryz.func55 Z Z Z Z Z Z hrs (List.Perm.refl _) (fun F1 v oout hF1 hv=>?_);obtain⟨B1,B2,rfl,xa,xn,xc,ya,yn,yc,a,b,rfl,hx,hy,hact⟩:=hv;have hxl:=hx.len;have hyl:=hy.len;have hp1:=hp.mono hF1;refine zC5 ?_;refine WT.allocT hT Z Z Z Z Z Z (fun i7 hi7=>?_);refine zC5 ?_;refine AW.cond Z (fun h=>?_) (fun h=>?_)
 ·have h:a≠1:=by intro e;subst e;simp at h
  refine zC5 ?_;refine AW.ret ⟨_,[[(pi,.cells false (ppCells g p))]],⟨_,_,rfl,rfl,rfl⟩,?_,p,rfl,.inr ⟨rfl,rfl,fun s' e=>?_⟩⟩
  ·exact List.Sublist.cons _ (List.Sublist.cons_cons _ (List.Sublist.cons _ (List.Sublist.cons _ (List.Sublist.refl _))))
  ·rw[e] at hact;exact h (decA_shift.1 hact).1
 ·have h:a=1:=by simp at h;omega
  subst h;have hsh:actT T (topS σN) t=.shift b:=actOut_shift.1 (hact.symm.trans rfl);refine zC6 ?_;refine WT.buildT hT Z Z Z Z Z Z Z Z Z Z Z Z Z Z (fun i33 hi33=>?_);refine WT.appendG (R:=tNat) (ys:=[b]) hT 3 hx Z (fun _=>rfl) Z Z Z Z Z Z Z Z Z Z Z (fun h0 s0=>news_own hT s0 0 Z Z Z Z) (Cells.single (R:=tNat) (x:=b) rfl) Z (by decide) zom (fun a8 c8 B8 hB8=>?_);refine zC6 ?_;refine WT.callF0 Tryz.func52 Z Z Z Z Z Z (leaf_spec _ t) (fun F2 v hF2 hv=>?_);obtain⟨cs,rfl,hlf⟩:=hv;obtain⟨za,zn,zc,rfl,hza,hzb⟩:=tTree_cases hlf;refine WT.buildT hT Z Z Z Z Z Z Z Z Z Z Z Z Z Z (fun i34 hi34=>?_)
  refine WT.appendG (R:=tTree) (ys:=[.mk (-1) t []]) hT 5 (hy.mono hF2) Z (fun _=>rfl) Z Z Z Z Z Z Z Z Z Z Z (fun h0 s0=>news_own hT s0 0 Z Z Z Z) (Cells.single (R:=tTree) (x:=.mk (-1) t []) hlf) Z (by decide) zom (fun a9 c9 B9 hB9=>?_);refine zC7 ?_;refine AW.freezeAll 4 Z Z (fun F3 hF3 hB3=>?_);have hS:=(hB8.mono hF2).frozen hF3 hB3;refine AW.freezeAll 5 Z Z (fun F4 hF4 hB4=>?_);have hTr:=(hB9.mono hF3).frozen hF4 hB4;have hp4:=((hp1.mono hF2).mono hF3).mono hF4
  refine AW.ret ⟨_,[[(pi,.cells false (ppCells g (p.next a8 (xn+1) c8 a9 (yn+1) c9)))]],⟨_,_,rfl,rfl,rfl⟩,List.Sublist.cons _ (List.Sublist.cons _ (List.Sublist.cons _ (List.Sublist.cons_cons _ (List.Sublist.cons _ (List.Sublist.cons _ (List.Sublist.refl _)))))),_,rfl,.inl ⟨rfl,rfl,b,hsh,⟨hp4.act,hp4.go,hp4.rules,hS.mono hF4,hTr,fun e=>(by simp at e)⟩⟩⟩
theorem tree_spec(F:Frz)(g:Gram)(hg:Valid g){T:Tab}{I:List (List Lr)}{rows:List (List Int)}{la:Nat→Lr→Nat→Prop}(hL:LRT g T I rows la){p:PP}{pi:Nat}{σ:List Nat}{τ:List Tree}(hp:PPOk g T F p σ τ){w:List Nat}{i:Nat}(hs:LStk g (goR g rows) w σ τ i)(hσ:σ.length≤2000000)(hw:w.length≤1000) :
  Abs.Spec CC 27 [.pointer (some ⟨pi,0,none⟩)] F [[(pi,.cells false (ppCells g p))]] fun F' v o=>o=[[(pi,.cells false (ppCells g p))]]∧∃ly e,v=.tuple ⟨[.agg ⟨ly⟩,.int .i64 (e:Nat)]⟩∧
   ((e=0∧∃X,actT T (topS (redN g (goR g rows) (actT T) g.terms 100000 (σ,τ)).1) g.terms=.acc∧(redN g (goR g rows) (actT T) g.terms 100000 (σ,τ)).2=[X]∧TreeOf g w ⟨false,g.start⟩ X 0 i∧tTree.rel F' ly X)∨
    (e=10∧ly=[.int .i64 0,.int .i64 0,.slice none 0 0]∧actT T (topS (redN g (goR g rows) (actT T) g.terms 100000 (σ,τ)).1) g.terms≠.acc)):=by
 have hgt:=hg.range.terms;have hst:=hs.len;unfold ppCells;refine Abs.Spec.fn (n:=26) Tryz.func27 rfl rfl fun own=>?_;refine zC5 ?_;refine WT.allocT hT Z Z Z Z Z Z (fun i2 hi2=>?_);refine zC5 ?_;have hrs:=reduce_spec F g hg hL hp hs hσ hw (pi:=pi) (t:=g.terms) (Nat.le_refl _);have hln:=redN_len (g:=g) (go:=goR g rows) (act:=actT T) g.terms 100000 (σ,τ);have hsN:=hs.redN hL.lr hL.only (t:=g.terms) 100000 (c:=(σ,τ));generalize redN g (goR g rows) (actT T) g.terms 100000 (σ,τ)=cN at hrs hln hsN;obtain⟨σN,τN⟩:=cN;dsimp only at hrs hln hsN ⊢;unfold ppCells at hrs
 refine WT.callF (oin:=[[(pi,.cells false (ppCells g p))]]) Tryz.func55 Z Z Z Z Z Z hrs (List.Perm.swap _ _ _) (fun F1 v oout hF1 hv=>?_);obtain⟨B1,B2,rfl,xa,xn,xc,ya,yn,yc,a,b,rfl,hx,hy,hact⟩:=hv;have hxl:=hx.len;have hyl:=hy.len;have hp1:=hp.mono hF1;refine zC5 ?_;refine WT.allocT hT Z Z Z Z Z Z (fun i7 hi7=>?_);refine zC5 ?_;refine AW.cond Z (fun h=>?_) (fun h=>?_)
 ·have h:a≠3:=by intro e;subst e;simp at h
  refine zC5 ?_;refine AW.le ((own_tr _ _ _ _ _).trans (OwnLe.skip _ oR)) ?_;refine AW.ret ⟨_,[[(pi,.cells false (ppCells g p))]],⟨_,_,⟨_,rfl,fun G h0 s0=>loadA_cells (s0.has (p:=0) Z me) (readT_ok hT rfl)⟩,⟨_,_,rfl,rfl,rfl⟩,rfl⟩,zsb,rfl,_,10,rfl,.inr ⟨rfl,rfl,fun e=>?_⟩⟩;rw[e] at hact;exact h (decA_acc.1 hact)
 ·have h:a=3:=by simp at h;omega
  subst h;have hacc:actT T (topS σN) g.terms=.acc:=actOut_acc.1 (hact.symm.trans rfl);obtain⟨X,rfl,hX⟩:=hsN.acc hL.lr hL.only hacc;refine zC6 ?_;refine WT.gidx (j:=0) hT hy Z Z Z Z Z Z Z Z Z (by rw[hyl];exact Nat.zero_lt_one) (fun b1 hb1=>?_);refine WT.gldS (x:=X) hT 3 hy hb1 Z Z Z Z Z Z Z (fun z hz=>hz) Z Z Z (fun l hl=>?_);obtain⟨r,u,ks⟩:=X;obtain⟨dd,hdd⟩:=id hl;refine WT.callF0 Tryz.func56 Z Z Z Z Z Z (copyTree_spec dd F1 _ _ hdd) (fun F2 v hF2 hv=>?_);obtain⟨cs,rfl,hcs⟩:=hv;obtain⟨za,zn,zc,rfl,hza,hzb⟩:=tTree_cases hcs;refine zC6 ?_
  refine AW.le ((own_tr _ _ _ _ _).trans (OwnLe.skip _ oR)) ?_;exact AW.ret ⟨_,[[(pi,.cells false (ppCells g p))]],⟨_,_,⟨_,rfl,fun G h0 s0=>loadA_cells (s0.has (p:=0) rfl me) (readT_ok hT rfl)⟩,⟨_,_,rfl,rfl,rfl⟩,rfl⟩,zsb,rfl,_,0,rfl,.inl ⟨rfl,_,hacc,rfl,hX,hcs⟩⟩
theorem confAt_step{g:Gram}{go:Nat→Sym→Option Nat}{act:Nat→Nat→Act}{M:Nat}{w:List Nat}{i t:Nat}{c:Conf}(h:confAt g go act M (w.take i).reverse=some c)(ht:w[i]?=some t) :
  (∀s',act (topS (redN g go act t M c).1) t=.shift s'→confAt g go act M (w.take (i+1)).reverse=some ((redN g go act t M c).1++[s'],(redN g go act t M c).2++[.mk (-1) t []]))∧
  ((∀s',act (topS (redN g go act t M c).1) t≠.shift s')→confAt g go act M (w.take (i+1)).reverse=none):=by
 rw[rev_take_succ ht];unfold confAt;rw[h];dsimp only;refine⟨fun s' e=>by rw[e],fun e=>?_⟩;cases ha:act (topS (redN g go act t M c).1) t with
 | shift s'=>exact absurd ha (e s')
 | _=>rfl
theorem new_spec(F:Frz)(g:Gram)(hg:Valid g)(ht5:g.terms≤5){method:Nat}(hm:method=1∨method=2∨method=3){T:Tab}(hT2:tableF g method=some T)(hc:T.conf=[]){v:Value}(hv:TabV F method T v){a:Option Addr}{m c:Nat}(hr:Arr tRule F a m c g.rules) :
  Abs.Spec CC 25 [v,.agg ⟨gramCells g a m c⟩] F [] fun F' v o=>∃pi p,o=[[(pi,.cells false (ppCells g p))]]∧v=.tuple ⟨[.pointer (some ⟨pi,0,none⟩),.int .i64 0]⟩∧PPOk g T F' p [0] []∧p.read=0:=by
 obtain⟨a1,n1,c1,a2,n2,c2,a3,n3,c3,rfl,h1,h2,h3⟩:=id hv;have hmb:method≤3:=by omega
 have hl3:=h3.len;rw[hc] at hl3;have hl3:n3=0:=hl3;subst hl3;have hrl:=hr.len;have hgr:=hg.range.rules;unfold gramCells;refine Abs.Spec.fn (n:=32) Tryz.func25 rfl rfl fun own=>?_;refine AW.seq (AW.reg ?_);refine WT.boxT Z Z Z Z Z Z (fun i2 hi2=>?_);refine WT.boxT Z Z Z Z Z Z (fun i3 hi3=>?_);refine zB4 ?_;have hck:=tcheck_spec F g hg ht5 hm hT2 hv hr;unfold gramCells at hck;refine WT.callV Tryz.func53 Z Z Z Z Z Z hck (fun v hv=>?_);subst hv;refine zB4 ?_;refine AW.cond Z (fun h=>(by cases h)) (fun _=>?_);refine zB4 ?_;refine AW.cond Z (fun h=>(by cases h)) (fun _=>?_);refine zB4 ?_
 have hof:=of_spec F g hg ht5 method hm hr;unfold gramCells at hof;refine WT.callF0 Tryz.func8 Z Z Z Z Z Z hof (fun F1 v hF1 hv1=>?_);rcases hv1 with ⟨hn,_⟩ | ⟨T',x,hx1,rfl,hx2⟩
 ·rw[hT2] at hn;cases hn
 rw[hT2] at hx1;obtain rfl:=Option.some.inj hx1;obtain⟨b1,m1,d1,b2,m2,d2,b3,m3,d3,rfl,g1,g2,g3⟩:=id hx2;refine zB4 ?_;refine WT.allocT hT Z Z Z Z Z Z (fun i7 hi7=>?_);refine zB4 ?_;refine AW.draw (ps:=[(0,2),(0,3),(1,3)]) Z Z ?_;refine zB4 ?_;have hcp:=copy_spec F1 g (hr.mono hF1) zo (fun r hr=>by have:=(hg.right r hr).2.1;omega);unfold gramCells at hcp;refine WT.callN Tryz.func54 Z Z Z Z Z Z hcp (fun F2 v BG hF2 hv=>?_);obtain⟨ga,gc,rfl,hG⟩:=hv;refine WT.freezeAll 0 Z Z (fun F3 hF3 hB3=>?_);have hG:=hG.frozen hF3 hB3;refine WT.buildT hT Z Z Z Z Z Z Z Z Z Z Z Z Z Z (fun i29 hi29=>?_)
 refine WT.freezeAll 0 Z Z (fun F4 hF4 hB4=>?_);have hS:Arr tNat F4 (some ⟨i29,0,none⟩) 1 1 [0]:=Bld.frozen (F:=F3) (B:=[(i29,.cells false [.int .i64 0])]) ⟨rfl,.inr ⟨i29,_,rfl,rfl,rfl,Cells.single (R:=tNat) (x:=0) rfl,by decide⟩⟩ hF4 hB4;have hF14:=(hF2.trans hF3).trans hF4;refine zB4 ?_;refine WT.boxT Z Z Z Z Z Z (fun i31 hi31=>?_);refine zB4 ?_;refine⟨zrC,?_⟩;refine AW.ret ⟨_,[_],⟨_,_,rfl,⟨_,_,rfl,rfl,rfl⟩,rfl⟩,?_,i31,⟨method,b1,m1,d1,b2,m2,d2,b3,m3,d3,ga,m,gc,some ⟨i29,0,none⟩,1,1,none,0,0,0⟩,rfl,rfl,⟨g1.mono hF14,g2.mono hF14,hG.mono hF4,hS,Arr.nil_ _ _,fun _=>rfl⟩,rfl⟩
 exact List.Sublist.cons_cons _ (by repeat (first | exact List.Sublist.refl _ | refine List.Sublist.cons _ ?_))
structure ShS where
 p:PP
 σ:List Nat
 τ:List Tree
theorem shParse_spec(F:Frz)(g:Gram)(hg:Valid g)(ht5:g.terms≤5){method:Nat}(hm:method=1∨method=2∨method=3){T:Tab}(hT2:tableF g method=some T)(hc:T.conf=[]){I:List (List Lr)}{rows:List (List Int)}{la:Nat→Lr→Nat→Prop}(hL:LRT g T I rows la){v:Value}(hv:TabV F method T v){a:Option Addr}{m c:Nat}(hr:Arr tRule F a m c g.rules)
  {b:Option Addr} {n d:Nat} {w:List Nat} (hw:Arr tNat F b n d w) (hw12:w.length≤12) (hw2:∀t∈w,t<g.terms) :
  Abs.Spec CC 10 [v,.agg ⟨gramCells g a m c⟩,.slice b n d] F [] fun F' v o=>o=[]∧∃ly at_ e,v=.tuple ⟨[.agg ⟨ly⟩,.int .i64 (at_:Nat),.int .i64 (e:Nat)]⟩∧
   ((e=0∧at_=0∧∃X c0,confAt g (goR g rows) (actT T) 100000 w.reverse=some c0∧actT T (topS (redN g (goR g rows) (actT T) g.terms 100000 c0).1) g.terms=.acc∧(redN g (goR g rows) (actT T) g.terms 100000 c0).2=[X]∧TreeOf g w ⟨false,g.start⟩ X 0 w.length∧tTree.rel F' ly X)∨
    (e=10∧ly=[.int .i64 0,.int .i64 0,.slice none 0 0]∧at_<w.length∧(∃c0,confAt g (goR g rows) (actT T) 100000 (w.take at_).reverse=some c0)∧confAt g (goR g rows) (actT T) 100000 (w.take (at_+1)).reverse=none)∨
    (e=10∧ly=[.int .i64 0,.int .i64 0,.slice none 0 0]∧at_=w.length∧∃c0,confAt g (goR g rows) (actT T) 100000 w.reverse=some c0∧actT T (topS (redN g (goR g rows) (actT T) g.terms 100000 c0).1) g.terms≠.acc)):=by
 obtain⟨a1,n1,c1,a2,n2,c2,a3,n3,c3,rfl,h1,h2,h3⟩:=id hv;have hmb:method≤3:=by omega
 have hrl:=hr.len;have hwl:=hw.len;have hgr:=hg.range.rules;unfold gramCells;refine Abs.Spec.fn (n:=61) Tryz.func10 rfl rfl fun own=>?_;refine AW.seq (AW.reg ?_);refine WT.boxT Z Z Z Z Z Z (fun i3 hi3=>?_);refine WT.boxT Z Z Z Z Z Z (fun i4 hi4=>?_);refine WT.allocT hT Z Z Z Z Z Z (fun i6 hi6=>?_);refine zB4 ?_;have hnw:=new_spec F g hg ht5 hm hT2 hc hv hr;unfold gramCells at hnw;refine WT.callF Tryz.func25 Z Z Z Z Z Z hnw (List.Perm.refl _) (fun F1 v oout hF1 hv=>?_);obtain⟨pi,p,rfl,rfl,hp,hp0⟩:=hv;refine zB4 ?_;refine AW.cond Z (fun h=>(by cases h)) (fun _=>?_);refine zB4 ?_
 have hgw:=gword_spec F1 g (a:=a) (m:=m) (c:=c) 2000 (by decide) (hw.mono hF1) zo;rw[wordErr_ok zo hw2] at hgw;unfold gramCells at hgw;refine WT.callV Tryz.func21 Z Z Z Z Z Z hgw (fun v hv=>?_);subst hv;refine zB4 ?_;refine AW.cond Z (fun h=>(by cases h)) (fun _=>?_);refine zB4 ?_;refine AW.range (S:=ShS) (fun _=>[]) (fun s=>[(pi,.cells false (ppCells g s.p))]::[(i6,.cells false [.int .i64 0,.int .i64 0,.slice none 0 0])]::own) (fun j s G=>PPOk g T G s.p s.σ s.τ∧s.p.read=j∧s.σ.length≤1+j*100001∧confAt g (goR g rows) (actT T) 100000 (w.take j).reverse=some (s.σ,s.τ)) n ⟨p,[0],[]⟩
  Z Z Z Z Z Z Z Z Z zo rfl rfl (fun _=>rfl) (fun _=>rfl) sM (OwnLe.cons _ (OwnLe.cons _ (OwnLe.skip _ (OwnLe.skip _ oR)))) ⟨hp,hp0,Nat.le_refl _,rfl⟩ ?_ ?_
 ·intro j s F2 hF2 hj hP;obtain⟨p,σ,τ⟩:=s;obtain⟨hp,hpr,hσ,hcf⟩:=hP;dsimp only at hp hpr hσ hcf ⊢;have hs:=confAt_stk hL.lr hL.only j (w:=w) zo hcf;dsimp only at hs;have hw3:=(hw.mono hF1).mono hF2;refine zB4 ?_;refine WT.idxL hT hw3 Z Z Z Z Z Z Z Z Z zo (fun t htj b1 off1 ro1 cs1 lx1 hb1 hp1 hrel1=>?_);obtain rfl:lx1=_:=hrel1;have htt:=hw2 t (gM htj);obtain⟨hst1,hst2⟩:=confAt_step hcf htj;have hln:=redN_len (g:=g) (go:=goR g rows) (act:=actT T) t 100000 (σ,τ);refine zB4 ?_;have hpt:=put_spec F2 g hg hL hp hs zo zo htt (pi:=pi) zo
  refine WT.callF (oin:=[[(pi,.cells false (ppCells g p))]]) Tryz.func26 Z Z Z Z Z Z hpt (List.Perm.refl _) (fun F3 v oout hF3 hv=>?_);obtain⟨p',rfl,hv⟩:=hv;rcases hv with ⟨rfl,hr1,s',hs1,hok⟩ | ⟨rfl,rfl,hno⟩
  ·refine zB4 ?_;refine AW.cond Z (fun h=>(by cases h)) (fun _=>?_);refine zB4 ?_;refine⟨⟨p',_,_⟩,sM,zow,hok,by dsimp only;omega,?_,hst1 s' hs1⟩;dsimp only;rw[List.length_append,List.length_singleton];dsimp only at hln;omega
  ·refine zB4 ?_;refine AW.cond Z (fun _=>?_) (fun h=>(by cases h));refine zB4 ?_;refine AW.ret ⟨_,[],⟨_,_,⟨_,rfl,fun G h0 s0=>loadA_cells (s0.has (p:=1) Z me) (readT_ok hT rfl)⟩,⟨_,_,rfl,⟨_,_,rfl,rfl,rfl⟩,rfl⟩,rfl⟩,zsb,rfl,_,j,10,rfl,.inr (.inl ⟨rfl,rfl,by omega,⟨_,hcf⟩,hst2 hno⟩)⟩
 ·intro s F2 hF2 hP;obtain⟨p,σ,τ⟩:=s;obtain⟨hp,hpr,hσ,hcf⟩:=hP;dsimp only at hp hpr hσ hcf ⊢;have hs:=confAt_stk hL.lr hL.only n (w:=w) zo hcf;dsimp only at hs;rw[List.take_of_length_le zo] at hcf;refine zB4 ?_;have htr:=tree_spec F2 g hg hL hp hs zo zo (pi:=pi);refine WT.callF (oin:=[[(pi,.cells false (ppCells g p))]]) Tryz.func27 Z Z Z Z Z Z htr (List.Perm.refl _) (fun F3 v oout hF3 hv=>?_);obtain⟨rfl,ly,e,rfl,hv⟩:=hv;rcases hv with ⟨rfl,X,hx1,hx2,hx3,hx4⟩ | ⟨rfl,rfl,hx1⟩
  ·obtain⟨r,u,ks⟩:=X;obtain⟨za,zn,zc,rfl,hza,hzb⟩:=tTree_cases hx4;refine zB4 ?_;refine WT.allocT hT Z Z Z Z Z Z (fun i15 hi15=>?_);refine zB4 ?_;refine AW.cond Z (fun h=>(by cases h)) (fun _=>?_);refine zB4 ?_;rw[hwl] at hx3;refine AW.ret ⟨_,[],⟨_,_,⟨_,rfl,fun G h0 s0=>loadA_cells (s0.has (p:=2) Z me) (readT_ok hT rfl)⟩,⟨_,_,rfl,⟨_,_,rfl,rfl,rfl⟩,rfl⟩,rfl⟩,zsb,rfl,_,0,0,rfl,.inl ⟨rfl,rfl,_,_,hcf,hx1,hx2,hx3,hx4⟩⟩
  ·refine zB4 ?_;refine WT.allocT hT Z Z Z Z Z Z (fun i15 hi15=>?_);refine zB4 ?_;refine AW.cond Z (fun _=>?_) (fun h=>(by cases h));refine zB4 ?_;refine AW.ret ⟨_,[],⟨_,_,⟨_,rfl,fun G h0 s0=>loadA_cells (s0.has (p:=2) Z me) (readT_ok hT rfl)⟩,⟨_,_,rfl,⟨_,_,rfl,rfl,rfl⟩,rfl⟩,rfl⟩,zsb,rfl,_,n,10,rfl,.inr (.inr ⟨rfl,rfl,hwl,_,hcf,hx1⟩)⟩
theorem confAt_less{g:Gram}{go:Nat→Sym→Option Nat}{act:Nat→Nat→Act}{M:Nat}{w:List Nat}:∀(k:Nat) {c:Conf},confAt g go act M w.reverse=some c→confAt g go act M (w.take k).reverse≠none:=by
 have key:∀(d i:Nat),i+d=w.length→confAt g go act M w.reverse≠none→confAt g go act M (w.take i).reverse≠none:=by
  intro d
  induction d with
  | zero=>
   intro i hi h;rw[List.take_of_length_le zo];exact h
  | succ d ih=>
   intro i hi h hn;have h1:=ih (i+1) zo h;have ht:=gE (show i<w.length by omega);rw[rev_take_succ ht] at h1;unfold confAt at h1;rw[hn] at h1;exact h1 rfl
 intro k c h;rcases Nat.lt_or_ge k w.length with hk | hk
 ·exact key (w.length-k) k zo (fun e=>by rw[h] at e;cases e)
 ·rw[List.take_of_length_le hk];intro e;rw[h] at e;cases e
theorem prod1_spec(F:Frz){ie:Nat}{ro:Bool}{ea:Option Addr}{en ec:Nat}{E:List Bool}(hi:F ie=some (.cells ro [.slice ea en ec]))(hE:Arr tBool F ea en ec E)(y:Sym)(hy:y.term=true∨y.n<E.length) :
  Abs.Spec CC 18 [.agg ⟨[.bool y.term,.int .i64 y.n]⟩,.pointer (some ⟨ie,0,none⟩)] F [] fun _ v o=>o=[]∧v=.bool (!y.term&&!(E.getD y.n false)):=by
 have hEl:=hE.len;refine Abs.Spec.fn (n:=15) Tryz.func18 rfl rfl fun own=>?_;refine AW.seq (AW.reg ?_);refine WT.boxT Z Z Z Z Z Z (fun i2 hi2=>?_);refine zB4 ?_;refine WT.split 7 Z (fun hty=>?_) (fun hty=>?_)
 ·have hty:y.term=false:=by simpa using hty
  have hyn:y.n<E.length:=by rcases hy with h | h;rw[hty] at h;cases h;exact h
  refine zB4 ?_;refine WT.idxL hT hE Z Z Z Z Z Z Z Z Z hyn (fun z hz b3 off3 ro3 cs3 lx3 hb3 hp3 hrel3=>?_);obtain rfl:lx3=_:=hrel3;refine zB4 ?_;refine AW.ret ⟨_,[],⟨_,_,rfl,rfl,rfl⟩,zsb,rfl,?_⟩;rw[hty,List.getD_eq_getElem?_getD,hz];rfl
 ·have hty:y.term=true:=by simpa using hty
  refine zB4 ?_;refine AW.ret ⟨_,[],⟨_,_,rfl,rfl,rfl⟩,zsb,rfl,?_⟩;rw[hty];rfl
def PrInv(g:Gram)(has:List Bool):Prop:=has.length=g.nons∧∀n,has[n]?=some true→HasWord g n
theorem set_bool(s:List Bool)(i:Nat)(b:Bool):(s.map cBool.cell).set (0+i*1) (.bool b)=(s.set i b).map cBool.cell:=by
 rw[List.map_set,Nat.zero_add,Nat.mul_one];rfl
theorem productive_spec(F:Frz)(g:Gram)(hg:Valid g){a:Option Addr}{m c:Nat}(hr:Arr tRule F a m c g.rules) :
  Abs.Spec CC 7 [.agg ⟨gramCells g a m c⟩] F [] fun F' v o=>o=[]∧∃b,v=.bool b∧(b=true→∀n,n<g.nons→HasWord g n):=by
 have hrl:=hr.len;have hgr:=hg.range.rules;have hgn:=hg.range.nons;unfold gramCells;refine Abs.Spec.fn (n:=41) Tryz.func7 rfl rfl fun own=>?_;refine AW.seq (AW.reg ?_);refine WT.boxT Z Z Z Z Z Z (fun i1 hi1=>?_);refine zC4 ?_;refine WT.makeT (l:=g.nons) hT Z Z Z Z Z Z Z Z Z Z Z Z zom (fun io hio=>?_);rw[cap_eq,if_neg (show ¬g.nons=0 by omega)];refine WT.allocT hT Z Z Z Z Z Z (fun i3 hi3=>?_);refine zC4 ?_
 refine AW.range (S:=List Bool) (fun _=>[]) (fun s=>[(i3,.cells false [.slice (some ⟨io,0,none⟩) g.nons 1]),(io,.cells false (s.map cBool.cell))]::[(i1,.cells false [.int .i64 g.terms,.int .i64 g.nons,.int .i64 g.start,.slice a m c])]::own) (fun _ s G=>PrInv g s) g.nons (List.replicate g.nons false)
  Z Z Z Z Z Z Z Z Z zo rfl rfl (fun _=>rfl) (fun _=>rfl) sM (by rw[List.map_replicate];exact OwnLe.flat (List.Perm.refl _)) ⟨by simp,fun n h=>(by rw[List.getElem?_replicate] at h;split at h<;>cases h)⟩ ?_ ?_
 ·intro j s F1 hF1 hj hP;have hr1:=hr.mono hF1;refine zC4 ?_;refine AW.range (S:=List Bool) (fun _=>[]) (fun s=>[(i3,.cells false [.slice (some ⟨io,0,none⟩) g.nons 1]),(io,.cells false (s.map cBool.cell))]::[(i1,.cells false [.int .i64 g.terms,.int .i64 g.nons,.int .i64 g.start,.slice a m c])]::own) (fun _ s G=>PrInv g s) m s
   Z Z Z Z Z Z Z Z Z zo rfl rfl (fun _=>rfl) (fun _=>rfl) sM oR hP ?_ ?_
  ·intro k s F2 hF2 hk hP;obtain⟨hsl,hsw⟩:=hP;have hr2:=hr1.mono hF2;refine zC4 ?_;refine WT.idxL hT hr2 Z Z Z Z Z Z Z Z Z zo (fun r hrk b1 off1 ro1 cs1 lx1 hb1 hp1 hrel1=>?_);obtain⟨ra,rn,rc,rfl,hright⟩:=hrel1;have hrm:=gM hrk;obtain⟨hrlt,hr4,hrsy⟩:=hg.right r hrm;have hrnl:=hright.len;obtain⟨b,hb⟩:∃b,s[r.left]?=some b:=⟨_,gE zo⟩;have hcell:(s.map cBool.cell)[0+r.left*1]?=some (.bool b):=by rw[Nat.zero_add,Nat.mul_one,List.getElem?_map,hb];rfl
   refine zC4 ?_;refine WT.allocT hT Z Z Z Z Z Z (fun i5 hi5=>?_);refine zC4 ?_;refine AW.draw (ps:=[(0,12),(2,12)]) Z Z ?_;refine zC4 ?_;refine WT.idxA (j:=r.left) (s:=1) hT Z Z Z Z Z Z Z Z Z hrlt ?_;refine WT.loadAt hT 1 Z Z Z Z Z Z (List.mem_cons_of_mem _ me) Z Z hcell ?_;cases b with
   | true=>
    refine zC4 ?_;refine WT.idxA (j:=r.left) (s:=1) hT Z Z Z Z Z Z Z Z Z hrlt ?_;refine WT.storeAt hT 1 1 Z Z Z Z Z Z Z Z Z Z (by rw[List.length_map];omega) Z Z ?_;refine zC4 ?_;refine⟨(by repeat (first | exact trivial | refine recs_pair rfl rfl (by first | exact keep0 | exact kp 1 1 me me | exact kp 0 0 me me) ?_)),?_⟩
    refine⟨s.set r.left true,sM,?_,by rw[List.length_set];exact hsl,fun n hn=>?_⟩
    ·rw[set_bool];exact zow
    ·by_cases e:n=r.left
     ·subst e;exact hsw _ hb
     ·rw[List.getElem?_set_ne (Ne.symm e)] at hn;exact hsw n hn
   | false=>
    refine zC4 ?_;have hys:∀y∈r.right,y.term=true∨y.n<s.length:=fun y hy=>by
     have:=hrsy y hy;obtain⟨t,q⟩:=y;cases t with
     | true=>exact .inl rfl
     | false=>exact .inr (by rw[hsl];exact this)
    refine WT.callLend 1 Tryz.func17 Z Z Z Z Z Z Z (fun G hG hBG=>symAny_spec G (hright.mono hG) zo (fun y=>!y.term&&!(s.getD y.n false)) (first:=[]) (capt:=[.pointer (some ⟨i3,0,none⟩)]) Tryz.func18 Z (fun y hy=>prod1_spec G (hBG i3 _ me) (by
     have:=arr_of_cells (K:=cBool) (R:=tBool) (F:=G) (id:=io) (row:=s) (c:=if s.length=0 then 0 else 1) (ro:=false) rfl (fun _ _=>rfl) rfl (hBG io _ (by simp));rw[hsl,if_neg zo] at this;exact this) y (hys y hy))) (fun v hv=>?_)
    subst hv;refine zC4 ?_;refine WT.idxA (j:=r.left) (s:=1) hT Z Z Z Z Z Z Z Z Z hrlt ?_;refine WT.storeAt hT 1 1 Z Z Z Z Z Z Z Z Z Z (by rw[List.length_map];omega) Z Z ?_;refine zC4 ?_;refine⟨(by repeat (first | exact trivial | refine recs_pair rfl rfl (by first | exact keep0 | exact kp 1 1 me me | exact kp 0 0 me me) ?_)),?_⟩
    refine⟨s.set r.left (!(r.right.any fun y=>!y.term&&!(s.getD y.n false))),sM,?_,by rw[List.length_set];exact hsl,fun n hn=>?_⟩
    ·rw[set_bool];exact zow
    ·by_cases e:n=r.left
     ·subst e;rw[List.getElem?_set_self zo] at hn;have hn:=Option.some.inj hn;refine hasWord_rule hrm fun y hy=>?_;have h1:r.right.any (fun y=>!y.term&&!(s.getD y.n false))=false:=by simpa using hn
      have h2:=List.any_eq_false.1 h1 y hy;rcases hys y hy with h3 | h3
      ·exact .inl h3
      ·by_cases h4:y.term=true
       ·exact .inl h4
       ·refine .inr (hsw _ ?_);have h5:s.getD y.n false=true:=by simpa [h4] using h2
        rw[gE h3];rw[List.getD_eq_getElem?_getD,gE h3] at h5;exact congrArg some h5
     ·rw[List.getElem?_set_ne (Ne.symm e)] at hn;exact hsw n hn
  ·intro s F2 hF2 hP;exact⟨s,sM,zow,hP⟩
 ·intro s F1 hF1 hP;obtain⟨hsl,hsw⟩:=hP;refine zC4 ?_
  refine WT.callLend 0 Tryz.func19 Z Z Z Z Z Z Z (fun G hG hBG=>boolContains_spec G (by
   have:=arr_of_cells (K:=cBool) (R:=tBool) (F:=G) (id:=io) (row:=s) (c:=if s.length=0 then 0 else 1) (ro:=false) rfl (fun _ _=>rfl) rfl (hBG io _ (by simp));rw[hsl,if_neg zo] at this;exact this) zo false) (fun v hv=>?_)
  subst hv;refine zC4 ?_;refine AW.ret ⟨_,[],⟨_,_,rfl,rfl,rfl⟩,zsb,rfl,_,rfl,fun h n hn=>hsw n ?_⟩;have h:false∉s:=by simpa using h
  obtain⟨b,hb⟩:∃b,s[n]?=some b:=⟨_,gE zo⟩;cases b with
  | true=>exact hb
  | false=>exact absurd (gM hb) h
theorem treeEqF_spec(F:Frz){a b:Option Addr}{m c d:Nat}{xs:List Tree}(hx:Arr tTree F a m c xs)(hy:Arr tTree F b m d xs)(hm:m≤1000000)
  (hcmp:∀G lx ly (x:Tree),x∈xs→tTree.rel G lx x→tTree.rel G ly x→Abs.Spec CC 11 [.agg ⟨lx⟩,.agg ⟨ly⟩] G [] fun _ v o=>o=[]∧v=.bool true) :
  Abs.Spec CC 28 [.slice a m c,.slice b m d,.func (.func 11) ⟨[]⟩ ⟨[]⟩] F [] fun _ v o=>o=[]∧v=.bool true:=by
 refine Abs.Spec.fn (n:=32) Tryz.func28 rfl rfl fun own=>?_;have hxlen:=hx.len;refine zB4 ?_;refine AW.cond Z (fun h=>(by exfalso;simp at h)) (fun _=>?_);refine zB4 ?_;refine AW.range (S:=Unit) (fun _=>[]) (fun _=>own) (fun j _ G=>True) m () Z Z Z Z Z Z Z Z Z zo Z Z (fun _=>rfl) (fun _=>rfl) sM oR trivial ?_ ?_
 ·intro j _ F1 hF1 hj hP;have hx1:=hx.mono hF1;have hy1:=hy.mono hF1;refine zB4 ?_;refine WT.idxL hT hx1 Z Z Z Z Z Z Z Z Z zo (fun x hxj b1 off ro cs lx hb hp1 hrel=>?_);have hrelx:=hrel;obtain⟨xr,xt,xks⟩:=x;obtain⟨xa,xn,xc,rfl,_⟩:=tTree_cases hrel;refine zB4 ?_;refine WT.allocT hT Z Z Z Z Z Z (fun i8 hi8=>?_);refine zB4 ?_;refine WT.idxL hT hy1 Z Z Z Z Z Z Z Z Z zo (fun y hyj b2 off2 ro2 cs2 ly hb2 hp2 hrel=>?_);obtain rfl:y=.mk xr xt xks:=by rw[hxj] at hyj;exact(Option.some.inj hyj).symm
  have hrely:=hrel;obtain⟨ya,yn,yc,rfl,_⟩:=tTree_cases hrel;refine zB4 ?_;refine WT.allocT hT Z Z Z Z Z Z (fun i9 hi9=>?_);refine zB4 ?_;refine WT.callC Tryz.func11 Z Z Z Z Z Z Z Z (hcmp _ _ _ _ (gM hxj) hrelx hrely) (fun v hv=>?_);subst hv;refine zB4 ?_;refine AW.cond Z (fun h=>(by cases h)) (fun _=>?_);refine zB4 ?_;exact⟨(),sM,OwnLe.skip _ (OwnLe.skip _ oR),trivial⟩
 ·intro _ F1 hF1 hP;refine zB4 ?_;exact AW.ret ⟨_,[],⟨_,_,rfl,rfl,rfl⟩,zsb,rfl,rfl⟩
theorem sameTree_spec:∀(N:Nat) (F:Frz) (lx ly:List Value) (x:Tree),x.pre.length<N→tTree.rel F lx x→tTree.rel F ly x→Abs.Spec CC 11 [.agg ⟨lx⟩,.agg ⟨ly⟩] F [] fun _ v o=>o=[]∧v=.bool true
 | 0,_,_,_,_,h,_,_=>by omega
 | N+1,F,lx,ly,.mk r t ks,hN,hx,hy=>by
  obtain⟨xa,xn,xc,rfl,hxa,hkb⟩:=tTree_cases hx;obtain⟨ya,yn,yc,rfl,hya,_⟩:=tTree_cases hy;obtain rfl:yn=xn:=by rw[hxa.len,hya.len]
  have hxl:=hxa.len;have hpe:(Tree.mk r t ks).pre.length=(preL ks).length+1:=rfl;refine Abs.Spec.fn (n:=24) Tryz.func11 rfl rfl fun own=>?_;refine AW.seq (AW.reg ?_);refine WT.boxT Z Z Z Z Z Z (fun i2 hi2=>?_);refine WT.boxT Z Z Z Z Z Z (fun i3 hi3=>?_);refine zB4 ?_;refine WT.know (v':=.bool true) 10 Z (by congr 1;simp) ?_;refine zB4 ?_;refine WT.know (v':=.bool true) 17 Z (by congr 1;simp) ?_;refine zB4 ?_;refine WT.callV Tryz.func28 Z Z Z Z Z Z (treeEqF_spec _ hxa hya zo (fun G lx ly x hm h1 h2=>sameTree_spec N G lx ly x (by have:=preL_mem hm;omega) h1 h2)) (fun v hv=>?_);subst hv
  refine zB4 ?_;exact AW.ret ⟨_,[],⟨_,_,rfl,rfl,rfl⟩,zsb,rfl,rfl⟩
theorem few_of{g:Gram}{P P':List (List Bool)}(hP:∀i r,g.rules[i]?=some r→RowP g r (P.getD i []))(hP':∀i r,g.rules[i]?=some r→RowP g r (P'.getD i [])){n t:Nat}(h:fewC g P n t):fewC g P' n t:=by
 have:candsF g P' n t g.rules.length=candsF g P n t g.rules.length:=by
  unfold candsF;refine List.filter_congr fun i hi=>?_;have hr:=gE (List.mem_range.1 hi);unfold candB;rw[hr];congr 1;rw[Bool.eq_iff_iff,(hP _ _ hr).2,(hP' _ _ hr).2]
 unfold fewC at h ⊢;rw[this];exact h
theorem same_place{g:Gram}{w:List Nat}(hg:Small g)(hP:∀n,n<g.nons→HasWord g n){T:Tab}{I:List (List Lr)}{rows:List (List Int)}{la:Nat→Lr→Nat→Prop}(hL:LRT g T I rows la)(hw:w.length≤10){j at_:Nat}(hj:PStop g w j)(hat:at_≤w.length)(hat2:confAt g (goR g rows) (actT T) 100000 (w.take at_).reverse≠none)
  (hat3:at_<w.length→confAt g (goR g rows) (actT T) 100000 (w.take (at_+1)).reverse=none):j=at_:=by
 obtain⟨h1,h2,h3⟩:=hj.place hg.valid hP;have h4:Via0 g (w.take at_):=by
  cases hc:confAt g (goR g rows) (actT T) 100000 (w.take at_).reverse with
  | none=>exact absurd hc hat2
  | some c=>exact(confAt_stk hL.lr hL.only at_ (w:=w) hat hc).viable hg.valid hL.auto hP hat
 rcases Nat.lt_trichotomy j at_ with h | h | h
 ·exact absurd (via_less (show j+1≤at_ by omega) h4) (h3 zo)
 ·exact h
 ·exfalso;obtain⟨c0,hc0⟩:=sh_place hg hP hL.lr hL.only hw (show at_<w.length by omega) (via_less (show at_+1≤j by omega) h2);rw[hat3 zo] at hc0;cases hc0
theorem predictShift_law(F:Frz)(hLd:Laid F){a b:Option Addr}{m n c d:Nat}{l w0:List Int}(hl:Arr tInt F a m c l)(hw0:Arr tInt F b n d w0)(hm:n≤9223372036854775807) :
  Abs.Spec CC 3 [.slice a m c,.slice b n d] F [] fun _ v o=>o=[]∧v=.bool true:=by
 refine Abs.Spec.fn (n:=92) Tryz.func3 rfl rfl fun own=>?_;refine zB4 ?_;refine WT.callF0 Tryz.func4 Z Z Z Z Z Z (made_spec _ hl hw0 hm 10 (by decide)) (fun F1 v hF1 hv=>?_);obtain⟨g,ga,gm,gc,wa,wn,wc,w,rfl,hg,hr,hw,hw1,hw2⟩:=hv;have hL1:=hLd.mono hF1;have hgv:=hg.valid;have hgt:=hg.terms;have hwl:=hw.len;unfold gramCells;refine zC4 ?_;refine WT.allocT hT Z Z Z Z Z Z (fun i5 hi5=>?_);refine zC4 ?_;have hof:=predictOf_spec F1 g hgv hr;unfold gramCells at hof;refine WT.callF0 Tryz.func5 Z Z Z Z Z Z hof (fun F2 v hF2 hv=>?_);obtain⟨ra,rn,rc,R,ca,cn,cc,P,rfl,_,_,_,hcn,hcf,hPr⟩:=hv
 have hL2:=hL1.mono hF2;have hr2:=hr.mono hF2;have hw3:=hw.mono hF2;refine zC4 ?_;refine WT.allocT hT Z Z Z Z Z Z (fun i6 hi6=>?_);refine zC4 ?_;refine WT.callV Tryz.func6 Z Z Z Z Z Z (Abs.Spec.fact Z hL2) (fun v hv=>?_);subst hv;refine zC4 ?_;by_cases e:cn=0
 ·have hno:=hcn.1 e;subst e;have hnoA:∀P',(∀i r,g.rules[i]?=some r→RowP g r (P'.getD i []))→∀n t,n<g.nons→t≤g.terms→fewC g P' n t:=fun P' hP' n t h1 h2=>few_of hPr hP' (hno n t h1 h2);have ok:=llok_of hgv hPr hno;refine zC4 ?_;have hpv:=productive_spec F2 g hgv hr2;unfold gramCells at hpv;refine WT.callF0 Tryz.func7 Z Z Z Z Z Z hpv (fun F3 v hF3 hv=>?_);obtain⟨pb,rfl,hpb⟩:=hv;have hL3:=hL2.mono hF3;have hr3:=hr2.mono hF3;have hw4:=hw3.mono hF3;cases pb with
  | false=>
   refine zC4 ?_;refine AW.cond Z (fun _=>?_) (fun h=>(by cases h));refine zC4 ?_;refine WT.callV Tryz.func6 Z Z Z Z Z Z (Abs.Spec.fact Z hL3) (fun v hv=>?_);subst hv;refine zC4 ?_;exact AW.ret ⟨_,[],⟨_,_,rfl,rfl,rfl⟩,zsb,rfl,rfl⟩
  | true=>
   have hP:=hpb rfl;refine zC4 ?_;refine AW.cond Z (fun h=>(by cases h)) (fun _=>?_);refine zC4 ?_;have hto:=of_spec F3 g hgv zo 3 (.inr (.inr rfl)) hr3;unfold gramCells at hto;refine WT.callF0 Tryz.func8 Z Z Z Z Z Z hto (fun F4 v hF4 hv=>?_);have hr4:=hr3.mono hF4;have hw5:=hw4.mono hF4;rcases hv with ⟨_,rfl⟩ | ⟨T,x,hT2,rfl,hx⟩
   ·refine zC4 ?_;refine WT.allocT hT Z Z Z Z Z Z (fun i8 hi8=>?_);refine zC4 ?_;refine AW.cond Z (fun _=>?_) (fun h=>(by cases h));refine zC4 ?_;exact AW.ret ⟨_,[],⟨_,_,rfl,rfl,rfl⟩,zsb,rfl,rfl⟩
   ·have hTc:=ll_table hgv hP ok hT2;obtain⟨I,rows,la,hL⟩:=lrt_of hgv zo hT2 hTc;obtain⟨a1,n1,c1,a2,n2,c2,a3,n3,c3,rfl,h1,h2,h3⟩:=id hx;have hn3:n3=0:=by
     have:=h3.len;rw[hTc] at this;exact this
    subst hn3;refine zC4 ?_;refine WT.allocT hT Z Z Z Z Z Z (fun i8 hi8=>?_);refine zC4 ?_;refine AW.cond Z (fun h=>(by cases h)) (fun _=>?_);refine zC4 ?_;have hpp:=predParse_spec F4 g hgv hr4 hw5 zo hw2 hnoA;unfold gramCells at hpp;refine WT.callF0 Tryz.func9 Z Z Z Z Z Z hpp (fun F5 v hF5 hv=>?_);have hr5:=hr4.mono hF5;have hw6:=hw5.mono hF5;obtain⟨lr,lt,la3,ln3,lc3,at1,e1,rfl,hcase⟩:∃r t a n c at1 e1,v=.tuple ⟨[.agg ⟨[.int .i64 r,.int .i64 t,.slice a n c]⟩,.int .i64 at1,.int .i64 e1]⟩∧
      ((e1=0∧at1=0∧∃X,TreeOf g w ⟨false,g.start⟩ X 0 w.length∧tTree.rel F5 [.int .i64 r,.int .i64 t,.slice a n c] X)∨(e1=10∧∃j:Nat,at1=j∧PStop g w j∧tTree.rel F5 [.int .i64 r,.int .i64 t,.slice a n c] (.mk 0 0 []))):=by
     rcases hv with ⟨T,cs,rfl,hrel,hT0⟩ | ⟨j,rfl,hno⟩
     ·obtain⟨r,u,ks⟩:=T;obtain⟨za,zn,zc,rfl,_,_⟩:=tTree_cases hrel;exact⟨_,_,_,_,_,_,_,rfl,.inl ⟨rfl,rfl,_,hT0,hrel⟩⟩
     ·exact⟨0,0,none,0,0,_,_,rfl,.inr ⟨rfl,j,rfl,hno,tTree_mk (t:=0) (Arr.nil_ _ _) (Nat.zero_le _)⟩⟩
    clear hv;refine zC4 ?_;refine WT.allocT hT Z Z Z Z Z Z (fun i10 hi10=>?_);refine zC4 ?_;have hsp:=shParse_spec F5 g hgv zo (.inr (.inr rfl)) hT2 hTc hL (hx.mono hF5) hr5 hw6 zo hw2;unfold gramCells at hsp;refine WT.callF0 Tryz.func10 Z Z Z Z Z Z hsp (fun F6 v hF6 hv=>?_);obtain⟨ly,at2,e2,rfl,hv⟩:=hv;have hyes:∀X,TreeOf g w ⟨false,g.start⟩ X 0 w.length→∃c,confAt g (goR g rows) (actT T) 100000 w.reverse=some c∧actT T (topS (redN g (goR g rows) (actT T) g.terms 100000 c).1) g.terms=.acc:=fun X hX=>by
     obtain⟨X',h1,h2⟩:=tree_small hg hX;obtain⟨c,q1,_,q3⟩:=parse_whole hL.lr hL.only hw2 h1 (M:=100000) zo;exact⟨c,q1,q3⟩
    have hboth:∃X,tTree.rel F5 [.int .i64 lr,.int .i64 lt,.slice la3 ln3 lc3] X∧tTree.rel F6 ly X∧at1=at2∧e1=e2:=by
     rcases hcase with ⟨rfl,rfl,X,hX,hrel⟩ | ⟨rfl,j,rfl,hj,hrel⟩
     ·rcases hv with ⟨rfl,rfl,Y,c1,_,_,_,h2,hrel2⟩ | ⟨h1,_,h4,_,h5⟩ | ⟨h1,_,_,c1,h4,h5⟩
      ·rw[ll_one ok hX h2] at hrel;exact⟨_,hrel,hrel2,rfl,rfl⟩
      ·obtain⟨c,q1,_⟩:=hyes X hX;exact(confAt_less _ q1 h5).elim
      ·obtain⟨c,q1,q3⟩:=hyes X hX;rw[q1] at h4;obtain rfl:=Option.some.inj h4;exact absurd q3 h5
     ·rcases hv with ⟨rfl,rfl,Y,c1,_,_,_,h2,hrel2⟩ | ⟨rfl,rfl,h4,⟨c1,h6⟩,h5⟩ | ⟨rfl,rfl,rfl,c1,h4,h5⟩
      ·exact absurd ⟨Y,h2⟩ hj.no
      ·refine⟨_,hrel,tTree_mk (t:=0) (Arr.nil_ _ _) (Nat.zero_le _),?_,rfl⟩;rw[same_place hg hP hL zo hj (Nat.le_of_lt h4) (by rw[h6];exact fun h=>by cases h) (fun _=>h5)]
      ·refine⟨_,hrel,tTree_mk (t:=0) (Arr.nil_ _ _) (Nat.zero_le _),?_,rfl⟩;rw[same_place hg hP hL zo hj (Nat.le_refl _) (by rw[List.take_length,h4];exact fun h=>by cases h) (fun h=>absurd h (Nat.lt_irrefl _))]
    clear hv hcase;obtain⟨X,hrel1,hrel2,rfl,rfl⟩:=hboth;obtain⟨xr,xt,xks⟩:=X;obtain⟨za,zn,zc,e1,_,_⟩:=tTree_cases hrel2;subst e1;refine zC4 ?_;refine WT.allocT hT Z Z Z Z Z Z (fun i13 hi13=>?_);refine zC4 ?_;refine WT.split 82 Z (fun _=>?_) (fun h=>(by simp at h));refine zC4 ?_;refine WT.split 87 Z (fun _=>?_) (fun h=>(by simp at h));refine zC4 ?_;refine WT.callV Tryz.func11 Z Z Z Z Z Z (sameTree_spec _ F6 _ _ _ (Nat.lt_succ_self _) (tTree.mono _ _ _ _ hF6 hrel1) hrel2) (fun v hv=>?_);subst hv;refine zC4 ?_;exact AW.ret ⟨_,[],⟨_,_,rfl,rfl,rfl⟩,zsb,rfl,rfl⟩
 ·skip
  have hcp:decide ((cn:Int) > 0)=true:=by simp;try omega
  refine WT.know (v':=.bool true) 39 Z (congrArg Value.bool hcp) ?_;refine zC4 ?_;refine AW.cond Z (fun _=>?_) (fun h=>(by simp at h));refine zC4 ?_;refine WT.callV Tryz.func6 Z Z Z Z Z Z (Abs.Spec.fact Z hL2) (fun v hv=>?_);subst hv;refine zC4 ?_;exact AW.ret ⟨_,[],⟨_,_,rfl,rfl,rfl⟩,zsb,rfl,rfl⟩
end Go.Proofs.D