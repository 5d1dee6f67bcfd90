/-
  Walks: what functions of the program do, over the abstract machine.
-/
import Derived.Test.YtpoochgjdeefdaaDoorWk1
set_option linter.unusedVariables false
set_option maxRecDepth 20000
set_option maxHeartbeats 0
open Go Go.Abs Go.Proofs Go.Proofs.D
namespace Go.Abs
section
variable {C:Ctx}{T:RT}{n:Nat}{k:Kno}{F:Frz}{own:Own}{ops rest:List Oper}{o:Oper}{Q:Kno→Frz→Own→List Rec→Prop}
theorem WT.sliceArr(hT:rowsOk C T=true)(p:Nat){t e s len i:Nat}{ro:Bool}{cs:List Value}{B:List (Nat×Blk)}{xo:Operand}{r:Row}(hop:o.op=.slice t xo none none none)(hw:wantK ops k o=some true){dst:Nat}(hdst:o.dst=some dst)(hn:Nat.blt dst n=true)
  (hx:evK C k xo=some (.pointer (some ⟨i,0,none⟩))) (hp:own[p]?=some B) (hq:(i,.cells ro cs)∈B) (hr:rowOf T t=some r) (hd:r.d=.array len e) (hs:sizeT T e=some s) (h0:0<s∧0+len*s≤cs.length∧0<len)
  (h:WT C n ops rest ((dst,.slice (some ⟨i,0,none⟩) len s)::k) F own (fun k2 F2 own2 rs=>Q k2 F2 own2 (⟨F,own,F,own,[i]⟩::rs))):WT C n ops (o::rest) k F own Q:=by
 refine WT.still (l:=[i]) hw (by rw[hop];simp only[looksK,hx]) (fun h1 hst=>?_) (by rw[hdst,putK_some hn];exact h)
 rw[hop]
 have hc:cellsAt h1 i=some cs:=by unfold cellsAt;rw[hst.has hp hq]
 have hb:(Nat.ble 0 len&&Nat.ble len len&&Nat.blt 0 s&&Nat.ble (0+len*s) cs.length)=true:=by
  simp only[Bool.and_eq_true,Nat.ble_eq]
  exact⟨⟨⟨Nat.zero_le _,Nat.le_refl _⟩,by rw[Nat.blt_eq];exact h0.1⟩,h0.2.1⟩
 have hl:(len==0)=false:=by rw[beq_eq_false_iff_ne];omega
 simp only[opA,hx,optA,sliceA,und_array hT hr hd,sizeT_ok hT hs,boundA,hc,hb,cond_true,hl,cond_false,Nat.zero_mul,Nat.add_zero,Nat.sub_zero]
 rfl
end
end Go.Abs
namespace Go.Proofs.D
theorem best1_spec(F:Frz)(x:Nat)(h1:1≤x)(h2:x≤100):Abs.Spec CC 23 [.int .i64 (x:Nat)] F [] fun _ v o=>o=[]∧v=.bool false:=by
 refine Abs.Spec.fn (n:=9) Tryd.func23 rfl rfl fun own=>?_
 refine zB4 ?_
 refine WT.split 5 Z (fun h=>(by simp at h;omega)) (fun _=>?_)
 refine zB4 ?_
 refine AW.ret ⟨_,[],⟨_,_,rfl,rfl,rfl⟩,zsb,rfl,?_⟩
 have:¬(x:Int) > 100:=by omega
 simp[this,tupleA]
structure InY where
 B:List (Nat×Blk)
 xs:List Value
 RN:List (Nat×Blk)
structure OuY where
 k:Nat
 ba:Option Addr
 bc:Nat
 BO:List (Nat×Blk)
 os:List Value
 RB:List (Nat×Blk)
structure FY where
 RB:List (Nat×Blk)
 T:YTab
 again:Bool
structure RowsInY(F:Frz)(L i:Nat)(xs:List Value)(RN:List (Nat×Blk)):Prop where
 len:RN.length=i
 at_:∀j,j<i→∃id cs c',xs[j]?=some (.slice (some ⟨id,0,none⟩) L c')∧RN[j]?=some (id,.cells false cs)∧Vec tWay F (some ⟨id,0,none⟩) L c' [(id,.cells false cs)] (List.replicate L none)
theorem RowsInY.mono{F G:Frz}{L i:Nat}{xs:List Value}{RN:List (Nat×Blk)}(h:RowsInY F L i xs RN)(hF:Frz.le F G):RowsInY G L i xs RN:=
 ⟨h.len,fun j hj=>by obtain⟨id,cs,c',h1,h2,h3⟩:=h.at_ j hj;exact⟨id,cs,c',h1,h2,h3.mono hF⟩⟩
structure PY(g:Gram)(v:List Nat)(p:YTab)(f:FY)(X Y:Prop):Prop where
 tab:Y
 sound:YSound g v f.T
 le:weight g.nons (v.length+1) f.T≤weight g.nons (v.length+1) p
 lt:f.again=true→weight g.nons (v.length+1) f.T<weight g.nons (v.length+1) p
 cl:f.again=false→f.T=p∧X
theorem PY.imp{g:Gram}{v:List Nat}{p:YTab}{f:FY}{X X' Y Y':Prop}(h:PY g v p f X Y)(hy:Y→Y')(hx:X→X'):PY g v p f X' Y':=
 ⟨hy h.tab,h.sound,h.le,h.lt,fun e=>⟨(h.cl e).1,hx (h.cl e).2⟩⟩
theorem way_rank{a:Way}{z:Option Way}(ha:OkW a)(hz:∀b,z=some b→OkW b)(h:lessY (some a) z=true):a.rank<rkO z:=by
 have h1:=ha.len
 have h2:=ha.cost
 cases z with
 | none=>exact rank_bound ha.low zo zo
 | some b=>
  have hb:=hz b rfl
  have h3:=hb.len
  exact rank_lt ha.low hb.low zo zo ((cmpWay_lt ha.low hb.low).1 (of_decide_eq_true h))
theorem rBest_spec(F:Frz)(g:Gram)(hg:Valid g)(hg4:g.nons≤4)(hg3:∀r∈g.rules,r.right.length≤3)(hgt:g.terms≤3){a:Option Addr}{m c:Nat}(hr:Arr tRule F a m c g.rules){va:Option Addr}{vn vc:Nat}{v:List Nat}(hv:Arr tNat F va vn vc v)(hv1:v.length≤12)(hv2:∀t∈v,t<g.terms) :
  Abs.Spec CC 5 [.agg ⟨gramCells g a m c⟩,.slice va vn vc,.agg ⟨[.int .i64 1,.int .i64 1,.int .i64 1]⟩] F [] fun F' x o=>o=[]∧
   ((x=.tuple ⟨[.int .i64 0,.slice none 0 0,.int .i64 5]⟩∧∀y,¬Der g y ⟨false,g.start⟩ 0 y.length)∨
   ∃b p n d,x=.tuple ⟨[.int .i64 (b.cost:Nat),.slice p n d,.int .i64 0]⟩∧Arr tNat F' p n d b.w∧OkW b∧GoodW g v ⟨false,g.start⟩ 0 v.length b∧∀y k,Der g y ⟨false,g.start⟩ 0 y.length→Ed v v.length 0 y k→b.le ⟨k,y⟩):=by
 have hpl:=hv.len
 have hrl:=hr.len
 have hgr:=hg.range.rules
 have hgn:=hg.range.nons
 have hck:=check_spec F g hg.range hr
 have hwd:=gword_spec F g (a:=a) (m:=m) (c:=c) 12 (by decide) hv zo
 rw[wordErr_ok hv1 hv2] at hwd
 unfold gramCells at hck hwd ⊢
 refine Abs.Spec.fn (n:=155) Tryd.func5 rfl rfl fun own=>?_
 refine AW.seq (AW.reg ?_)
 refine WT.boxT Z Z Z Z Z Z (fun i3 hi3=>?_)
 refine WT.boxT Z Z Z Z Z Z (fun i5 hi5=>?_)
 refine zC7 ?_
 refine WT.callV Tryd.func20 Z Z Z Z Z Z hck (fun x hx=>?_)
 rw[hg.no_err] at hx
 subst hx
 refine zC7 ?_
 refine AW.cond Z (fun h=>(by cases h)) (fun _=>?_)
 refine zC7 ?_
 refine WT.callV Tryd.func21 Z Z Z Z Z Z hwd (fun x hx=>?_)
 subst hx
 refine zC7 ?_
 refine AW.cond Z (fun h=>(by cases h)) (fun _=>?_)
 refine zC7 ?_
 refine WT.sliceArr hT 0 Z Z Z Z Z Z me Z Z Z (by decide) ?_
 refine WT.freezeAll 0 Z Z (fun F1 hF1 hB1=>?_)
 have hF5:=hB1 i5 _ me
 have hcost:Arr tNat F1 (some ⟨i5,0,none⟩) 3 1 [1,1,1]:=Bld.frozen (F:=F) (B:=[(i5,.cells false [.int .i64 1,.int .i64 1,.int .i64 1])]) ⟨rfl,.inr ⟨i5,_,rfl,rfl,rfl,Cells.cons (R:=tNat) (x:=1) (l:=[_]) rfl (Cells.cons (R:=tNat) (x:=1) (l:=[_]) rfl (Cells.single (R:=tNat) (x:=1) rfl)),by decide⟩⟩ hF1 hB1
 refine WT.callV Tryd.func22 Z Z Z Z Z Z (numAny_spec F1 hcost (by decide) (fun _=>false) (first:=[]) (capt:=[]) Tryd.func23 Z (fun x hx=>best1_spec F1 x (by simp at hx;omega) (by simp at hx;omega))) (fun x hx=>?_)
 subst hx
 refine zC7 ?_
 refine AW.cond Z (fun h=>(by simp at h)) (fun _=>?_)
 have hr1:=hr.mono hF1
 have hv1':=hv.mono hF1
 refine zC7 ?_
 refine WT.boxT Z Z Z Z Z Z (fun ci hci=>?_)
 refine zC7 ?_
 refine AW.le (own2:=[(ci,.cells false [.int .i64 g.terms,.int .i64 g.nons,.int .i64 g.start,.slice a m c,.slice va vn vc,.int .i64 1,.int .i64 1,.int .i64 1,.slice none 0 0])]::[]::[]::[(i3,.cells false [.int .i64 g.terms,.int .i64 g.nons,.int .i64 g.start,.slice a m c])]::own) (OwnLe.flat (List.Perm.of_eq (by simp))) ?_
 refine AW.range (S:=OuY) (fun _=>[]) (fun s=>[(ci,.cells false [.int .i64 g.terms,.int .i64 g.nons,.int .i64 g.start,.slice a m c,.slice va vn vc,.int .i64 1,.int .i64 1,.int .i64 1,.slice s.ba s.k s.bc])]::s.BO::s.RB::[(i3,.cells false [.int .i64 g.terms,.int .i64 g.nons,.int .i64 g.start,.slice a m c])]::own)
  (fun n s G=>s.k=n∧TabY G v n ⟨ci,a,m,c,va,vn,vc,s.ba,s.bc,s.BO,s.os,s.RB,fun _ _ _=>none⟩) g.nons ⟨0,none,0,[],[],[]⟩
  Z Z Z Z Z Z Z Z Z zo rfl rfl (fun _=>rfl) (fun _=>rfl) sM oR ⟨rfl,Bld.nil_ _ _,by simp,fun n hn=>absurd hn (Nat.not_lt_zero _),hv1',fun n i j w h=>by cases h⟩ ?_ ?_
 ·rintro n s F2 hF2 hn ⟨rfl,hP⟩
  have hol:s.k=s.os.length:=hP.outer.len
  have hpat2:=hP.pat
  refine zC7 ?_
  refine WT.know (v':=.int .i64 ((v.length+1:Nat):Int)) 45 Z (by rw[hpl]) ?_
  refine WT.makeT (l:=v.length+1) (by_:=24) hT Z Z Z Z Z Z Z Z Z Z Z Z zo (fun i36 hi36=>?_)
  have hv0:Vec tRaw F2 (some ⟨i36,0,none⟩) (v.length+1) (bif v.length+1==0 then 0 else 1) [(i36,.cells false (List.replicate (v.length+1) (.slice none 0 0)))] (List.replicate (v.length+1) (Value.slice none 0 0)):=by
   have:=vec_made (R:=tRaw) (zs:=[.slice none 0 0]) (x:=.slice none 0 0) (fun F=>⟨rfl,rfl⟩) (by decide) (F:=F2) (i:=i36) (l:=v.length+1)
   rw[rowsL_one] at this
   exact this
  refine zC7 ?_
  refine AW.le (own2:=[(i36,.cells false (List.replicate (v.length+1) (.slice none 0 0)))]::[]::[(ci,.cells false [.int .i64 g.terms,.int .i64 g.nons,.int .i64 g.start,.slice a m c,.slice va vn vc,.int .i64 1,.int .i64 1,.int .i64 1,.slice s.ba s.k s.bc])]::s.BO::s.RB::[(i3,.cells false [.int .i64 g.terms,.int .i64 g.nons,.int .i64 g.start,.slice a m c])]::own) (OwnLe.flat (List.Perm.of_eq (by simp))) ?_
  refine AW.range (S:=InY) (fun _=>[]) (fun t=>t.B::t.RN::[(ci,.cells false [.int .i64 g.terms,.int .i64 g.nons,.int .i64 g.start,.slice a m c,.slice va vn vc,.int .i64 1,.int .i64 1,.int .i64 1,.slice s.ba s.k s.bc])]::s.BO::s.RB::[(i3,.cells false [.int .i64 g.terms,.int .i64 g.nons,.int .i64 g.start,.slice a m c])]::own)
   (fun i t G=>Vec tRaw G (some ⟨i36,0,none⟩) (v.length+1) (bif v.length+1==0 then 0 else 1) t.B t.xs∧RowsInY G (v.length+1) i t.xs t.RN) (v.length+1) ⟨_,_,[]⟩
   Z Z Z Z Z Z Z Z Z zo rfl rfl (fun _=>rfl) (fun _=>rfl) sM oR ⟨hv0,rfl,fun j hj=>absurd hj (Nat.not_lt_zero _)⟩ ?_ ?_
  ·intro i t F3 hF3 hi hP3
   obtain⟨ht,htr⟩:=hP3
   have htl:=ht.len
   obtain⟨z0,hz0⟩:∃x,t.xs[i]?=some x:=⟨_,gE zo⟩
   refine zC7 ?_
   refine WT.know (v':=.int .i64 ((v.length+1:Nat):Int)) 56 Z (by rw[hpl]) ?_
   refine WT.makeS (l:=v.length+1) (by_:=48) hT Z Z Z Z Z Z Z Z Z Z Z Z ⟨by omega,by omega,by decide⟩ (fun i47 hi47=>?_)
   have hv2:=vec_made (R:=tWay) (zs:=[.int .i64 0,.int .i64 0,.slice none 0 0,.bool false]) (x:=none) (fun F=>rfl) (by decide) (F:=F3) (i:=i47) (l:=v.length+1)
   skip
   refine WT.vidx hT ht Z Z Z Z Z Z Z Z Z zo (fun b1 hb1=>?_)
   refine WT.vst (y:=.slice (some ⟨i47,0,none⟩) (v.length+1) (bif v.length+1==0 then 0 else tWay.size)) hT 1 ht hb1 hz0 Z Z Z Z Z ⟨rfl,rfl⟩ Z (fun _=>rfl) Z (fun B1 hB1=>?_)
   have next:RowsInY F3 (v.length+1) (i+1) (t.xs.set i (.slice (some ⟨i47,0,none⟩) (v.length+1) (bif v.length+1==0 then 0 else tWay.size))) (t.RN++[(i47,.cells false (rowsL [.int .i64 0,.int .i64 0,.slice none 0 0,.bool false] (v.length+1)))]):=by
    refine⟨by simp[htr.len],fun j hj=>?_⟩
    by_cases e:j=i
    ·subst e
     exact⟨i47,_,_,List.getElem?_set_self zo,by rw[List.getElem?_append_right (by rw[htr.len];omega),htr.len,Nat.sub_self];rfl,hv2⟩
    ·obtain⟨id,cs,c',h1,h2,h3⟩:=htr.at_ j zo
     exact⟨id,cs,c',by rw[List.getElem?_set_ne (fun h=>e h.symm)];exact h1,by rw[List.getElem?_append_left (by rw[htr.len];omega)];exact h2,h3⟩
   refine zC7 ?_
   exact⟨⟨B1,_,_⟩,sM,own_fill1 [] _ _ _ _,hB1,next⟩
  ·intro t F3 hF3 hP3
   obtain⟨ht,htr⟩:=hP3
   have hP3:=hP.mono hF3
   refine AW.freezeAll 0 Z Z (fun F4 hF4 hB4=>?_)
   have harr:=ht.arr hF4 hB4
   have htr4:=htr.mono hF4
   have hP4:=hP3.mono hF4
   refine zC7 ?_
   refine WT.buildT hT Z Z Z Z Z Z Z Z Z Z Z Z Z Z (fun i95 hi95=>?_)
   refine WT.appendT (ys:=[.slice (some ⟨i36,0,none⟩) (v.length+1) (bif v.length+1==0 then 0 else 1)]) hT 4 hP4.outer Z (fun _=>rfl) Z Z Z Z Z Z Z Z Z Z Z (fun h0 s0=>news_own hT s0 0 Z Z Z Z) (Cells.single (R:=tRaw) (x:=.slice (some ⟨i36,0,none⟩) (v.length+1) (bif v.length+1==0 then 0 else 1)) ⟨rfl,rfl⟩) Z (by decide) zom (fun ba bc BO hBO=>?_)
   refine zC7 ?_
   refine⟨⟨s.k+1,ba,bc,BO,s.os++[_],s.RB++t.RN⟩,sM,OwnLe.skip _ (own_fill2 _ _ _ _ _),rfl,hBO,?_,fun n' hn'=>?_,hP4.pat,fun n i j w h=>by cases h⟩
   ·show (s.RB++t.RN).length=_
    rw[List.length_append,hP4.rlen,htr4.len,Nat.add_mul,Nat.one_mul]
   ·rcases Nat.lt_or_ge n' s.k with h1 | h1
    ·obtain⟨ra,rc,vs,h2,h3,h4⟩:=hP4.row n' h1
     refine⟨ra,rc,vs,by show (s.os++[_])[n']?=_;rw[List.getElem?_append_left zo];exact h2,h3,fun i hi=>?_⟩
     obtain⟨id,cs,c',h5,h6,h7⟩:=h4 i hi
     exact⟨id,cs,c',h5,by show (s.RB++t.RN)[_]?=_;rw[List.getElem?_append_left (gS h6).1];exact h6,h7⟩
    ·obtain rfl:n'=s.k:=by omega
     refine⟨_,_,t.xs,by show (s.os++[_])[s.k]?=_;rw[List.getElem?_append_right zo,hol,Nat.sub_self];rfl,harr,fun i hi=>?_⟩
     obtain⟨id,cs,c',h5,h6,h7⟩:=htr4.at_ i zo
     refine⟨id,cs,c',h5,?_,?_⟩
     ·show (s.RB++t.RN)[_]?=_
      rw[List.getElem?_append_right (by rw[hP4.rlen];omega),hP4.rlen]
      rw[show s.k*(v.length+1)+i-s.k*(v.length+1)=i by omega]
      exact h6
     ·have e:(List.range (v.length+1)).map (fun _:Nat=>(none:Option Way))=List.replicate (v.length+1) none:=by rw[List.map_const',List.length_range]
      show Vec tWay F4 _ _ _ _ ((List.range (v.length+1)).map fun _=>none)
      rw[e];exact h7
 ·rintro s F2 hF2 ⟨hk,hP⟩
  have hol:g.nons=s.os.length:=hP.outer.len
  have hr2:=hr1.mono hF2
  rw[hk]
  refine zC7 ?_
  refine AW.block ?_
  refine AW.loopR (S:=FY) (fun f=>[(14,.bool f.again)]) (fun f=>[(ci,.cells false [.int .i64 g.terms,.int .i64 g.nons,.int .i64 g.start,.slice a m c,.slice va vn vc,.int .i64 1,.int .i64 1,.int .i64 1,.slice s.ba g.nons s.bc])]::s.BO::f.RB::[(i3,.cells false [.int .i64 g.terms,.int .i64 g.nons,.int .i64 g.start,.slice a m c])]::own)
   (fun f G=>TabY G v g.nons (⟨ci,a,m,c,va,vn,vc,s.ba,s.bc,s.BO,s.os,f.RB,f.T⟩:CT)∧YSound g v f.T∧(∃K,KInv v.length g.nons f.T K)∧(f.again=false→∀r∈g.rules,YClosed v f.T r (v.length+1)))
   (fun f=>weight g.nons (v.length+1) f.T+(if f.again=true then 1 else 0)) ⟨s.RB,fun _ _ _=>none,true⟩ sM oR ⟨hP,fun n i j w h=>(by cases h),⟨[],List.nodup_nil,fun n h=>(by cases h),fun n h=>(by cases h),fun n _ i j=>rfl⟩,fun h=>(by cases h)⟩ ?_
  intro p F3 hF3 hP3
  obtain⟨hpt,hps,hpK,hpc⟩:=hP3
  have hr3:=hr2.mono hF3
  refine zC7 ?_
  refine AW.cond Z (fun hc=>?_) (fun hc=>?_)
  ·have hc:p.again=true:=hc
   refine zC7 ?_
   refine AW.block ?_
   refine zC7 ?_
   refine AW.range (S:=FY) (fun f=>[(14,.bool f.again)]) (fun f=>[(ci,.cells false [.int .i64 g.terms,.int .i64 g.nons,.int .i64 g.start,.slice a m c,.slice va vn vc,.int .i64 1,.int .i64 1,.int .i64 1,.slice s.ba g.nons s.bc])]::s.BO::f.RB::[(i3,.cells false [.int .i64 g.terms,.int .i64 g.nons,.int .i64 g.start,.slice a m c])]::own)
    (fun q f G=>PY g v p.T f (∀r∈g.rules.take q,YClosed v p.T r (v.length+1)) (TabY G v g.nons (⟨ci,a,m,c,va,vn,vc,s.ba,s.bc,s.BO,s.os,f.RB,f.T⟩:CT)∧∃K,KInv v.length g.nons f.T K)) m ⟨p.RB,p.T,false⟩
    Z Z Z Z Z Z Z Z Z zo rfl rfl (fun _=>rfl) (fun _=>rfl) sM oR ⟨⟨hpt,hpK⟩,hps,Nat.le_refl _,fun h=>(by cases h),fun _=>⟨rfl,fun r hr=>(by simp at hr)⟩⟩ ?_ ?_
   ·intro q f F4 hF4 hq hf
    obtain⟨hft,K,hfK⟩:=hf.tab
    have hr4:=hr3.mono hF4
    refine zC7 ?_
    refine WT.idxL hT hr4 Z Z Z Z Z Z Z Z Z zo (fun r hrq b3 off3 ro3 cs3 lx3 hb3 hp3 hrel3=>?_)
    obtain⟨ra,rn,rc,rfl,hra⟩:=hrel3
    have hrmem:=gM hrq
    have hrr:=hg.right r hrmem
    have hr3':=hg3 r hrmem
    have hral:=hra.len
    have hleft:=hrr.1
    refine zC7 ?_
    refine WT.allocT hT Z Z Z Z Z Z (fun i16 hi16=>?_)
    refine zC7 ?_
    refine AW.know (v':=.int .i64 ((v.length+1:Nat):Int)) 81 Z (by rw[hpl]) ?_
    refine AW.perm (perm_to3 _ _ _ _ _) ?_
    refine AW.range (S:=FY) (fun f=>[(14,.bool f.again)]) (fun f=>[(ci,.cells false [.int .i64 g.terms,.int .i64 g.nons,.int .i64 g.start,.slice a m c,.slice va vn vc,.int .i64 1,.int .i64 1,.int .i64 1,.slice s.ba g.nons s.bc])]::s.BO::f.RB::[(i16,.cells false [.int .i64 r.left,.slice ra rn rc])]::[(i3,.cells false [.int .i64 g.terms,.int .i64 g.nons,.int .i64 g.start,.slice a m c])]::own)
     (fun i f G=>PY g v p.T f ((∀r∈g.rules.take q,YClosed v p.T r (v.length+1))∧YClosed v p.T r i) (TabY G v g.nons (⟨ci,a,m,c,va,vn,vc,s.ba,s.bc,s.BO,s.os,f.RB,f.T⟩:CT)∧MInv v.length g.nons K r i 0 f.T)) (v.length+1) f
     Z Z Z Z Z Z Z Z Z zo rfl rfl (fun _=>rfl) (fun _=>rfl) sM oR (hf.imp (fun _=>⟨hft,hfK.start r⟩) fun h=>⟨h,fun i hi=>absurd hi (Nat.not_lt_zero _)⟩) ?_ ?_
    ·intro i e F5 hF5 hi he
     obtain⟨het,heM⟩:=he.tab
     have hlo:∀n i j a,e.T n i j=some a→i≤j:=fun n i j a h=>(het.val n i j a h).1
     have hsym:∀s∈r.right,(s.term=false→s.n<g.nons)∧(s.term=true→s.n<4):=fun s hs=>by
      have:=hrr.2.2 s hs
      unfold SymOk at this
      refine⟨fun ht=>by rwa [if_neg (by simp[ht])] at this,fun ht=>?_⟩
      rw[if_pos ht] at this;omega
     refine zC7 ?_
     refine WT.callF (oin:=[[(ci,.cells false [.int .i64 g.terms,.int .i64 g.nons,.int .i64 g.start,.slice a m c,.slice va vn vc,.int .i64 1,.int .i64 1,.int .i64 1,.slice s.ba g.nons s.bc])],s.BO,e.RB]) Tryd.func24 Z Z Z Z Z Z (rrule_spec F5 g zo hv1 het (r:=r) (hra.mono hF5) zo hsym i zo) (List.Perm.refl _) (fun F6 z oo hF6 hz=>?_)
     obtain⟨sa,rfl,rfl,hsv,hsr⟩:=hz
     have hway:∀j b,sa.xs[j]?=some (some b)→i≤j∧j≤v.length∧GoodW g v ⟨false,r.left⟩ i j b∧Low b.w∧b.w.length≤1000:=fun j b hj=>by
      have hjl:=(gS hj).1
      rw[hsr.len] at hjl
      have hd:=(hsr.yes j b hj).1
      have hgw:=ruleD_good he.sound hrmem (show j≤v.length by omega) hd
      have hb:=hgw.2.bnd
      have hlow:Low b.w∧b.cost≤400:=by
       unfold RuleD at hd
       split at hd
       ·obtain⟨_,rfl⟩:=hd;exact⟨fun t h=>(by cases h),by show j-i≤400;omega⟩
       ·obtain⟨h1,_,h2⟩:=chW_ok het hv1 (fun s hs=>(hsym s hs).2) zo hd
        exact⟨h2,by omega⟩
      exact⟨hb.1,by omega,hgw,hlow.1,by omega⟩
     refine zC7 ?_
     refine AW.range (S:=FY) (fun f=>[(14,.bool f.again)]) (fun f=>[(ci,.cells false [.int .i64 g.terms,.int .i64 g.nons,.int .i64 g.start,.slice a m c,.slice va vn vc,.int .i64 1,.int .i64 1,.int .i64 1,.slice s.ba g.nons s.bc])]::s.BO::f.RB::sa.B::[(i16,.cells false [.int .i64 r.left,.slice ra rn rc])]::[(i3,.cells false [.int .i64 g.terms,.int .i64 g.nons,.int .i64 g.start,.slice a m c])]::own)
      (fun j f G=>PY g v p.T f ((e.again=false∧f.T=e.T)∧∀j',j'<j→∀b,sa.xs[j']?=some (some b)→∃z,f.T r.left i j'=some z∧z.le b) (TabY G v g.nons (⟨ci,a,m,c,va,vn,vc,s.ba,s.bc,s.BO,s.os,f.RB,f.T⟩:CT)∧MInv v.length g.nons K r i j f.T)) (v.length+1) e
      Z Z Z Z Z Z Z Z Z zo rfl rfl (fun _=>rfl) (fun _=>rfl) sM oR ⟨⟨het.mono hF6,heM⟩,he.sound,he.le,he.lt,fun h=>⟨(he.cl h).1,⟨h,rfl⟩,fun j hj=>absurd hj (Nat.not_lt_zero _)⟩⟩ ?_ ?_
     ·intro j f' F7 hF7 hj he7
      obtain⟨h7t,h7M⟩:=he7.tab
      have hsv7:=hsv.mono hF7
      have hlo7:∀n i j a,f'.T n i j=some a→i≤j:=fun n i j a h=>(h7t.val n i j a h).1
      obtain⟨x0,hx0⟩:∃x,sa.xs[j]?=some x:=⟨_,gE (by rw[hsr.len];omega)⟩
      have keep:(∀b,x0=some b→∃z,f'.T r.left i j=some z∧z.le b)→PY g v p.T f' ((e.again=false∧f'.T=e.T)∧∀j',j'<j+1→∀b,sa.xs[j']?=some (some b)→∃z,f'.T r.left i j'=some z∧z.le b) (TabY F7 v g.nons (⟨ci,a,m,c,va,vn,vc,s.ba,s.bc,s.BO,s.os,f'.RB,f'.T⟩:CT)∧MInv v.length g.nons K r i (j+1) f'.T):=fun hk=>by
       refine he7.imp (fun _=>⟨h7t,h7M.skip (fun h1 h2=>?_) hlo7⟩) fun ⟨h1,h2⟩=>⟨h1,fun j' hj' b hb=>?_⟩
       ·rcases Nat.lt_or_ge j i with h3 | h3
        ·exact h3
        ·exfalso
         have h4:=h7M.old h1 i j zo
         cases x0 with
         | none=>
          obtain⟨b,hb⟩:=heM.yes rfl h2 h3 zo
          exact hsr.no j zo hx0 b hb
         | some b=>
          obtain⟨z,hz,_⟩:=hk b rfl
          rw[h4] at hz;cases hz
       ·by_cases e2:j'=j
        ·subst e2;rw[hx0] at hb;exact hk b (Option.some.inj hb)
        ·exact h2 j' zo b hb
      have hrow:=h7t.row r.left hleft
      refine zC7 ?_
      refine WT.vidx hT hsv7 Z Z Z Z Z Z Z Z Z zo (fun b7 hb7=>?_)
      refine WT.wldS hT 3 hsv7 hb7 hx0 Z Z Z Z Z Z (fun z hz=>hz) Z Z Z (fun l hl=>?_)
      obtain⟨oa2,oc2,vs,h1,h2,h3⟩:=hrow
      obtain⟨id,cs,c',h4,h5,h6⟩:=h3 i zo
      have h2l:=h2.len
      cases x0 with
      | none=>
       have hl0:l=[.int .i64 0,.int .i64 0,.slice none 0 0,.bool false]:=hl
       subst hl0
       skip
       refine WT.allocT hT Z Z Z Z Z Z (fun i18 hi18=>?_)
       refine zC7 ?_
       refine WT.vidx hT h7t.outer.vec Z Z Z Z Z Z Z Z Z zo (fun b1 hb1=>?_)
       refine WT.vld1 (v:=.slice oa2 (v.length+1) oc2) hT 2 h7t.outer.vec hb1 h1 Z Z Z Z Z Z Z Z Z (fun l h=>h.1) ?_
       refine zC7 ?_
       refine WT.idxL hT h2 Z Z Z Z Z Z Z Z Z zo (fun z hz b4 off4 ro4 cs4 lx4 hb4 hp4 hrel4=>?_)
       obtain rfl:z=.slice (some ⟨id,0,none⟩) (v.length+1) c':=by rw[h4] at hz;exact(Option.some.inj hz).symm
       obtain⟨rfl,_⟩:=hrel4
       refine zC7 ?_
       refine WT.vidx hT h6 Z Z Z Z Z Z Z Z Z zo (fun b5 hb5=>?_)
       refine WT.wldS hT 3 h6 hb5 (mapY_get zo) Z Z Z Z Z Z (fun z hz=>by rw[List.mem_singleton.1 hz];exact gM h5) Z Z Z (fun l hl=>?_)
       refine WT.callV Tryd.func25 Z Z Z Z Z Z (rless_spec F7 (x:=none) (y:=f'.T r.left i j) Z hl (fun _ e=>by cases e) (fun w hw=>by have:=(h7t.val _ _ _ _ hw).2.2.len;omega)) (fun v2 hv2=>?_)
       subst hv2
       refine zC7 ?_
       refine AW.cond Z (fun h=>(by cases h)) (fun _=>?_)
       refine zC7 ?_
       exact⟨f',sM,zow,keep (fun w hw=>by cases hw)⟩
      | some x0=>
       obtain⟨hij,_,hgood,hlow,hlen⟩:=hway j x0 hx0
       obtain⟨xa,xn,xc,rfl,hxa⟩:=hl
       skip
       refine WT.allocT hT Z Z Z Z Z Z (fun i18 hi18=>?_)
       refine zC7 ?_
       refine WT.vidx hT h7t.outer.vec Z Z Z Z Z Z Z Z Z zo (fun b1 hb1=>?_)
       refine WT.vld1 (v:=.slice oa2 (v.length+1) oc2) hT 2 h7t.outer.vec hb1 h1 Z Z Z Z Z Z Z Z Z (fun l h=>h.1) ?_
       refine zC7 ?_
       refine WT.idxL hT h2 Z Z Z Z Z Z Z Z Z zo (fun z hz b4 off4 ro4 cs4 lx4 hb4 hp4 hrel4=>?_)
       obtain rfl:z=.slice (some ⟨id,0,none⟩) (v.length+1) c':=by rw[h4] at hz;exact(Option.some.inj hz).symm
       obtain⟨rfl,_⟩:=hrel4
       refine zC7 ?_
       refine WT.vidx hT h6 Z Z Z Z Z Z Z Z Z zo (fun b5 hb5=>?_)
       refine WT.wldS hT 3 h6 hb5 (mapY_get zo) Z Z Z Z Z Z (fun z hz=>by rw[List.mem_singleton.1 hz];exact gM h5) Z Z Z (fun l hl=>?_)
       refine WT.callV Tryd.func25 Z Z Z Z Z Z (rless_spec F7 (x:=some x0) (y:=f'.T r.left i j) ⟨xa,xn,xc,rfl,hxa⟩ hl (fun _ e=>by cases e;exact hlen) (fun w hw=>by have:=(h7t.val _ _ _ _ hw).2.2.len;omega)) (fun v2 hv2=>?_)
       subst hv2
       refine zC7 ?_
       refine AW.cond Z (fun hls=>?_) (fun hls=>?_)
       ·have hls:lessY (some x0) (f'.T r.left i j)=true:=hls
        have hdr:=(hsr.yes j x0 hx0).1
        have hKl:=few_known h7M.nodup h7M.sub
        have hcl:(∃z,f'.T r.left i j=some z∧x0.cost≤z.cost)∨(r.left∉K∧Yields K r.right∧x0.cost≤3 ^ (K.length+1)+(j-i)):=by
         cases hT0:f'.T r.left i j with
         | some z=>
          rw[hT0] at hls
          exact .inl ⟨z,rfl,Way.le_cost (Way.le_of_not ((cmpWay_lt hlow (h7t.val _ _ _ _ hT0).2.2.low).1 (of_decide_eq_true hls)))⟩
         | none=>
          have hl:r.left∉K:=fun hk=>by
           obtain⟨a,ha,_⟩:=h7M.all _ hk i j hij zo
           rw[hT0] at ha;cases ha
          exact .inr ⟨hl,heM.first rfl hv1 hl hr3' hlo zo hdr⟩
        have hput:MInv v.length g.nons K r i (j+1) (updY f'.T r.left i j x0):=by
         refine h7M.put hij (fun hk z hz=>?_) (fun hk=>?_)
         ·rcases hcl with ⟨z',hz',h⟩ | ⟨h,_⟩
          ·rw[hz] at hz';rw[Option.some.inj hz'];exact h
          ·exact absurd hk h
         ·rcases hcl with ⟨z',hz',_⟩ | ⟨_,h⟩
          ·have:=h7M.old hk i j zo
           rw[this] at hz';cases hz'
          ·exact h
        have hokx:OkW x0:=by
         have hc1:x0.cost≤100:=by
          rcases hcl with ⟨z,hz,h⟩ | ⟨h1,_,h2⟩
          ·have:=(h7t.val _ _ _ _ hz).2.2.cost;omega
          ·have h3:(r.left::K).length≤g.nons:=few_known (List.nodup_cons.2 ⟨h1,h7M.nodup⟩) (fun n hn=>by
            rcases List.mem_cons.1 hn with rfl | hn
            ·exact hleft
            ·exact h7M.sub n hn)
           have:=Nat.pow_le_pow_right (show 0<3 by decide) (show K.length+1≤4 by simp at h3;omega)
           omega
         have:=hgood.2.bnd
         exact⟨hc1,by omega,hlow⟩
        refine zC7 ?_
        refine WT.vidx hT h7t.outer.vec Z Z Z Z Z Z Z Z Z zo (fun b8 hb8=>?_)
        refine WT.vld1 (v:=.slice oa2 (v.length+1) oc2) hT 2 h7t.outer.vec hb8 h1 Z Z Z Z Z Z Z Z Z (fun l h=>h.1) ?_
        refine zC7 ?_
        refine WT.idxL hT h2 Z Z Z Z Z Z Z Z Z zo (fun z hz b9 off9 ro9 cs9 lx9 hb9 hp9 hrel9=>?_)
        obtain rfl:z=.slice (some ⟨id,0,none⟩) (v.length+1) c':=by rw[h4] at hz;exact(Option.some.inj hz).symm
        obtain⟨rfl,_⟩:=hrel9
        refine zC7 ?_
        refine WT.vidx hT h6 Z Z Z Z Z Z Z Z Z zo (fun b10 hb10=>?_)
        obtain rfl:b10=id:=by injection hb10 with hb10;injection hb10 with hb10;exact hb10.symm
        refine WT.vstB (y:=some x0) hT 3 (r.left*(v.length+1)+i) h6 (mapY_get zo) h5 Z Z Z Z Z ⟨xa,xn,xc,rfl,hxa⟩ Z (fun _=>rfl) Z (fun cs' hcs'=>?_)
        have hwt:weight g.nons (v.length+1) (updY f'.T r.left i j x0)<weight g.nons (v.length+1) f'.T:=weight_put hleft (show i<v.length+1 by omega) (show j<v.length+1 by omega) (way_rank hokx (fun b hb=>(h7t.val _ _ _ _ hb).2.2) hls)
        refine zC7 ?_
        refine⟨⟨_,updY f'.T r.left i j x0,true⟩,sM,zow,⟨h7t.put hleft zo hij zo hokx h5 hcs',hput⟩,fun n' i' j' w hw=>?_,by have:=he7.le;dsimp only;omega,fun _=>by have:=he7.le;dsimp only;omega,fun h=>(by cases h)⟩
        by_cases e2:n'=r.left∧i'=i∧j'=j
        ·obtain⟨rfl,rfl,rfl⟩:=e2
         have hw:updY f'.T r.left i' j' x0 r.left i' j'=some w:=hw
         rw[updY_at] at hw
         rw[←Option.some.inj hw];exact hgood
        ·have e3:updY f'.T r.left i j x0 n' i' j'=f'.T n' i' j':=if_neg e2
         exact he7.sound n' i' j' w (e3▸hw)
       ·have hls:lessY (some x0) (f'.T r.left i j)=false:=hls
        refine zC7 ?_
        refine⟨f',sM,zow,keep (fun w hw=>?_)⟩
        obtain rfl:=Option.some.inj hw
        cases hT0:f'.T r.left i j with
        | none=>rw[hT0] at hls;cases hls
        | some z=>
         rw[hT0] at hls
         exact⟨z,rfl,lessY_keep hlow (h7t.val _ _ _ _ hT0).2.2.low hls⟩
     ·intro f' F7 hF7 he7
      obtain⟨h7t,h7M⟩:=he7.tab
      skip
      refine⟨f',sM,OwnLe.cons _ (OwnLe.cons _ (OwnLe.cons _ (OwnLe.skip _ oR))),⟨h7t,h7M.row (fun n i j a h=>(h7t.val n i j a h).2.1)⟩,he7.sound,he7.le,he7.lt,fun h=>?_⟩
      obtain⟨h1,⟨h2,h3⟩,h4⟩:=he7.cl h
      obtain⟨h5,h6,h7⟩:=he.cl h2
      refine⟨h1,h6,fun i' hi' j' hj' a ha=>?_⟩
      by_cases e2:i'=i
      ·subst e2
       rw[←h5] at ha
       obtain⟨x,hx⟩:∃x,sa.xs[j']?=some x:=⟨_,gE (by rw[hsr.len];omega)⟩
       cases x with
       | none=>exact absurd ha (hsr.no j' hj' hx a)
       | some b=>
        obtain⟨z,hz,hzl⟩:=h4 j' zo b hx
        exact⟨z,by rw[←h1];exact hz,Way.le_trans hzl ((hsr.yes j' b hx).2 a ha)⟩
      ·exact h7 i' zo j' hj' a ha
    ·intro e F5 hF5 he
     obtain⟨het,heM⟩:=he.tab
     skip
     refine⟨e,sM,OwnLe.cons _ (OwnLe.cons _ (OwnLe.cons _ (OwnLe.skip _ oR))),he.imp (fun _=>⟨het,heM.done hleft⟩) fun ⟨h1,h2⟩ r' hr'=>?_⟩
     rw[List.take_add_one,hrq] at hr'
     rcases List.mem_append.1 hr' with hr' | hr'
     ·exact h1 r' hr'
     ·simp at hr';subst hr';exact h2
   ·intro f F4 hF4 hf
    rw[List.take_of_length_le zo] at hf
    skip
    refine⟨f,?_,sM,OwnLe.refl _,hf.tab.1,hf.sound,hf.tab.2,fun h=>?_⟩
    ·have h1:=hf.le
     rw[hc,if_pos rfl]
     cases hb:f.again with
     | false=>rw[if_neg (by simp)];omega
     | true=>have:=hf.lt hb;rw[if_pos rfl];omega
    ·obtain⟨h1,h2⟩:=hf.cl h
     rw[h1];exact h2
  ·have hc:p.again=false:=hc
   have hcl:=hpc hc
   skip
   refine AW.exit ?_
   have hst:=hg.range.start
   obtain⟨oa2,oc2,vs,h1,h2,h3⟩:=hpt.row g.start hst
   obtain⟨id,cs,c',h4,h5,h6⟩:=h3 0 (Nat.zero_le _)
   have h2l:=h2.len
   have hleast:∀y k,Der g y ⟨false,g.start⟩ 0 y.length→Ed v v.length 0 y k→∃z,p.T g.start 0 v.length=some z∧z.le ⟨k,y⟩:=fun y k hy he=>by
    have hpy:part y 0 y.length=y:=by unfold part;rw[List.take_length,List.drop_zero]
    obtain⟨z,hz,hzl⟩:=table_least hcl hy (Nat.le_refl _) 0 v.length k (by rw[hpy];exact he)
    rw[hpy] at hzl
    unfold symY at hz
    rw[if_neg (by simp)] at hz
    exact⟨z,hz,hzl⟩
   refine AW.seq (AW.draw (ps:=[(3,14),(5,14),(7,14),(9,14),(11,14),(13,14)]) Z Z ?_)
   refine zC7 ?_
   refine WT.vidx hT hpt.outer.vec Z Z Z Z Z Z Z Z Z zo (fun b1 hb1=>?_)
   obtain⟨ia,acs,ha1,ha2,_⟩:=hpt.outer.vec.at_ h1
   have hmemO:(b1,Blk.cells false acs)∈s.BO:=by
    rw[ha1] at hb1
    injection hb1 with hb1
    injection hb1 with hb1
    rw[show s.BO=_ from ha2,hb1];exact List.mem_cons_self ..
   have hmemR:(id,Blk.cells false cs)∈p.RB:=gM h5
   refine WT.vld1 (v:=.slice oa2 (v.length+1) oc2) hT 1 hpt.outer.vec hb1 h1 Z Z Z Z Z Z Z Z Z (fun l h=>h.1) ?_
   skip
   refine WT.idxL (j:=0) hT h2 Z Z Z Z Z Z Z Z Z zo (fun z hz b4 off4 ro4 cs4 lx4 hb4 hp4 hrel4=>?_)
   obtain rfl:z=.slice (some ⟨id,0,none⟩) (v.length+1) c':=by rw[h4] at hz;exact(Option.some.inj hz).symm
   obtain⟨rfl,_⟩:=hrel4
   refine zC7 ?_
   refine WT.know (v':=.int .i64 ((v.length:Nat):Int)) 139 Z (by rw[hpl]) ?_
   refine WT.vidx hT h6 Z Z Z Z Z Z Z Z Z zo (fun b5 hb5=>?_)
   obtain rfl:b5=id:=by injection hb5 with hb5;injection hb5 with hb5;exact hb5.symm
   refine WT.wldS hT 2 h6 hb5 (mapY_get zo) Z Z Z Z Z Z (fun z hz=>by rw[List.mem_singleton.1 hz];exact gM h5) Z Z Z (fun l hl=>?_)
   have hl:tWay.rel F3 l (p.T g.start 0 v.length):=hl
   cases hT0:p.T g.start 0 v.length with
   | none=>
    rw[hT0] at hl
    have hl0:l=[.int .i64 0,.int .i64 0,.slice none 0 0,.bool false]:=hl
    subst hl0
    refine WT.allocT hT Z Z Z Z Z Z (fun i20 hi20=>?_)
    refine zC7 ?_
    refine⟨zrA,?_⟩
    refine zC7 ?_
    refine AW.block ?_
    refine zC7 ?_
    refine AW.cond Z (fun _=>?_) (fun h=>(by cases h))
    refine zC7 ?_
    refine AW.ret ⟨_,[],⟨_,_,rfl,⟨_,_,rfl,⟨_,_,rfl,rfl,rfl⟩,rfl⟩,rfl⟩,zsb,rfl,.inl ⟨rfl,fun y hy=>?_⟩⟩
    obtain⟨k,hk⟩:=Ed.all (w:=v) (Nat.le_refl _) y 0 (Nat.zero_le _)
    obtain⟨z,hz,_⟩:=hleast y k hy hk
    rw[hT0] at hz;cases hz
   | some b=>
    have hbok:=(hpt.val _ _ _ _ hT0).2.2
    have hblen:=hbok.len
    rw[hT0] at hl
    obtain⟨wa,wn,wc,rfl,hw⟩:=hl
    have hwl:=hw.len
    refine WT.allocT hT Z Z Z Z Z Z (fun i20 hi20=>?_)
    refine zC7 ?_
    refine⟨zrA,?_⟩
    refine zC7 ?_
    refine AW.block ?_
    refine zC7 ?_
    refine AW.cond Z (fun h=>(by cases h)) (fun _=>?_)
    refine zC7 ?_
    refine AW.cond Z (fun h=>(by simp at h;omega)) (fun _=>?_)
    refine zC7 ?_
    refine AW.draw (ps:=[(1,4)]) Z Z ?_
    refine zC7 ?_
    refine WT.callN Tryd.func26 Z Z Z Z Z Z (numClone_spec _ hw zo) (fun F4 x B4 hF4 hx=>?_)
    obtain⟨pa,pc,rfl,hp⟩:=hx
    refine zC7 ?_
    refine⟨zrC,?_⟩
    refine AW.freezeAll 0 Z Z (fun F5 hF5 hB5=>?_)
    have hpa:=hp.arr hF5 hB5
    skip
    refine AW.ret ⟨_,[],⟨_,_,rfl,⟨_,_,rfl,⟨_,_,rfl,rfl,rfl⟩,rfl⟩,rfl⟩,zsb,rfl,.inr ⟨b,pa,wn,pc,rfl,hpa,hbok,hps _ _ _ _ hT0,fun y k hy hk=>?_⟩⟩
    obtain⟨z,hz,hzl⟩:=hleast y k hy hk
    rw[hT0] at hz
    rw[Option.some.inj hz];exact hzl
theorem wordIndex_spec(F:Frz){a:Option Addr}{m c:Nat}{xs:List (List Nat)}(hx:Arr (tList tNat) F a m c xs)(hm:m≤2000000)(p:(List Nat)→Bool){g:Nat}{fn:Func}{first capt:List Value}(hg:CC.func g=some fn)(hgb:fn.body.isSome=true)
  (hp:∀x∈xs,∀b n d,Arr tNat F b n d x→Abs.Spec CC g (first++[.slice b n d]++capt) F [] fun _ v o=>o=[]∧v=.bool (p x)) :
  Abs.Spec CC 69 [.slice a m c,.func (.func g) ⟨first⟩ ⟨capt⟩] F [] fun _ v o=>o=[]∧v=.int .i64 (idxOf p xs):=by
 refine Abs.Spec.fn (n:=19) Tryd.func69 rfl rfl fun own=>?_
 have hxlen:=hx.len
 refine zB4 ?_
 refine AW.range (S:=Unit) (fun _=>[]) (fun _=>_) (fun j _ G=>G=F∧∀y∈xs.take j,p y=false) m () Z Z Z Z Z Z Z Z Z zo Z Z (fun _=>rfl) (fun _=>rfl) sM oR ⟨rfl,by simp⟩ ?_ ?_
 ·intro j _ F1 hF1 hj hP
  obtain⟨rfl,hP⟩:=hP
  refine zB4 ?_
  refine WT.idxL hT hx Z Z Z Z Z Z Z Z Z zo (fun x hxj b1 off ro cs lx hb hp1 hrel=>?_)
  obtain⟨b2,n2,d2,rfl,hx2⟩:=hrel
  refine zB4 ?_
  refine WT.callC hg hgb Z Z Z Z Z Z Z (hp x (gM hxj) _ _ _ hx2) (fun v hv=>?_)
  subst hv
  refine zB4 ?_
  refine AW.cond Z (fun hc=>?_) (fun hc=>?_)
  ·refine zB4 ?_
   refine AW.ret ⟨_,[],⟨_,_,rfl,rfl,rfl⟩,zsb,rfl,?_⟩
   rw[idxOf_at hxj hc hP];rfl
  ·refine zB4 ?_
   exact⟨(),sM,zow,rfl,take_all hxj hP hc⟩
 ·intro _ F1 hF1 hP
  obtain⟨rfl,hP⟩:=hP
  rw[List.take_of_length_le zo] at hP
  refine zB4 ?_
  refine AW.ret ⟨_,[],⟨_,_,rfl,rfl,rfl⟩,zsb,rfl,?_⟩
  rw[idxOf_none hP];rfl
theorem wordAny_spec(F:Frz){a:Option Addr}{m c:Nat}{xs:List (List Nat)}(hx:Arr (tList tNat) F a m c xs)(hm:m≤2000000)(p:(List Nat)→Bool){g:Nat}{fn:Func}{first capt:List Value}(hg:CC.func g=some fn)(hgb:fn.body.isSome=true)
  (hp:∀x∈xs,∀b n d,Arr tNat F b n d x→Abs.Spec CC g (first++[.slice b n d]++capt) F [] fun _ v o=>o=[]∧v=.bool (p x)) :
  Abs.Spec CC 34 [.slice a m c,.func (.func g) ⟨first⟩ ⟨capt⟩] F [] fun _ v o=>o=[]∧v=.bool (xs.any p):=by
 refine Abs.Spec.fn (n:=9) Tryd.func34 rfl rfl fun own=>?_
 refine zB4 ?_
 refine WT.callV Tryd.func69 Z Z Z Z Z Z (wordIndex_spec _ hx hm p hg hgb hp) (fun v hv=>?_)
 subst hv
 refine zB4 ?_
 refine AW.ret ⟨_,[],⟨_,_,rfl,rfl,rfl⟩,zsb,rfl,?_⟩
 rw[←idxOf_nonneg];rfl
def addX(xs:List (List Nat))(x:List Nat):List (List Nat):=if x.length≤12∧x∉xs then xs++[x] else xs
theorem mem_addX{l:List (List Nat)}:∀{acc:List (List Nat)} {x:List Nat},x∈l.foldl addX acc↔x∈acc∨(x∈l∧x.length≤12):=by
 induction l with
 | nil=>intro acc x;simp
 | cons a l ih=>
  intro acc x
  rw[List.foldl_cons,ih]
  unfold addX
  by_cases h:a.length≤12∧a∉acc
  ·rw[if_pos h]
   simp only[List.mem_append,List.mem_cons,List.not_mem_nil,or_false]
   constructor
   ·rintro((h1 | rfl) | h1)
    ·exact .inl h1
    ·exact .inr ⟨.inl rfl,h.1⟩
    ·exact .inr ⟨.inr h1.1,h1.2⟩
   ·rintro(h1 | ⟨rfl | h1,h2⟩)
    ·exact .inl (.inl h1)
    ·exact .inl (.inr rfl)
    ·exact .inr ⟨h1,h2⟩
  ·rw[if_neg h]
   simp only[List.mem_cons]
   constructor
   ·rintro(h1 | h1)
    ·exact .inl h1
    ·exact .inr ⟨.inr h1.1,h1.2⟩
   ·rintro(h1 | ⟨rfl | h1,h2⟩)
    ·exact .inl h1
    ·exact .inl (Classical.byContradiction fun h3=>h ⟨h2,h3⟩)
    ·exact .inr ⟨h1,h2⟩
theorem len_addX{l:List (List Nat)}:∀{acc:List (List Nat)},(l.foldl addX acc).length≤acc.length+l.length:=by
 induction l with
 | nil=>intro acc;simp
 | cons a l ih=>
  intro acc
  rw[List.foldl_cons]
  have:=ih (acc:=addX acc a)
  have h2:(addX acc a).length≤acc.length+1:=by unfold addX;split<;>simp
  simp only[List.length_cons];omega
def candT(w:List Nat)(i t:Nat):List (List Nat):=(List.range t).flatMap fun u=>(w.take i++[u]++w.drop i)::(if i<w.length then [w.take i++[u]++w.drop (i+1)] else [])
def candI(terms:Nat)(w:List Nat)(i:Nat):List (List Nat):=(List.range i).flatMap fun k=>candT w k terms++(if k<w.length then [w.take k++w.drop (k+1)] else [])
def candW(terms:Nat)(ws:List (List Nat)):List (List Nat):=ws.flatMap fun w=>candI terms w (w.length+1)
theorem candT_succ(w:List Nat)(i t:Nat):candT w i (t+1)=candT w i t++((w.take i++[t]++w.drop i)::(if i<w.length then [w.take i++[t]++w.drop (i+1)] else [])):=by
 unfold candT;rw[List.range_succ,List.flatMap_append];simp
theorem candI_succ(terms:Nat)(w:List Nat)(i:Nat):candI terms w (i+1)=candI terms w i++(candT w i terms++(if i<w.length then [w.take i++w.drop (i+1)] else [])):=by
 unfold candI;rw[List.range_succ,List.flatMap_append];simp
theorem candT_len(w:List Nat)(i t:Nat):(candT w i t).length≤2*t:=by
 induction t with
 | zero=>simp[candT]
 | succ t ih=>
  rw[candT_succ,List.length_append,List.length_cons]
  have:(if i<w.length then [w.take i++[t]++w.drop (i+1)] else []).length≤1:=by split<;>simp
  omega
theorem candI_len(terms:Nat)(w:List Nat)(i:Nat):(candI terms w i).length≤i*(2*terms+1):=by
 induction i with
 | zero=>simp[candI]
 | succ i ih=>
  rw[candI_succ,List.length_append,List.length_append,Nat.add_mul,Nat.one_mul]
  have h1:=candT_len w i terms
  have:(if i<w.length then [w.take i++w.drop (i+1)] else []).length≤1:=by split<;>simp
  omega
theorem candW_len(terms:Nat):∀(ws:List (List Nat)),(∀w∈ws,w.length≤9)→(candW terms ws).length≤ws.length*(10*(2*terms+1))
 | [],_=>by simp[candW]
 | w::ws,h=>by
  have h1:=candI_len terms w (w.length+1)
  have h2:=candW_len terms ws (fun x hx=>h x (List.mem_cons_of_mem _ hx))
  have h3:=Nat.mul_le_mul_right (2*terms+1) (show w.length+1≤10 by have:=h w me;omega)
  unfold candW at h2 ⊢
  rw[List.flatMap_cons,List.length_append,List.length_cons,Nat.add_mul,Nat.one_mul]
  omega
structure OutS where
 a:Option Addr
 n:Nat
 c:Nat
 B:List (Nat×Blk)
 xs:List (List Nat)
def oB(i:Nat)(s:OutS):List (Nat×Blk):=(i,.cells false [.slice s.a s.n s.c])::s.B
theorem own_out(a:Nat×Blk)(B:List (Nat×Blk))(own:Own):OwnLe ([a]::B::own) ((a::B)::own):=OwnLe.flat (List.Perm.of_eq (by simp))
theorem own_out'(a:Nat×Blk)(B:List (Nat×Blk))(own:Own):OwnLe ((a::B)::own) ([a]::B::own):=OwnLe.flat (List.Perm.of_eq (by simp))
theorem near11_spec(F:Frz){i:Nat}{ro:Bool}{a b:Option Addr}{n c m d:Nat}{x y:List Nat}(hi:F i=some (.cells ro [.slice a n c]))(hx:Arr tNat F a n c x)(hy:Arr tNat F b m d y)(hn:n≤1000) :
  Abs.Spec CC 35 [.slice b m d,.pointer (some ⟨i,0,none⟩)] F [] fun _ v o=>o=[]∧v=.bool (decide (x=y)):=by
 refine Abs.Spec.fn (n:=7) Tryd.func35 rfl rfl fun own=>?_
 refine zB4 ?_
 refine WT.callV Tryd.func11 Z Z Z Z Z Z (equal_spec _ hx hy zo) (fun v hv=>?_)
 subst hv
 refine zB4 ?_
 exact AW.ret ⟨_,[],⟨_,_,rfl,rfl,rfl⟩,zsb,rfl,rfl⟩
theorem near1_spec(F:Frz){i:Nat}{s:OutS}(hs:Bld (tList tNat) F s.a s.n s.c s.B s.xs)(hl:s.xs.length≤400000){a:Option Addr}{n c:Nat}{x:List Nat}(hx:Arr tNat F a n c x)(hn:n≤1000) :
  Abs.Spec CC 33 [.slice a n c,.pointer (some ⟨i,0,none⟩)] F [oB i s] fun F' v o=>∃B',o=[B']∧∃s',B'=oB i s'∧Bld (tList tNat) F' s'.a s'.n s'.c s'.B s'.xs∧s'.xs=addX s.xs x:=by
 have hsl:=hs.len
 have hxl:=hx.len
 unfold oB
 refine Abs.Spec.fn (n:=16) Tryd.func33 rfl rfl fun own=>?_
 refine AW.le (own_out _ _ _) ?_
 refine AW.seq (AW.reg ?_)
 refine WT.boxT Z Z Z Z Z Z (fun i2 hi2=>?_)
 refine WT.freezeAll 0 Z Z (fun F1 hF1 hB1=>?_)
 have hi:=hB1 i2 _ me
 have hs1:=hs.mono hF1
 have hx1:=hx.mono hF1
 refine zB4 ?_
 refine WT.split 6 Z (fun hc=>?_) (fun hc=>?_)
 ·have hc:x.length≤12:=by simp at hc;omega
  refine zB4 ?_
  refine WT.callLend 2 Tryd.func34 Z Z Z Z Z Z Z (fun G hG hBG=>wordAny_spec G (hs1.frozen hG hBG) zo (fun y=>decide (x=y)) (first:=[]) (capt:=[.pointer (some ⟨i2,0,none⟩)]) Tryd.func35 Z (fun y hy b m d hb=>near11_spec G (hG _ _ hi) (hx1.mono hG) hb hn)) (fun v hv=>?_)
  subst hv
  refine zB4 ?_
  refine AW.cond Z (fun hd=>?_) (fun hd=>?_)
  ·have hd:x∉s.xs:=fun h=>by
    simp only[Bool.not_eq_true',List.any_eq_false,decide_eq_true_eq] at hd
    exact hd x h rfl
   refine zB4 ?_
   refine WT.buildT hT Z Z Z Z Z Z Z Z Z Z Z Z Z Z (fun i14 hi14=>?_)
   refine WT.appendT (ys:=[x]) hT 3 hs1 Z (fun _=>rfl) Z Z Z Z Z Z Z Z Z Z Z (fun h0 s0=>news_own hT s0 0 Z Z Z Z) (Cells.single (R:=tList tNat) (x:=x) ⟨a,n,c,rfl,hx1⟩) Z (by decide) zom (fun a' c' B' hB'=>?_)
   refine WT.le (OwnLe.skip _ (OwnLe.skip _ (own_out' _ _ _))) ?_
   refine zB4 ?_
   exact⟨_,[_],rfl,zsb,_,rfl,⟨a',s.n+1,c',B',s.xs++[x]⟩,rfl,hB',by unfold addX;rw[if_pos ⟨hc,hd⟩]⟩
  ·have hd:x∈s.xs:=by
    simp only[Bool.not_eq_false',List.any_eq_true,decide_eq_true_eq] at hd
    obtain⟨y,hy,rfl⟩:=hd
    exact hy
   refine AW.le (OwnLe.skip _ (own_out' _ _ _)) ?_
   refine zB4 ?_
   exact⟨_,[_],rfl,zsb,_,rfl,s,rfl,hs1,by unfold addX;rw[if_neg (fun h=>h.2 hd)]⟩
 ·have hc:¬x.length≤12:=by simp at hc;omega
  refine zB4 ?_
  refine AW.cond Z (fun h=>(by cases h)) (fun _=>?_)
  refine AW.le (OwnLe.skip _ (own_out' _ _ _)) ?_
  refine zB4 ?_
  exact⟨_,[_],rfl,zsb,_,rfl,s,rfl,hs1,by unfold addX;rw[if_neg (fun h=>hc h.1)]⟩
theorem g3near_spec(F:Frz)(terms:Nat)(ht:terms≤3){a:Option Addr}{n c:Nat}{ws:List (List Nat)}(hw:Arr (tList tNat) F a n c ws)(hn:n≤5000)(hlen:∀w∈ws,w.length≤9) :
  Abs.Spec CC 12 [.int .i64 (terms:Nat),.slice a n c] F [] fun F' v o=>o=[]∧∃a' n' c',v=.slice a' n' c'∧Arr (tList tNat) F' a' n' c' ((candW terms ws).foldl addX []):=by
 have hwl:=hw.len
 have hall:∀q,q≤ws.length→(candW terms (ws.take q)).length≤350000:=fun q hq=>by
  have:=candW_len terms (ws.take q) (fun w hw=>hlen w (List.mem_of_mem_take hw))
  have h2:(ws.take q).length≤5000:=by rw[List.length_take];omega
  have:=Nat.mul_le_mul h2 (Nat.mul_le_mul_left 10 (show 2*terms+1≤7 by omega))
  omega
 refine Abs.Spec.fn (n:=76) Tryd.func12 rfl rfl fun own=>?_
 refine zC7 ?_
 refine WT.allocT hT Z Z Z Z Z Z (fun i5 hi5=>?_)
 refine zC7 ?_
 refine AW.range (S:=OutS) (fun _=>[]) (fun s=>oB i5 s::own) (fun q s G=>Bld (tList tNat) G s.a s.n s.c s.B s.xs∧s.xs=(candW terms (ws.take q)).foldl addX []) n ⟨none,0,0,[],[]⟩
  Z Z Z Z Z Z Z Z Z zo rfl rfl (fun _=>rfl) (fun _=>rfl) sM oR ⟨Bld.nil_ _ _,by simp[candW]⟩ ?_ ?_
 ·intro q s F1 hF1 hq hP
  obtain⟨hs,hsx⟩:=hP
  have hw1:=hw.mono hF1
  refine zC7 ?_
  refine WT.idxL hT hw1 Z Z Z Z Z Z Z Z Z zo (fun w hwq b3 off3 ro3 cs3 lx3 hb3 hp3 hrel3=>?_)
  obtain⟨wa,wn,wc,rfl,hwa⟩:=hrel3
  have hwal:=hwa.len
  have hw9:=hlen w (gM hwq)
  have htk:candW terms (ws.take (q+1))=candW terms (ws.take q)++candI terms w (w.length+1):=by
   unfold candW;rw[List.take_add_one,hwq,List.flatMap_append];simp
  have hq7:=hall q zo
  have hfew:∀i,i≤10→∀l:List (List Nat),l.length≤10→(((candW terms (ws.take q)++candI terms w i)++l).foldl addX []).length≤400000:=fun i hi l hl=>by
   have h1:=len_addX (l:=(candW terms (ws.take q)++candI terms w i)++l) (acc:=[])
   have h2:=candI_len terms w i
   have h3:=Nat.mul_le_mul hi (show 2*terms+1≤7 by omega)
   rw[List.length_append,List.length_append] at h1
   simp only[List.length_nil] at h1
   omega
  refine zC7 ?_
  refine AW.range (S:=OutS) (fun _=>[]) (fun s=>oB i5 s::own) (fun i s G=>Bld (tList tNat) G s.a s.n s.c s.B s.xs∧s.xs=(candW terms (ws.take q)++candI terms w i).foldl addX []) (wn+1) s
   Z Z Z Z Z Z Z Z Z zo rfl rfl (fun _=>rfl) (fun _=>rfl) sM oR ⟨hs,by rw[hsx];simp[candI]⟩ ?_ ?_
  ·intro i s2 F2 hF2 hi hP2
   obtain⟨hs2,hsx2⟩:=hP2
   have hwa2:=hwa.mono hF2
   refine zC7 ?_
   refine AW.range (S:=OutS) (fun _=>[]) (fun s=>oB i5 s::own) (fun t s G=>Bld (tList tNat) G s.a s.n s.c s.B s.xs∧s.xs=((candW terms (ws.take q)++candI terms w i)++candT w i t).foldl addX []) terms s2
    Z Z Z Z Z Z Z Z Z zo rfl rfl (fun _=>rfl) (fun _=>rfl) sM oR ⟨hs2,by rw[hsx2];simp[candT]⟩ ?_ ?_
   ·intro t s3 F3 hF3 ht3 hP3
    obtain⟨hs3,hsx3⟩:=hP3
    have hwa3:=hwa2.mono hF3
    have hct:=candT_len w i t
    have hlen3:=hfew i zo (candT w i t) zo
    rw[←hsx3] at hlen3
    refine zC7 ?_
    refine AW.draw (ps:=[(3,5),(8,5)]) Z Z ?_
    refine zC7 ?_
    obtain⟨a1,c1,he1,ha1⟩:=hwa3.slice (C:=CC) (lo:=0) (hi:=i) (Nat.zero_le _) zo hT (t:=22) Z Z Z none (some (.int .i64 (i:Nat))) rfl rfl
    refine WT.slice Z Z Z Z Z Z Z Z he1 ?_
    refine zC7 ?_
    refine WT.buildT hT Z Z Z Z Z Z Z Z Z Z Z Z Z Z (fun i33 hi33=>?_)
    refine zC7 ?_
    obtain⟨a2,c2,he2,ha2⟩:=hwa3.slice (C:=CC) (lo:=i) (hi:=wn) zo (Nat.le_refl _) hT (t:=22) Z Z Z (some (.int .i64 (i:Nat))) none rfl rfl
    refine WT.slice Z Z Z Z Z Z Z Z he2 ?_
    refine WT.buildT hT Z Z Z Z Z Z Z Z Z Z Z Z Z Z (fun i37 hi37=>?_)
    refine WT.freezeAll 1 Z Z (fun F4 hF4 hB4=>?_)
    refine WT.freezeAll 0 Z Z (fun F5 hF5 hB5=>?_)
    rw[List.drop_zero] at ha1
    rw[List.take_of_length_le zo] at ha2
    have h33:Arr tNat F4 (some ⟨i33,0,none⟩) 1 1 [t]:=Bld.frozen (F:=F3) (B:=[(i33,.cells false [.int .i64 (t:Nat)])]) ⟨rfl,.inr ⟨i33,_,rfl,rfl,rfl,Cells.single (R:=tNat) (x:=t) rfl,by decide⟩⟩ hF4 hB4
    have h37:Arr (tList tNat) F5 (some ⟨i37,0,none⟩) 3 1 [w.take i,[t],w.drop i]:=Bld.frozen (F:=F5) (B:=[(i37,.cells false [.slice a1 (i-0) c1,.slice (some ⟨i33,0,none⟩) 1 1,.slice a2 (wn-i) c2])]) ⟨rfl,.inr ⟨i37,_,rfl,rfl,rfl,Cells.cons (R:=tList tNat) (x:=w.take i) (l:=[_]) ⟨_,_,_,rfl,ha1.mono (hF4.trans hF5)⟩ (Cells.cons (R:=tList tNat) (x:=[t]) (l:=[_]) ⟨_,_,_,rfl,h33.mono hF5⟩ (Cells.single (R:=tList tNat) (x:=w.drop i) ⟨_,_,_,rfl,ha2.mono (hF4.trans hF5)⟩)),by decide⟩⟩ (Frz.le.refl _) hB5
    have hfl:[w.take i,[t],w.drop i].flatten=w.take i++[t]++w.drop i:=by simp
    have hfn:(w.take i++[t]++w.drop i).length≤1000:=by simp;omega
    refine WT.callF0 Tryd.func36 Z Z Z Z Z Z (numConcat_spec _ h37 (by decide) (by rw[hfl];exact hfn)) (fun F6 x hF6 hx=>?_)
    obtain⟨xa,xc,rfl,hxa⟩:=hx
    rw[hfl] at hxa ⊢
    have hs36:=((hs3.mono hF4).mono hF5).mono hF6
    refine WT.callC1F 2 Tryd.func33 Z Z Z Z Z Z Z Z Z (fun _=>rfl) (near1_spec F6 (i:=i5) hs36 hlen3 hxa hfn) (fun F7 x B7 hF7 hx7=>?_)
    obtain⟨s4,rfl,hs4,hsx4⟩:=hx7
    have hwa7:=(((hwa3.mono hF4).mono hF5).mono hF6).mono hF7
    have hct2:s4.xs=((candW terms (ws.take q)++candI terms w i)++(candT w i t++[w.take i++[t]++w.drop i])).foldl addX []:=by
     rw[hsx4,hsx3,←List.append_assoc,List.foldl_append (l':=[_])];rfl
    have hlen4:=hfew i zo (candT w i t++[w.take i++[t]++w.drop i]) (by simp;omega)
    rw[←hct2] at hlen4
    refine zC7 ?_
    refine⟨zrC,?_⟩
    refine zC7 ?_
    refine AW.cond Z (fun hc=>?_) (fun hc=>?_)
    ·have hc:i<w.length:=by simp at hc;omega
     skip
     refine AW.draw (ps:=[(3,5),(8,5),(9,5)]) Z Z ?_
     refine zC7 ?_
     obtain⟨a1,c1,he1,ha1⟩:=hwa7.slice (C:=CC) (lo:=0) (hi:=i) (Nat.zero_le _) zo hT (t:=22) Z Z Z none (some (.int .i64 (i:Nat))) rfl rfl
     refine WT.slice Z Z Z Z Z Z Z Z he1 ?_
     refine zC7 ?_
     refine WT.buildT hT Z Z Z Z Z Z Z Z Z Z Z Z Z Z (fun i49 hi49=>?_)
     refine zC7 ?_
     obtain⟨a2,c2,he2,ha2⟩:=hwa7.slice (C:=CC) (lo:=i+1) (hi:=wn) zo (Nat.le_refl _) hT (t:=22) Z Z Z (some (.int .i64 ((i+1:Nat):Int))) none rfl rfl
     refine WT.slice Z Z Z Z Z Z Z Z he2 ?_
     refine WT.buildT hT Z Z Z Z Z Z Z Z Z Z Z Z Z Z (fun i54 hi54=>?_)
     refine WT.freezeAll 1 Z Z (fun F8 hF8 hB8=>?_)
     refine WT.freezeAll 0 Z Z (fun F9 hF9 hB9=>?_)
     rw[List.drop_zero] at ha1
     rw[List.take_of_length_le zo] at ha2
     have h49:Arr tNat F8 (some ⟨i49,0,none⟩) 1 1 [t]:=Bld.frozen (F:=F7) (B:=[(i49,.cells false [.int .i64 (t:Nat)])]) ⟨rfl,.inr ⟨i49,_,rfl,rfl,rfl,Cells.single (R:=tNat) (x:=t) rfl,by decide⟩⟩ hF8 hB8
     have h54:Arr (tList tNat) F9 (some ⟨i54,0,none⟩) 3 1 [w.take i,[t],w.drop (i+1)]:=Bld.frozen (F:=F9) (B:=[(i54,.cells false [.slice a1 (i-0) c1,.slice (some ⟨i49,0,none⟩) 1 1,.slice a2 (wn-(i+1)) c2])]) ⟨rfl,.inr ⟨i54,_,rfl,rfl,rfl,Cells.cons (R:=tList tNat) (x:=w.take i) (l:=[_]) ⟨_,_,_,rfl,ha1.mono (hF8.trans hF9)⟩ (Cells.cons (R:=tList tNat) (x:=[t]) (l:=[_]) ⟨_,_,_,rfl,h49.mono hF9⟩ (Cells.single (R:=tList tNat) (x:=w.drop (i+1)) ⟨_,_,_,rfl,ha2.mono (hF8.trans hF9)⟩)),by decide⟩⟩ (Frz.le.refl _) hB9
     have hfl:[w.take i,[t],w.drop (i+1)].flatten=w.take i++[t]++w.drop (i+1):=by simp
     have hfn:(w.take i++[t]++w.drop (i+1)).length≤1000:=by simp;omega
     refine WT.callF0 Tryd.func36 Z Z Z Z Z Z (numConcat_spec _ h54 (by decide) (by rw[hfl];exact hfn)) (fun F10 x hF10 hx=>?_)
     obtain⟨xa,xc,rfl,hxa⟩:=hx
     rw[hfl] at hxa ⊢
     have hs10:=((hs4.mono hF8).mono hF9).mono hF10
     refine WT.callC1F 4 Tryd.func33 Z Z Z Z Z Z Z Z Z (fun _=>rfl) (near1_spec F10 (i:=i5) hs10 hlen4 hxa hfn) (fun F11 x B11 hF11 hx11=>?_)
     obtain⟨s5,rfl,hs5,hsx5⟩:=hx11
     refine zC7 ?_
     refine⟨zrC,?_⟩
     skip
     refine⟨s5,sM,zow,hs5,?_⟩
     rw[candT_succ,if_pos hc,hsx5,hct2]
     rw[show candT w i t++[w.take i++[t]++w.drop i,w.take i++[t]++w.drop (i+1)]=(candT w i t++[w.take i++[t]++w.drop i])++[w.take i++[t]++w.drop (i+1)] by simp]
     rw[←List.append_assoc _ _ [w.take i++[t]++w.drop (i+1)],List.foldl_append (l':=[_])];rfl
    ·have hc:¬i<w.length:=by simp at hc;omega
     refine zC7 ?_
     refine⟨s4,sM,zow,hs4,?_⟩
     rw[candT_succ,if_neg hc,hct2]
   ·intro s3 F3 hF3 hP3
    obtain⟨hs3,hsx3⟩:=hP3
    have hwa3:=hwa2.mono hF3
    have hct:=candT_len w i terms
    have hlen3:=hfew i zo (candT w i terms) zo
    rw[←hsx3] at hlen3
    refine zC7 ?_
    refine AW.cond Z (fun hc=>?_) (fun hc=>?_)
    ·have hc:i<w.length:=by simp at hc;omega
     refine zC7 ?_
     obtain⟨a1,c1,he1,ha1⟩:=hwa3.slice (C:=CC) (lo:=0) (hi:=i) (Nat.zero_le _) zo hT (t:=22) Z Z Z none (some (.int .i64 (i:Nat))) rfl rfl
     refine WT.slice Z Z Z Z Z Z Z Z he1 ?_
     refine zC7 ?_
     obtain⟨a2,c2,he2,ha2⟩:=hwa3.slice (C:=CC) (lo:=i+1) (hi:=wn) zo (Nat.le_refl _) hT (t:=22) Z Z Z (some (.int .i64 ((i+1:Nat):Int))) none rfl rfl
     refine WT.slice Z Z Z Z Z Z Z Z he2 ?_
     refine WT.buildT hT Z Z Z Z Z Z Z Z Z Z Z Z Z Z (fun i70 hi70=>?_)
     refine WT.freezeAll 0 Z Z (fun F9 hF9 hB9=>?_)
     rw[List.drop_zero] at ha1
     rw[List.take_of_length_le zo] at ha2
     have h70:Arr (tList tNat) F9 (some ⟨i70,0,none⟩) 2 1 [w.take i,w.drop (i+1)]:=Bld.frozen (F:=F9) (B:=[(i70,.cells false [.slice a1 (i-0) c1,.slice a2 (wn-(i+1)) c2])]) ⟨rfl,.inr ⟨i70,_,rfl,rfl,rfl,Cells.cons (R:=tList tNat) (x:=w.take i) (l:=[_]) ⟨_,_,_,rfl,ha1.mono hF9⟩ (Cells.single (R:=tList tNat) (x:=w.drop (i+1)) ⟨_,_,_,rfl,ha2.mono hF9⟩),by decide⟩⟩ (Frz.le.refl _) hB9
     have hfl:[w.take i,w.drop (i+1)].flatten=w.take i++w.drop (i+1):=by simp
     have hfn:(w.take i++w.drop (i+1)).length≤1000:=by simp;omega
     refine WT.callF0 Tryd.func36 Z Z Z Z Z Z (numConcat_spec _ h70 (by decide) (by rw[hfl];exact hfn)) (fun F10 x hF10 hx=>?_)
     obtain⟨xa,xc,rfl,hxa⟩:=hx
     rw[hfl] at hxa ⊢
     have hs10:=(hs3.mono hF9).mono hF10
     refine WT.callC1F 1 Tryd.func33 Z Z Z Z Z Z Z Z Z (fun _=>rfl) (near1_spec F10 (i:=i5) hs10 hlen3 hxa hfn) (fun F11 x B11 hF11 hx11=>?_)
     obtain⟨s5,rfl,hs5,hsx5⟩:=hx11
     refine zC7 ?_
     refine⟨s5,sM,zow,hs5,?_⟩
     rw[candI_succ,if_pos hc,hsx5,hsx3]
     simp only[List.foldl_append,List.foldl_cons,List.foldl_nil]
    ·have hc:¬i<w.length:=by simp at hc;omega
     refine zC7 ?_
     refine⟨s3,sM,zow,hs3,?_⟩
     rw[candI_succ,if_neg hc,hsx3]
     simp only[List.foldl_append,List.foldl_nil]
  ·intro s2 F2 hF2 hP2
   obtain⟨hs2,hsx2⟩:=hP2
   skip
   exact⟨s2,sM,zow,hs2,by rw[hsx2,htk,hwal]⟩
 ·intro s F1 hF1 hP
  obtain⟨hs,hsx⟩:=hP
  rw[List.take_of_length_le zo] at hsx
  refine AW.le (own_out _ _ _) ?_
  refine AW.freezeAll 1 Z Z (fun F2 hF2 hB2=>?_)
  have harr:=hs.frozen hF2 hB2
  refine zC7 ?_
  exact AW.ret ⟨_,[],⟨_,_,rfl,rfl,rfl⟩,zsb,rfl,_,_,_,rfl,hsx▸harr⟩
inductive Op(T:Nat):List Nat→List Nat→Prop
 | ins {x:List Nat} {t:Nat}:t<T→Op T x (t::x)
 | rep {x:List Nat} {a t:Nat}:t<T→Op T (a::x) (t::x)
 | del {x:List Nat} {a:Nat}:Op T (a::x) x
 | cons {x y:List Nat} {a:Nat}:Op T x y→Op T (a::x) (a::y)
theorem Op.low{T:Nat}{x y:List Nat}(h:Op T x y):(∀t∈x,t<T)→∀t∈y,t<T:=by
 induction h with
 | ins ht=>intro h t h1;rcases List.mem_cons.1 h1 with rfl | h1;exact ht;exact h t h1
 | rep ht=>intro h t h1;rcases List.mem_cons.1 h1 with rfl | h1;exact ht;exact h t (List.mem_cons_of_mem _ h1)
 | del=>intro h t h1;exact h t (List.mem_cons_of_mem _ h1)
 | cons _ ih=>
  intro h t h1
  rcases List.mem_cons.1 h1 with rfl | h1
  ·exact h t me
  ·exact ih (fun s hs=>h s (List.mem_cons_of_mem _ hs)) t h1
theorem Op.at_ins{T t:Nat}(ht:t<T):∀(i:Nat) (x:List Nat),Op T x (x.take i++[t]++x.drop i)
 | 0,x=>.ins ht
 | i+1,[]=>.ins ht
 | i+1,a::x=>.cons (Op.at_ins ht i x)
theorem Op.at_rep{T t:Nat}(ht:t<T):∀(i:Nat) (x:List Nat),i<x.length→Op T x (x.take i++[t]++x.drop (i+1))
 | i,[],h=>absurd h (by simp)
 | 0,a::x,_=>.rep ht
 | i+1,a::x,h=>.cons (Op.at_rep ht i x (by simpa using h))
theorem Op.at_del{T:Nat}:∀(i:Nat) (x:List Nat),i<x.length→Op T x (x.take i++x.drop (i+1))
 | i,[],h=>absurd h (by simp)
 | 0,a::x,_=>.del
 | i+1,a::x,h=>.cons (Op.at_del i x (by simpa using h))
theorem Op.places{T:Nat}{x y:List Nat}(h:Op T x y):∃i,i≤x.length∧((∃t,t<T∧(y=x.take i++[t]++x.drop i∨i<x.length∧y=x.take i++[t]++x.drop (i+1)))∨i<x.length∧y=x.take i++x.drop (i+1)):=by
 induction h with
 | @ins x t ht=>exact⟨0,Nat.zero_le _,.inl ⟨t,ht,.inl rfl⟩⟩
 | @rep x a t ht=>exact⟨0,Nat.zero_le _,.inl ⟨t,ht,.inr ⟨by simp,rfl⟩⟩⟩
 | del=>exact⟨0,Nat.zero_le _,.inr ⟨by simp,rfl⟩⟩
 | cons _ ih=>
  obtain⟨i,hi,⟨t,ht,rfl | ⟨h,rfl⟩⟩ | ⟨h,rfl⟩⟩:=ih
  ·exact⟨i+1,by simpa using hi,.inl ⟨t,ht,.inl rfl⟩⟩
  ·exact⟨i+1,by simpa using hi,.inl ⟨t,ht,.inr ⟨by simpa using h,rfl⟩⟩⟩
  ·exact⟨i+1,by simpa using hi,.inr ⟨by simpa using h,rfl⟩⟩
theorem mem_candW{T:Nat}{ws:List (List Nat)}{y:List Nat}:y∈candW T ws↔∃x∈ws,Op T x y:=by
 unfold candW candI candT
 simp only[List.mem_flatMap,List.mem_append,List.mem_range,List.mem_cons]
 constructor
 ·rintro⟨x,hx,i,hi,⟨t,ht,rfl | h⟩ | h⟩
  ·exact⟨x,hx,Op.at_ins ht i x⟩
  ·split at h
   ·simp only[List.mem_cons,List.not_mem_nil,or_false] at h;subst h;exact⟨x,hx,Op.at_rep ht i x (by assumption)⟩
   ·cases h
  ·split at h
   ·simp only[List.mem_cons,List.not_mem_nil,or_false] at h;subst h;exact⟨x,hx,Op.at_del i x (by assumption)⟩
   ·cases h
 ·rintro⟨x,hx,h⟩
  obtain⟨i,hi,⟨t,ht,h | ⟨h1,h⟩⟩ | ⟨h1,h⟩⟩:=h.places
  ·exact⟨x,hx,i,by omega,.inl ⟨t,ht,.inl h⟩⟩
  ·exact⟨x,hx,i,by omega,.inl ⟨t,ht,.inr (by rw[if_pos h1,h];exact List.mem_cons_self ..)⟩⟩
  ·exact⟨x,hx,i,by omega,.inr (by rw[if_pos h1,h];exact List.mem_cons_self ..)⟩
theorem Ed.op{T:Nat}{w:List Nat}{j i:Nat}{x:List Nat}{c:Nat}(h:Ed w j i x c):∀y,Op T x y→∃d,d≤c+1∧Ed w j i y d:=by
 induction h with
 | nil h=>intro y h1;cases h1 with | ins ht=>exact⟨1,Nat.le_refl _,.ins (.nil h)⟩
 | @keep i t x c h he ih=>
  intro y h1
  cases h1 with
  | ins ht=>exact⟨c+1,Nat.le_refl _,.ins (.keep h he)⟩
  | rep ht=>exact⟨c+1,Nat.le_refl _,.rep he⟩
  | del=>exact⟨c+1,Nat.le_refl _,.del he⟩
  | cons h2=>obtain⟨d,hd,h3⟩:=ih _ h2;exact⟨d,hd,.keep h h3⟩
 | @del i x c he ih=>
  intro y h1
  obtain⟨d,hd,h3⟩:=ih _ h1
  exact⟨d+1,by omega,.del h3⟩
 | @ins i t x c he ih=>
  intro y h1
  cases h1 with
  | ins ht=>exact⟨c+2,Nat.le_refl _,.ins (.ins he)⟩
  | rep ht=>exact⟨c+1,by omega,.ins he⟩
  | del=>exact⟨c,by omega,he⟩
  | cons h2=>obtain⟨d,hd,h3⟩:=ih _ h2;exact⟨d+1,by omega,.ins h3⟩
 | @rep i t x c he ih=>
  intro y h1
  cases h1 with
  | ins ht=>exact⟨c+2,Nat.le_refl _,.ins (.rep he)⟩
  | rep ht=>exact⟨c+1,by omega,.rep he⟩
  | del=>exact⟨c+1,by omega,.del he⟩
  | cons h2=>obtain⟨d,hd,h3⟩:=ih _ h2;exact⟨d+1,by omega,.rep h3⟩
theorem Ed.back{T:Nat}{w:List Nat}(hw:∀t∈w,t<T){j i:Nat}{y:List Nat}{e:Nat}(h:Ed w j i y e):∀c,e=c+1→(∀t∈y,t<T)→∃x,Ed w j i x c∧Op T x y∧∀t∈x,t<T:=by
 have key:∀{i:Nat},i<w.length→∃a,w[i]?=some a∧a<T:=fun {i} hi=>⟨w[i],gE hi,hw _ (List.getElem_mem hi)⟩
 have cons:∀{a:Nat} {x:List Nat},a<T→(∀t∈x,t<T)→∀t∈a::x,t<T:=fun ha hx t ht=>by
  rcases List.mem_cons.1 ht with rfl | ht
  ·exact ha
  ·exact hx t ht
 induction h with
 | nil h=>intro c h1;omega
 | @keep i t x c h he ih=>
  intro c' h1 h2
  obtain⟨z,h3,h4,h5⟩:=ih c' h1 (fun s hs=>h2 s (List.mem_cons_of_mem _ hs))
  exact⟨t::z,.keep h h3,.cons h4,cons (h2 t me) h5⟩
 | @del i x c he ih=>
  intro c' h1 h2
  have hb:=he.bnd
  obtain rfl:c=c':=by omega
  obtain⟨a,ha,hT⟩:=key (i:=i) zo
  exact⟨a::x,.keep ha he,.del,cons hT h2⟩
 | @ins i t x c he ih=>
  intro c' h1 h2
  obtain rfl:c=c':=by omega
  exact⟨x,he,.ins (h2 t me),fun s hs=>h2 s (List.mem_cons_of_mem _ hs)⟩
 | @rep i t x c he ih=>
  intro c' h1 h2
  have hb:=he.bnd
  obtain rfl:c=c':=by omega
  obtain⟨a,ha,hT⟩:=key (i:=i) zo
  exact⟨a::x,.keep ha he,.rep (h2 t me),cons hT (fun s hs=>h2 s (List.mem_cons_of_mem _ hs))⟩
theorem part_all(w:List Nat):part w 0 w.length=w:=by unfold part;simp
theorem Ed.zero{w:List Nat}{j i:Nat}{x:List Nat}{c:Nat}(h:Ed w j i x c):c=0→x=part w i j:=by
 induction h with
 | nil h=>intro _;rw[part_nil h]
 | @keep i t x c h he ih=>
  intro hc
  have hb:=he.bnd
  obtain⟨s,hs,hp⟩:=part_cons (w:=w) (i:=i) (j:=j) zo hb.2.1
  rw[hp,ih hc]
  rw[h] at hs
  injection hs with hs
  rw[hs]
 | del=>intro h;omega
 | ins=>intro h;omega
 | rep=>intro h;omega
theorem Ed.same{w:List Nat}{j:Nat}(hj:j≤w.length):∀(k i:Nat),i+k=j→Ed w j i (part w i j) 0
 | 0, i, h => by obtain rfl : i = j := by omega
                 rw[part_nil hj];exact .nil hj
 | k+1,i,h=>by
  obtain⟨s,hs,hp⟩:=part_cons (w:=w) (i:=i) (j:=j) zo hj
  rw[hp];exact .keep hs (Ed.same hj k (i+1) zo)
structure Away(T:Nat)(w:List Nat)(k:Nat)(ws:List (List Nat)):Prop where
 near:∀x∈ws,(∃c,c≤k∧Ed w w.length 0 x c)∧∀t∈x,t<T
 all:∀x,Ed w w.length 0 x k→(∀t∈x,t<T)→x∈ws
 few:ws.length≤70 ^ k
theorem Away.start{T:Nat}{w:List Nat}(hw:∀t∈w,t<T):Away T w 0 [w] where
 near:=fun x hx=>by
  simp only[List.mem_cons,List.not_mem_nil,or_false] at hx
  subst hx
  have:=Ed.same (w:=x) (Nat.le_refl _) x.length 0 zo
  rw[part_all] at this
  exact⟨⟨0,Nat.le_refl _,this⟩,hw⟩
 all:=fun x hx _=>by rw[hx.zero rfl,part_all];exact List.mem_cons_self ..
 few:=by simp
theorem Away.len{T:Nat}{w:List Nat}{k:Nat}{ws:List (List Nat)}(h:Away T w k ws){x:List Nat}(hx:x∈ws):x.length≤w.length+k:=by
 obtain⟨⟨c,hc,he⟩,_⟩:=h.near x hx
 have:=he.bnd
 omega
theorem Away.next{T:Nat}(hT:T≤3){w:List Nat}(hw:∀t∈w,t<T)(hw4:w.length≤4){k:Nat}(hk:k≤5){ws:List (List Nat)}(h:Away T w k ws):Away T w (k+1) ((candW T ws).foldl addX []) where
 near:=fun x hx=>by
  rw[mem_addX,mem_candW] at hx
  rcases hx with hx | ⟨⟨y,hy,ho⟩,_⟩
  ·cases hx
  ·obtain⟨⟨c,hc,he⟩,hl⟩:=h.near y hy
   obtain⟨d,hd,h2⟩:=he.op x ho
   exact⟨⟨d,by omega,h2⟩,ho.low hl⟩
 all:=fun x hx hl=>by
  rw[mem_addX,mem_candW]
  have hb:=hx.bnd
  obtain⟨y,h1,h2,h3⟩:=hx.back hw k rfl hl
  exact .inr ⟨⟨y,h.all y h1 h3,h2⟩,by omega⟩
 few:=by
  have h1:=len_addX (l:=candW T ws) (acc:=[])
  have h2:=candW_len T ws (fun x hx=>by have:=h.len hx;omega)
  have h3:=Nat.mul_le_mul h.few (Nat.mul_le_mul_left 10 (show 2*T+1≤7 by omega))
  rw[Nat.pow_succ]
  simp only[List.length_nil] at h1
  omega
theorem der_low{g:Gram}(hg:Valid g){y:List Nat}{s:Sym}{i j:Nat}(h:Der g y s i j):SymOk g.terms g.nons s→∀m,i≤m→m<j→∃t,y[m]?=some t∧t<g.terms:=by
 refine Der.rec (motive_1:=fun s i j _=>SymOk g.terms g.nons s→∀m,i≤m→m<j→∃t,y[m]?=some t∧t<g.terms)
  (motive_2:=fun l i j _=>(∀s∈l,SymOk g.terms g.nons s)→∀m,i≤m→m<j→∃t,y[m]?=some t∧t<g.terms) ?_ ?_ ?_ ?_ h
 ·intro t i h hs m h1 h2
  obtain rfl:m=i:=by omega
  unfold SymOk at hs
  rw[if_pos rfl] at hs
  exact⟨t,h,hs⟩
 ·intro r i j hr _ ih _;exact ih (hg.right r hr).2.2
 ·intro i _ m h1 h2;omega
 ·intro s l i m j _ _ ih1 ih2 hl q h1 h2
  rcases Nat.lt_or_ge q m with h | h
  ·exact ih1 (hl s me) q h1 h
  ·exact ih2 (fun x hx=>hl x (List.mem_cons_of_mem _ hx)) q h h2
theorem word_low{g:Gram}(hg:Valid g){y:List Nat}(h:Der g y ⟨false,g.start⟩ 0 y.length):∀t∈y,t<g.terms:=fun t ht=>by
 obtain⟨m,hm,rfl⟩:=List.getElem_of_mem ht
 obtain⟨t,h1,h2⟩:=der_low hg h (by unfold SymOk;rw[if_neg (by simp)];exact hg.range.start) m (Nat.zero_le _) hm
 rw[gE hm] at h1
 injection h1 with h1
 rw[h1];exact h2
def leX(x y:List Nat):Prop:=x.length<y.length∨x.length=y.length∧val4 x≤val4 y
theorem leX_refl(x:List Nat):leX x x:=.inr ⟨rfl,Nat.le_refl _⟩
theorem leX_trans{x y z:List Nat}(h:leX x y)(h2:leX y z):leX x z:=by unfold leX at *;omega
theorem leX_anti{x y:List Nat}(hx:Low x)(hy:Low y)(h:leX x y)(h2:leX y x):x=y:=by
 unfold leX at h h2
 exact val4_inj hx hy zo zo
structure BestX(g:Gram)(l:List (List Nat))(f:Bool)(b:List Nat):Prop where
 none_:f=false→b=[]∧∀x∈l,derives g x g.start 0 x.length=false
 some_:f=true→b∈l∧derives g b g.start 0 b.length=true∧∀x∈l,derives g x g.start 0 x.length=true→leX b x
theorem BestX.start(g:Gram):BestX g [] false []:=⟨fun _=>⟨rfl,fun x hx=>(by cases hx)⟩,fun h=>(by cases h)⟩
theorem BestX.skip{g:Gram}{l:List (List Nat)}{f:Bool}{b x:List Nat}(h:BestX g l f b)(hx:derives g x g.start 0 x.length=false):BestX g (l++[x]) f b where
 none_:=fun e=>⟨(h.none_ e).1,fun y hy=>by
  rcases List.mem_append.1 hy with h1 | h1
  ·exact(h.none_ e).2 y h1
  ·obtain rfl:=List.mem_singleton.1 h1;exact hx⟩
 some_:=fun e=>⟨List.mem_append_left _ (h.some_ e).1,(h.some_ e).2.1,fun y hy hd=>by
  rcases List.mem_append.1 hy with h1 | h1
  ·exact(h.some_ e).2.2 y h1 hd
  ·obtain rfl:=List.mem_singleton.1 h1;rw[hx] at hd;cases hd⟩
theorem BestX.stay{g:Gram}{l:List (List Nat)}{b x:List Nat}(h:BestX g l true b)(hx:leX b x):BestX g (l++[x]) true b where
 none_:=fun e=>(by cases e)
 some_:=fun e=>⟨List.mem_append_left _ (h.some_ e).1,(h.some_ e).2.1,fun y hy hd=>by
  rcases List.mem_append.1 hy with h1 | h1
  ·exact(h.some_ e).2.2 y h1 hd
  ·obtain rfl:=List.mem_singleton.1 h1;exact hx⟩
theorem BestX.take{g:Gram}{l:List (List Nat)}{f:Bool}{b x:List Nat}(h:BestX g l f b)(hx:derives g x g.start 0 x.length=true)(hb:f=true→leX x b):BestX g (l++[x]) true x where
 none_:=fun e=>(by cases e)
 some_:=fun _=>⟨List.mem_append_right _ (List.mem_singleton.2 rfl),hx,fun y hy hd=>by
  rcases List.mem_append.1 hy with h1 | h1
  ·cases f with
   | false=>rw[(h.none_ rfl).2 y h1] at hd;cases hd
   | true=>exact leX_trans (hb rfl) ((h.some_ rfl).2.2 y h1 hd)
  ·obtain rfl:=List.mem_singleton.1 h1;exact leX_refl _⟩
theorem listG_one:Der listG [0] ⟨false,listG.start⟩ 0 ([0]:List Nat).length:=
 .non (r:=⟨0,[⟨true,0⟩]⟩) (by simp[listG]) (.cons (.term rfl) .nil)
theorem listG_best{b:Way}(hb:GoodW listG [] ⟨false,listG.start⟩ 0 0 b)(h:∀y k,Der listG y ⟨false,listG.start⟩ 0 y.length→Ed [] 0 0 y k→b.le ⟨k,y⟩):b.cost=1∧b.w.length=1:=by
 have h1:=h [0] 1 listG_one (.ins (.nil (Nat.le_refl _)))
 have h2:=hb.2.bnd
 have h3:b.w≠[]:=fun e=>by
  have:=hb.1
  rw[e] at this
  exact listG_none this
 have h4:=List.length_pos_iff.2 h3
 unfold Way.le at h1
 simp only[List.length_cons,List.length_nil] at h1 h2
 omega
theorem gramS'{F:Frz}{v:Value}{g:Gram}(h:GramV F v g):∃a m c,v=.agg ⟨gramCells g a m c⟩∧Arr tRule F a m c g.rules:=h
structure KW where
 k:Nat
 a:Option Addr
 n:Nat
 c:Nat
 ws:List (List Nat)
structure KB where
 f:Bool
 a:Option Addr
 n:Nat
 c:Nat
 x:List Nat
theorem repairIsLeast_law(F:Frz)(hL:Laid F){a b:Option Addr}{m n c d:Nat}{l w0:List Int}(hl:Arr tInt F a m c l)(hw0:Arr tInt F b n d w0)(hm:n≤9223372036854775807) :
  Abs.Spec CC 3 [.slice a m c,.slice b n d] F [] fun _ v o=>o=[]∧v=.bool true:=by
 refine Abs.Spec.fn (n:=150) Tryd.func3 rfl rfl fun own=>?_
 refine zC7 ?_
 refine WT.callF0 Tryd.func6 Z Z Z Z Z Z (g3list_spec _) (fun F1 v hF1 hv=>?_)
 obtain⟨ka,kc,rfl,hk⟩:=hv
 have hL1:=hL.mono hF1
 refine zC7 ?_
 refine WT.callF0 Tryd.func5 Z Z Z Z Z Z (rBest_spec _ listG listG_valid (by decide) (by decide) (by decide) hk (v:=[]) (Arr.nil_ _ _) (by decide) (fun t ht=>by cases ht)) (fun F2 v hF2 hv=>?_)
 rcases hv with ⟨_,hno⟩ | ⟨q,qp,qn,qd,rfl,hq,hqo,hqg,hql⟩
 ·exact absurd listG_one (hno [0])
 obtain⟨hq1,hq2⟩:=listG_best hqg hql
 have hqn:=hq.len
 rw[hq2] at hqn
 subst hqn
 rw[hq1]
 refine zC7 ?_
 refine AW.cond Z (fun h=>(by cases h)) (fun _=>?_)
 have hF02:=hF1.trans hF2
 have hL2:=hL.mono hF02
 refine zC7 ?_
 refine WT.callF0 Tryd.func7 Z Z Z Z Z Z (grammar_spec _ (hl.mono hF02)) (fun F3 v hF3 hv=>?_)
 obtain⟨g,hgv,hg⟩:=hv
 obtain⟨ga,gm,gc,rfl,hr⟩:=gramS' hgv
 have hgt:=hg.terms
 unfold gramCells
 skip
 refine WT.allocT hT Z Z Z Z Z Z (fun i8 hi8=>?_)
 refine zC7 ?_
 refine WT.callF0 Tryd.func8 Z Z Z Z Z Z (word_spec _ g.terms 4 zo (by decide) ((hw0.mono hF02).mono hF3) hm) (fun F4 v hF4 hv=>?_)
 obtain⟨wa,wn,wc,w,rfl,hw,hw1,hw2⟩:=hv
 have hwlen:=hw.len
 have hr4:=hr.mono hF4
 have hL4:=(hL2.mono hF3).mono hF4
 have hrb:=rBest_spec F4 g hg.valid hg.nons.2 (fun r hr=>(hg.ok r hr).2.1) hgt.2 hr4 hw zo hw2
 unfold gramCells at hrb
 refine zC7 ?_
 refine WT.callF0 Tryd.func5 Z Z Z Z Z Z hrb (fun F5 v hF5 hv=>?_)
 rcases hv with ⟨rfl,_⟩ | ⟨e,va,vn,vc,rfl,hv,hvo,hvg,hvl⟩
 ·refine zC7 ?_
  refine AW.cond Z (fun _=>?_) (fun h=>(by cases h))
  refine zC7 ?_
  exact AW.ret ⟨_,[],⟨_,_,rfl,rfl,rfl⟩,zsb,rfl,rfl⟩
 have hvn:=hv.len
 have hec:=hvo.cost
 have hvb:=hvg.2.bnd
 have hw5:=hw.mono hF5
 have hr5:=hr4.mono hF5
 have hL5:=hL4.mono hF5
 refine zC7 ?_
 refine AW.cond Z (fun h=>(by cases h)) (fun _=>?_)
 refine zC7 ?_
 refine AW.cond Z (fun hc=>?_) (fun hc=>?_)
 ·have hc:12<e.w.length:=by simp at hc;omega
  refine zC7 ?_
  refine AW.ret ⟨_,[],⟨_,_,rfl,rfl,rfl⟩,zsb,rfl,?_⟩
  rw[show decide ((e.cost:Int) > (wn:Int))=true from decide_eq_true zo]
  rfl
 have hc:e.w.length≤12:=by simp at hc;omega
 have hvlow:=word_low hg.valid hvg.1
 refine zC7 ?_
 refine WT.buildT hT Z Z Z Z Z Z Z Z Z Z Z Z Z Z (fun i70 hi70=>?_)
 refine WT.freezeAll 0 Z Z (fun F6 hF6 hB6=>?_)
 have h70:Arr (tList tNat) F6 (some ⟨i70,0,none⟩) 1 1 [w]:=Bld.frozen (F:=F6) (B:=[(i70,.cells false [.slice wa wn wc])]) ⟨rfl,.inr ⟨i70,_,rfl,rfl,rfl,Cells.single (R:=tList tNat) (x:=w) ⟨_,_,_,rfl,hw5.mono hF6⟩,by decide⟩⟩ (Frz.le.refl _) hB6
 refine zC7 ?_
 refine AW.block ?_
 refine AW.loopR (S:=KW) (fun s=>[(13,.int .i64 (s.k:Nat)),(12,.slice s.a s.n s.c)]) (fun _=>[(i8,.cells false [.int .i64 g.terms,.int .i64 g.nons,.int .i64 g.start,.slice ga gm gc])]::own)
  (fun s G=>Arr (tList tNat) G s.a s.n s.c s.ws∧Away g.terms w s.k s.ws∧s.k≤min e.cost 2+1) (fun s=>3-s.k) ⟨0,some ⟨i70,0,none⟩,1,1,[w]⟩ sM zow ⟨h70,Away.start hw2,Nat.zero_le _⟩ ?_
 intro s F7 hF7 hP
 obtain⟨hs,hsa,hsk⟩:=hP
 have hsn:=hs.len
 have hsf:=hsa.few
 have hp70:70 ^ s.k≤343000:=Nat.le_trans (Nat.pow_le_pow_right (by decide) (show s.k≤3 by omega)) (by decide)
 have hL7:=(hL5.mono hF6).mono hF7
 have hr7:=(hr5.mono hF6).mono hF7
 have hv7:=(hv.mono hF6).mono hF7
 refine zC7 ?_
 refine WT.minT (x:=e.cost) (y:=2) Z Z Z Z Z Z ?_
 refine zC7 ?_
 refine AW.cond Z (fun hk=>?_) (fun hk=>?_)
 ·have hk:s.k≤min e.cost 2:=Int.ofNat_le.1 (of_decide_eq_true hk)
  have hp2:70 ^ s.k≤4900:=Nat.le_trans (Nat.pow_le_pow_right (by decide) (show s.k≤2 by omega)) (by decide)
  refine zC7 ?_
  refine AW.block ?_
  refine zC7 ?_
  refine AW.range (S:=KB) (fun t=>[(14,.slice t.a t.n t.c),(15,.bool t.f)]) (fun _=>[(i8,.cells false [.int .i64 g.terms,.int .i64 g.nons,.int .i64 g.start,.slice ga gm gc])]::own)
   (fun j t G=>Arr tNat G t.a t.n t.c t.x∧BestX g (s.ws.take j) t.f t.x∧(t.f=true→s.k=e.cost)∧t.x.length≤12) s.n ⟨false,none,0,0,[]⟩
   Z Z Z Z Z Z Z Z Z zo rfl rfl (fun _=>rfl) (fun _=>rfl) sM oR ⟨Arr.nil_ _ _,BestX.start g,fun h=>(by cases h),by simp⟩ ?_ ?_
  ·intro j t F8 hF8 hj hPt
   obtain⟨tf,ta,tn,tc,tx⟩:=t
   have hPt:Arr tNat F8 ta tn tc tx∧BestX g (s.ws.take j) tf tx∧(tf=true→s.k=e.cost)∧tx.length≤12:=hPt
   obtain⟨htx,htb,hte,ht12⟩:=hPt
   have htn:=htx.len
   have hs8:=hs.mono hF8
   refine zC7 ?_
   refine WT.idxL hT hs8 Z Z Z Z Z Z Z Z Z zo (fun x hxj b3 off3 ro3 cs3 lx3 hb3 hp3 hrel3=>?_)
   obtain⟨xa,xn,xc,rfl,hx⟩:=hrel3
   have hxn:=hx.len
   have hxm:=gM hxj
   obtain⟨⟨xk,hxk,hxe⟩,hxl⟩:=hsa.near x hxm
   have hx6:=hsa.len hxm
   have htk:s.ws.take (j+1)=s.ws.take j++[x]:=by rw[List.take_add_one,hxj];rfl
   have has:=accepts_spec F8 (hL7.mono hF8) g hg.valid (hr7.mono hF8) hx zo hxl
   unfold gramCells at has
   refine zC7 ?_
   refine WT.callV Tryd.func9 Z Z Z Z Z Z has (fun v hv=>?_)
   subst hv
   cases hacc:derives g x g.start 0 x.length with
   | false=>
    refine zC7 ?_
    refine AW.cond Z (fun h=>(by cases h)) (fun _=>?_)
    refine zC7 ?_
    refine AW.cond Z (fun h=>(by cases h)) (fun _=>?_)
    refine zC7 ?_
    exact⟨⟨tf,ta,tn,tc,tx⟩,sM,zow,htx,by rw[htk];exact htb.skip hacc,hte,ht12⟩
   | true=>
    have hle:=hvl x xk (derives_iff.1 hacc) hxe
    have hle1:e.cost≤xk:=Way.le_cost hle
    refine zC7 ?_
    refine AW.cond Z (fun h=>?_) (fun _=>?_)
    ·have h:=Int.ofNat_lt.1 (of_decide_eq_true h)
     exact absurd h zo
    have hke:s.k=e.cost:=by omega
    cases tf with
    | false=>
     refine zC7 ?_
     refine AW.cond Z (fun _=>?_) (fun h=>(by cases h))
     refine zC7 ?_
     exact⟨⟨true,xa,xn,xc,x⟩,sM,zow,hx,by rw[htk];exact htb.take hacc (fun h=>(by cases h)),fun _=>hke,by show x.length≤12;omega⟩
    | true=>
     have hxlow:Low x:=fun t ht=>by have:=hxl t ht;omega
     have htlow:Low tx:=fun t ht=>by have:=(hsa.near tx (List.mem_of_mem_take (htb.some_ rfl).1)).2 t ht;omega
     refine zC7 ?_
     refine WT.split 110 Z (fun hd=>?_) (fun hd=>?_)
     ·have hd:xn<tn:=by simp at hd;omega
      refine zC7 ?_
      refine AW.cond Z (fun _=>?_) (fun h=>(by cases h))
      refine zC7 ?_
      exact⟨⟨true,xa,xn,xc,x⟩,sM,zow,hx,by rw[htk];exact htb.take hacc (fun _=>.inl zo),fun _=>hke,by show x.length≤12;omega⟩
     ·have hd:¬xn<tn:=by simp at hd;omega
      refine zC7 ?_
      refine WT.split 116 Z (fun hf=>?_) (fun hf=>?_)
      ·have hf:xn=tn:=by simp at hf;omega
       refine zC7 ?_
       refine WT.callV Tryd.func10 Z Z Z Z Z Z (numCompare_spec _ hx htx zo (by show tn≤1000000;omega)) (fun v hv=>?_)
       subst hv
       refine zC7 ?_
       refine AW.cond Z (fun hc=>?_) (fun hc=>?_)
       ·have hc:=(cmp_val4 hxlow htlow zo).1.1 (of_decide_eq_true hc)
        refine zC7 ?_
        exact⟨⟨true,xa,xn,xc,x⟩,sM,zow,hx,by rw[htk];exact htb.take hacc (fun _=>.inr ⟨by omega,by omega⟩),fun _=>hke,by show x.length≤12;omega⟩
       ·have hc:¬val4 x<val4 tx:=fun h=>of_decide_eq_false hc ((cmp_val4 hxlow htlow zo).1.2 h)
        refine zC7 ?_
        have hst:leX tx x:=.inr ⟨by omega,by omega⟩
        exact⟨⟨true,ta,tn,tc,tx⟩,sM,zow,htx,by rw[htk];exact htb.stay hst,hte,ht12⟩
      ·have hf:¬xn=tn:=by simp at hf;omega
       refine zC7 ?_
       refine AW.cond Z (fun h=>(by cases h)) (fun _=>?_)
       refine zC7 ?_
       exact⟨⟨true,ta,tn,tc,tx⟩,sM,zow,htx,by rw[htk];exact htb.stay (.inl zo),hte,ht12⟩
  ·intro t F8 hF8 hPt
   obtain⟨tf,ta,tn,tc,tx⟩:=t
   have hPt:Arr tNat F8 ta tn tc tx∧BestX g (s.ws.take s.n) tf tx∧(tf=true→s.k=e.cost)∧tx.length≤12:=hPt
   obtain⟨htx,htb,hte,ht12⟩:=hPt
   have htn:=htx.len
   rw[List.take_of_length_le zo] at htb
   refine zC7 ?_
   refine AW.cond Z (fun hc=>?_) (fun hc=>?_)
   ·have hc:s.k=e.cost:=by simp at hc;omega
    have hvk:e.w∈s.ws:=hsa.all e.w (by rw[hc];exact hvg.2) hvlow
    cases tf with
    | false=>exact absurd (derives_iff.2 hvg.1) (by rw[(htb.none_ rfl).2 e.w hvk];simp)
    | true=>
     obtain⟨h1,h2,h3⟩:=htb.some_ rfl
     obtain⟨⟨xk,hxk,hxe⟩,hxl⟩:=hsa.near tx h1
     have hle:=hvl tx xk (derives_iff.1 h2) hxe
     have hlx:leX e.w tx:=by
      unfold Way.le at hle
      unfold leX
      simp only at hle
      omega
     obtain rfl:tx=e.w:=leX_anti (fun t ht=>by have:=hxl t ht;omega) (fun t ht=>by have:=hvlow t ht;omega) (h3 e.w hvk (derives_iff.2 hvg.1)) hlx
     refine zC7 ?_
     refine WT.callV Tryd.func11 Z Z Z Z Z Z (equal_spec _ htx (hv7.mono hF8) (by show tn≤1000000;omega)) (fun v hv=>?_)
     subst hv
     refine zC7 ?_
     refine AW.ret ⟨_,[],⟨_,_,rfl,rfl,rfl⟩,zsb,rfl,?_⟩
     simp[tupleA]
   ·have hc:¬s.k=e.cost:=by simp at hc;omega
    refine zC7 ?_
    refine WT.callF0 Tryd.func12 Z Z Z Z Z Z (g3near_spec _ g.terms hgt.2 (hs.mono hF8) zo (fun w hw=>by have:=hsa.len hw;omega)) (fun F9 v hF9 hv=>?_)
    obtain⟨na,nn,nc,rfl,hna⟩:=hv
    refine zC7 ?_
    refine⟨⟨s.k+1,na,nn,nc,(candW g.terms s.ws).foldl addX []⟩,(by show 3-(s.k+1)<3-s.k;omega),sM,zow,hna,hsa.next hgt.2 hw2 hw1 zo,(by show s.k+1≤min e.cost 2+1;omega)⟩
 ·have hk:¬s.k≤min e.cost 2:=fun h=>by
   have:=of_decide_eq_false hk
   exact this (Int.ofNat_le.2 h)
  skip
  refine AW.exit ?_
  refine zC7 ?_
  have has:=accepts_spec F7 hL7 g hg.valid hr7 hv7 hc hvlow
  unfold gramCells at has
  refine WT.callV Tryd.func9 Z Z Z Z Z Z has (fun v hv=>?_)
  subst hv
  rw[derives_iff.2 hvg.1]
  refine zC7 ?_
  exact AW.ret ⟨_,[],⟨_,_,rfl,rfl,rfl⟩,zsb,rfl,rfl⟩
end Go.Proofs.D