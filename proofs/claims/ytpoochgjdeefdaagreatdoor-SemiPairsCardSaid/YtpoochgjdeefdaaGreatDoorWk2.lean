/-
  Walks: what functions of the program do, over the abstract machine.
-/
import Derived.Test.YtpoochgjdeefdaaGreatDoorWk1
set_option linter.unusedVariables false
set_option maxRecDepth 20000
set_option maxHeartbeats 0
open Go Go.Abs Go.Proofs Go.Proofs.D
namespace Go.Abs
section
variable {C:Ctx}{T:RT}{n:Nat}{k:Kno}{F:Frz}{own:Own}{ops rest:List Oper}{o:Oper}{Q:Kno→Frz→Own→List Rec→Prop}
theorem WT.eqA2(hT:rowsOk C T=true){t ty:TypeId}{xo yo:Operand}{a b c d:Int}{e:Nat}{r re:Row}(hop:o.op=.binOp .eql t xo yo ty)(hw:wantK ops k o=some true){dst:Nat}(hdst:o.dst=some dst)(hn:Nat.blt dst n=true)
  (hx:evK C k xo=some (.agg ⟨[.int .i64 a,.int .i64 b]⟩)) (hy:evK C k yo=some (.agg ⟨[.int .i64 c,.int .i64 d]⟩)) (hr:rowOf T t=some r) (hd:r.d=.array 2 e) (hre:rowOf T e=some re) (hde:re.d=.int .i64) (hse:sizeT T e=some 1) (hf:C.flat t=true)
  (h:WT C n ops rest ((dst,.bool (a==c&&b==d))::k) F own (fun k2 F2 own2 rs=>Q k2 F2 own2 (⟨F,own,F,own,[]⟩::rs))):WT C n ops (o::rest) k F own Q:=by
 refine WT.still hw (by rw[hop];simp only[looksK,hx,hy];rfl) (fun h0 _=>?_) (by rw[hdst,putK_some hn];exact h)
 rw[hop]
 have hu:=und_array hT hr hd
 have hue:=und_int hT hre hde
 have hs:=sizeT_ok hT hse
 simp only[opA,hx,hy,binA,eqLets,hf,cond_true,equalA,hu]
 unfold eqA
 simp only[hu,hs]
 rw[show List.range 2=[0,1] from rfl]
 simp only[eqElems]
 have r0:readA C [Value.int .i64 a,.int .i64 b] e (0*1)=some (.int .i64 a):=by unfold readA;rw[hue];rfl
 have r1:readA C [Value.int .i64 a,.int .i64 b] e (1*1)=some (.int .i64 b):=by unfold readA;rw[hue];rfl
 have s0:readA C [Value.int .i64 c,.int .i64 d] e (0*1)=some (.int .i64 c):=by unfold readA;rw[hue];rfl
 have s1:readA C [Value.int .i64 c,.int .i64 d] e (1*1)=some (.int .i64 d):=by unfold readA;rw[hue];rfl
 have q:∀x y:Int,eqA C 7 e (.int .i64 x) (.int .i64 y)=some (x==y):=fun x y=>by
  unfold eqA;simp only[hue,eqBasic,if_true]
 simp only[r0,r1,s0,s1,q]
 cases a==c<;>cases b==d<;>rfl
theorem WT.loadOA(hT:rowsOk C T=true)(p:Nat){t:TypeId}{ao:Operand}{i off m:Nat}{ro:Bool}{cs l:List Value}{r:Row}{B:List (Nat×Blk)}(hop:o.op=.load t ao)(hw:wantK ops k o=some true){dst:Nat}(hdst:o.dst=some dst)(hn:Nat.blt dst n=true)
  (ha:evK C k ao=some (.pointer (some ⟨i,off,none⟩))) (hp:own[p]?=some B) (hq:(i,Blk.cells ro cs)∈B) (hr:rowOf T t=some r) (hd:r.d.agg=true) (hm:r.size=m) (hv:partL cs off m=some l)
  (h:WT C n ops rest ((dst,.agg ⟨l⟩)::k) F own (fun k2 F2 own2 rs=>Q k2 F2 own2 (⟨F,own,F,own,[i]⟩::rs))):WT C n ops (o::rest) k F own Q:=
 WT.loadOwn p hop hw ha hp hq (readA_agg hT hr hd hm hv) (by rw[hdst,putK_some hn];exact h)
theorem WT.storeA2(hT:rowsOk C T=true)(p q:Nat){B B':List (Nat×Blk)}{own':Own}{t:TypeId}{a x:Operand}{i off:Nat}{cs cs':List Value}{v w:Value}(hop:o.op=.store t a x)(hw:wantK ops k o=some true)(hd:o.dst=none)(ha:evK C k a=some (.pointer (some ⟨i,off,none⟩)))
  (hx:evK C k x=some (.agg ⟨[v,w]⟩)) (hp:own[p]?=some B) (hq:B[q]?=some (i,.cells false cs)) (hm:sizeT T t=some 2) (h1:one v=true) (h2:one w=true) (hlt:off+2≤cs.length) (hcs:spliceL cs off [v,w]=cs')
  (hB:B.set q (i,.cells false cs')=B') (ho:setO own p B'=some own')
  (h:WT C n ops rest k F own' (fun k2 F2 own2 rs=>Q k2 F2 own2 (⟨F,own,F,own',[i]⟩::rs))) :
  WT C n ops (o::rest) k F own Q:=by
 have e2:=setO_ok _ _ _ _ ho
 subst hcs hB
 subst e2
 have:=WT.store (C:=C) (n:=n) (k:=k) (F:=F) (Q:=Q) (rest:=rest) (ops:=ops) p q hop hw ha hx hp hq (sizeT_ok hT hm) rfl (by show ([v,w]:List Value).all one=true;simp[h1,h2]) hlt
 exact this (by rw[hd];exact h)
end
end Go.Abs
namespace Go.Proofs.D
def tPair:Ty (Nat×Nat) where
 size:=2
 rel:=fun _ l x=>l=[.int .i64 x.1,.int .i64 x.2]
 len:=fun _ _ _ h=>by rw[h];rfl
 one:=fun _ _ _ h=>by rw[h];rfl
 mono:=fun _ _ _ _ _ h=>h
def cells2(vs:List (Nat×Nat)):List Value:=vs.flatMap fun p=>[ci p.1,ci p.2]
theorem cells2_len:∀(vs:List (Nat×Nat)),(cells2 vs).length=2*vs.length
 | []=>rfl
 | p::vs=>by
  show (ci p.1::ci p.2::cells2 vs).length=_
  rw[List.length_cons,List.length_cons,cells2_len vs,List.length_cons];omega
theorem cells2_drop:∀(j:Nat) (vs:List (Nat×Nat)),(cells2 vs).drop (2*j)=cells2 (vs.drop j)
 | 0,vs=>rfl
 | j+1,[]=>by simp[cells2]
 | j+1,p::vs=>by
  show (ci p.1::ci p.2::cells2 vs).drop (2*(j+1))=cells2 (vs.drop j)
  rw[show 2*(j+1)=2*j+1+1 by omega,List.drop_succ_cons,List.drop_succ_cons,cells2_drop j vs]
theorem cells2_take:∀(j:Nat) (vs:List (Nat×Nat)),(cells2 vs).take (2*j)=cells2 (vs.take j)
 | 0,vs=>rfl
 | j+1,[]=>by simp[cells2]
 | j+1,p::vs=>by
  show (ci p.1::ci p.2::cells2 vs).take (2*(j+1))=ci p.1::ci p.2::cells2 (vs.take j)
  rw[show 2*(j+1)=2*j+1+1 by omega,List.take_succ_cons,List.take_succ_cons,cells2_take j vs]
theorem cells2_part{vs:List (Nat×Nat)}{j:Nat}{p:Nat×Nat}(h:vs[j]?=some p):partL (cells2 vs) (0+j*2) 2=some [.int .i64 p.1,.int .i64 p.2]:=by
 have hl:=(gS h)
 obtain⟨h1,h2⟩:=hl
 refine partL_of ?_ rfl
 rw[Nat.zero_add,Nat.mul_comm,cells2_drop,List.drop_eq_getElem_cons h1,h2]
 rfl
theorem cells2_set{vs:List (Nat×Nat)}{j:Nat}{p:Nat×Nat}(h:j<vs.length):spliceL (cells2 vs) (0+j*2) [.int .i64 p.1,.int .i64 p.2]=cells2 (vs.set j p):=by
 unfold spliceL
 rw[Nat.zero_add,Nat.mul_comm,cells2_take,show 2*j+[Value.int .i64 p.1,.int .i64 p.2].length=2*(j+1) from rfl,cells2_drop,List.set_eq_take_append_cons_drop,if_pos h]
 unfold cells2
 rw[List.flatMap_append,List.flatMap_cons]
theorem arr_cells2{F:Frz}{i n c:Nat}{vs:List (Nat×Nat)}(h:F i=some (.cells false (cells2 vs)))(hn:vs.length=n)(hc:c=if n=0 then 0 else 2):Arr tPair F (some ⟨i,0,none⟩) n c vs where
 len:=hn.symm
 cap:=by rw[hc];split;exact .inl rfl;exact .inr rfl
 zero:=fun e=>by rw[hc] at e;split at e<;>omega
 nil:=fun e=>(by cases e)
 spot:=fun p e=>(by cases e;rfl)
 el:=fun j x hx=>⟨i,0,false,_,_,rfl,h,cells2_part hx,rfl⟩
structure RingP where
 r1:RingI
 r2:RingI
 gp:Nat
 gt:Nat
 gs:Nat
 gr:Nat
 cp:List Value
 ct:List Value
 cs:List Value
 cr:List Value
def RingP.ring(r:RingP):List Value:=[ci 0,ci 0,ci 1,ci 1,.func (.func r.gp) ⟨[]⟩ ⟨r.cp⟩,.func (.func r.gt) ⟨[]⟩ ⟨r.ct⟩,.func (.func r.gs) ⟨[]⟩ ⟨r.cs⟩]
structure RingPOk(F:Frz)(r:RingP):Prop where
 hp:HasF r.gp
 ht:HasF r.gt
 hs:HasF r.gs
 hr:HasF r.gr
 P:∀a b c d,a≤r.r1.M→b≤r.r2.M→c≤r.r1.M→d≤r.r2.M→r.r1.P a c≤r.r1.M∧r.r2.P b d≤r.r2.M∧Abs.Spec CC r.gp ([.agg ⟨[ci a,ci b]⟩,.agg ⟨[ci c,ci d]⟩]++r.cp) F [] fun _ v o=>o=[]∧v=.agg ⟨[ci (r.r1.P a c),ci (r.r2.P b d)]⟩
 T:∀a b c d,a≤r.r1.M→b≤r.r2.M→c≤r.r1.M→d≤r.r2.M→r.r1.T a c≤r.r1.M∧r.r2.T b d≤r.r2.M∧Abs.Spec CC r.gt ([.agg ⟨[ci a,ci b]⟩,.agg ⟨[ci c,ci d]⟩]++r.ct) F [] fun _ v o=>o=[]∧v=.agg ⟨[ci (r.r1.T a c),ci (r.r2.T b d)]⟩
 S:∀a b c d:Nat,Abs.Spec CC r.gs ([.agg ⟨[ci a,ci b]⟩,.agg ⟨[ci c,ci d]⟩]++r.cs) F [] fun _ v o=>o=[]∧v=.bool (decide ((a,b)=(c,d)))
 R:∀n:Nat,r.r1.R n≤r.r1.M∧r.r2.R n≤r.r2.M∧Abs.Spec CC r.gr ([ci n]++r.cr) F [] fun _ v o=>o=[]∧v=.agg ⟨[ci (r.r1.R n),ci (r.r2.R n)]⟩
 one:1≤r.r1.M∧1≤r.r2.M
def fst2(vs:List (Nat×Nat)):List Nat:=vs.map fun p=>p.1
def snd2(vs:List (Nat×Nat)):List Nat:=vs.map fun p=>p.2
def nodeP(r:RingP)(vs:List (Nat×Nat))(x:Node):Nat×Nat:=(nodeV r.r1 (fst2 vs) x,nodeV r.r2 (snd2 vs) x)
structure PrS where
 x:Nat
 y:Nat
theorem node2_spec(F:Frz)(r:RingP)(hR:∀G,Frz.le F G→RingPOk G r){x:Node}{pa:Option Addr}{pn pc:Nat}(hp:Arr tNPack F pa pn pc x.packs)(hpn:pn≤1000000){va:Option Addr}{vn vc:Nat}{vs:List (Nat×Nat)}(hv:Arr tPair F va vn vc vs)(hvM:∀y∈vs,y.1≤r.r1.M∧y.2≤r.r2.M)
  (hkid:∀p∈x.packs,∀k∈p.kids,k<vs.length) :
  Abs.Spec CC 59 [.agg ⟨nodeCells x pa pn pc⟩,.agg ⟨r.ring⟩,.func (.func r.gr) ⟨[]⟩ ⟨r.cr⟩,.slice va vn vc] F [] fun _ v o=>o=[]∧v=.agg ⟨[ci (nodeP r vs x).1,ci (nodeP r vs x).2]⟩∧(nodeP r vs x).1≤r.r1.M∧(nodeP r vs x).2≤r.r2.M:=by
 have hpl:=hp.len
 have hvl:=hv.len
 unfold nodeCells RingP.ring
 refine Abs.Spec.fn (n:=51) Tryz.func59 rfl rfl fun own=>?_
 refine AW.seq (AW.reg ?_)
 refine WT.boxT Z Z Z Z Z Z (fun i4 hi4=>?_)
 refine WT.boxT Z Z Z Z Z Z (fun i5 hi5=>?_)
 skip
 refine WT.allocT hT Z Z Z Z Z Z (fun i8 hi8=>?_)
 refine zB7 ?_
 refine WT.allocT hT Z Z Z Z Z Z (fun i9 hi9=>?_)
 refine zB7 ?_
 refine AW.range (S:=PrS) (fun _=>[]) (fun s=>[(i9,.cells false [ci s.x,ci s.y])]::[(i8,.cells false [ci 0,ci 0])]::[(i5,.cells false r.ring)]::[(i4,.cells false (nodeCells x pa pn pc))]::own)
  (fun j s G=>s.x=(x.packs.take j).foldl (fun s p=>r.r1.P s (packV r.r1 (fst2 vs) p)) 0∧s.y=(x.packs.take j).foldl (fun s p=>r.r2.P s (packV r.r2 (snd2 vs) p)) 0∧s.x≤r.r1.M∧s.y≤r.r2.M) pn ⟨0,0⟩
  Z Z Z Z Z Z Z Z Z zo rfl rfl (fun _=>rfl) (fun _=>rfl) sM oR ⟨rfl,rfl,Nat.zero_le _,Nat.zero_le _⟩ ?_ ?_
 ·intro j s F1 hF1 hj hP
  obtain⟨hs1,hs2,hm1,hm2⟩:=hP
  have hp1:=hp.mono hF1
  have hv1:=hv.mono hF1
  unfold nodeCells RingP.ring
  refine zB7 ?_
  refine WT.idxL hT hp1 Z Z Z Z Z Z Z Z Z zo (fun p hpj b6 off6 ro6 cs6 lx6 hb6 hp6 hrel6=>?_)
  obtain⟨ka,kn,kc,rfl,hka,hkb⟩:=hrel6
  have hkal:=hka.len
  have hpm:=gM hpj
  refine zB7 ?_
  refine WT.allocT hT Z Z Z Z Z Z (fun i11 hi11=>?_)
  refine zB7 ?_
  obtain⟨fnr,hfr,hfrb⟩:=(hR F1 hF1).hr
  obtain⟨hr1,hr2,hrs⟩:=(hR F1 hF1).R p.rule
  refine WT.callC hfr hfrb Z Z Z Z Z Z Z hrs (fun v hv=>?_)
  subst hv
  skip
  refine WT.allocT hT Z Z Z Z Z Z (fun i12 hi12=>?_)
  refine zB7 ?_
  refine AW.range (S:=PrS) (fun _=>[]) (fun t=>[(i12,.cells false [ci t.x,ci t.y])]::[(i11,.cells false [.int .i64 p.rule,.slice ka kn kc])]::[(i9,.cells false [ci s.x,ci s.y])]::[(i8,.cells false [ci 0,ci 0])]::[(i5,.cells false r.ring)]::[(i4,.cells false (nodeCells x pa pn pc))]::own)
   (fun q t G=>t.x=(p.kids.take q).foldl (fun x k=>r.r1.T x (valAt (fst2 vs) k)) (r.r1.R p.rule)∧t.y=(p.kids.take q).foldl (fun x k=>r.r2.T x (valAt (snd2 vs) k)) (r.r2.R p.rule)∧t.x≤r.r1.M∧t.y≤r.r2.M) kn ⟨r.r1.R p.rule,r.r2.R p.rule⟩
   Z Z Z Z Z Z Z Z Z zo rfl rfl (fun _=>rfl) (fun _=>rfl) sM oR ⟨rfl,rfl,hr1,hr2⟩ ?_ ?_
  ·intro q t F2 hF2 hq hP2
   obtain⟨ht1,ht2,hn1,hn2⟩:=hP2
   have hka2:=hka.mono hF2
   have hv2:=hv1.mono hF2
   have hR2:=hR F2 (hF1.trans hF2)
   unfold nodeCells RingP.ring
   refine zB7 ?_
   refine WT.idxL hT hka2 Z Z Z Z Z Z Z Z Z zo (fun k hkq b8 off8 ro8 cs8 lx8 hb8 hp8 hrel8=>?_)
   obtain rfl:lx8=_:=hrel8
   have hkl:=hkid p hpm k (gM hkq)
   refine zB7 ?_
   refine WT.idxL hT hv2 Z Z Z Z Z Z Z Z Z zo (fun z hzk b9 off9 ro9 cs9 lx9 hb9 hp9 hrel9=>?_)
   obtain rfl:lx9=_:=hrel9
   obtain⟨hzM1,hzM2⟩:=hvM z (gM hzk)
   have hva:valAt (fst2 vs) k=z.1:=by unfold valAt fst2;rw[List.getElem?_map,hzk];rfl
   have hvb:valAt (snd2 vs) k=z.2:=by unfold valAt snd2;rw[List.getElem?_map,hzk];rfl
   refine zB7 ?_
   obtain⟨fnt,hft,hftb⟩:=hR2.ht
   obtain⟨hT1,hT2,hT3⟩:=hR2.T t.x t.y z.1 z.2 hn1 hn2 hzM1 hzM2
   refine WT.callC hft hftb Z Z Z Z Z Z Z hT3 (fun v hv=>?_)
   subst hv
   refine zB7 ?_
   exact⟨⟨r.r1.T t.x z.1,r.r2.T t.y z.2⟩,sM,zow,by rw[List.take_add_one,hkq,List.foldl_append,←ht1];show _=r.r1.T t.x (valAt (fst2 vs) k);rw[hva],by rw[List.take_add_one,hkq,List.foldl_append,←ht2];show _=r.r2.T t.y (valAt (snd2 vs) k);rw[hvb],hT1,hT2⟩
  ·intro t F2 hF2 hP2
   obtain⟨ht1,ht2,hn1,hn2⟩:=hP2
   rw[List.take_of_length_le zo] at ht1 ht2
   have hR2:=hR F2 (hF1.trans hF2)
   unfold nodeCells RingP.ring
   refine zB7 ?_
   obtain⟨fnp,hfp,hfpb⟩:=hR2.hp
   obtain⟨hP1,hP2,hP3⟩:=hR2.P s.x s.y t.x t.y hm1 hm2 hn1 hn2
   refine WT.callC hfp hfpb Z Z Z Z Z Z Z hP3 (fun v hv=>?_)
   subst hv
   refine zB7 ?_
   exact⟨⟨r.r1.P s.x t.x,r.r2.P s.y t.y⟩,sM,zow,by rw[List.take_add_one,hpj,List.foldl_append,←hs1];show _=r.r1.P s.x (packV r.r1 (fst2 vs) p);unfold packV;rw[←ht1],by rw[List.take_add_one,hpj,List.foldl_append,←hs2];show _=r.r2.P s.y (packV r.r2 (snd2 vs) p);unfold packV;rw[←ht2],hP1,hP2⟩
 ·intro s F1 hF1 hP
  obtain⟨hs1,hs2,hm1,hm2⟩:=hP
  rw[List.take_of_length_le zo] at hs1 hs2
  unfold nodeCells RingP.ring
  refine zB7 ?_
  exact AW.ret ⟨_,[],⟨_,_,⟨_,rfl,fun G h0 s0=>loadA_cells (s0.has (p:=1) rfl me) (readT_ok hT rfl)⟩,rfl,rfl⟩,zsb,rfl,by rw[hs1,hs2];rfl,by show List.foldl _ _ _≤_;rw[←hs1];exact hm1,by show List.foldl _ _ _≤_;rw[←hs2];exact hm2⟩
end Go.Proofs.D
set_option linter.unusedVariables false
set_option maxRecDepth 20000
set_option maxHeartbeats 0
open Go Go.Abs Go.Proofs Go.Proofs.D
namespace Go.Abs
section
variable {C:Ctx}{T:RT}{n:Nat}{k:Kno}{F:Frz}{own:Own}{ops rest:List Oper}{o:Oper}{Q:Kno→Frz→Own→List Rec→Prop}{α:Type}{R:Ty α}
theorem WT.makeS(hT:rowsOk C T=true){t e by_ sz:Nat}{lo co:Operand}{l:Nat}{r:Row}{z:Value}{zs:List Value}(hop:o.op=.makeSlice t lo co)(hw:wantK ops k o=some true){dst:Nat}(hdst:o.dst=some dst)(hn:Nat.blt dst n=true)
  (hl:evK C k lo=some (.int .i64 (l:Nat))) (hc:evK C k co=some (.int .i64 (l:Nat))) (hr:rowOf T t=some r) (hd:r.d=.slice e) (hsz:sizeT T e=some sz) (hz:zeroT T e=some z) (hzn:z.cells.toList=zs) (hby:bytesT T e=some by_)
  (hroom:l≤281474976710656∧by_*l≤281474976710656∧0<sz)
  (h:∀i,F i=none→WT C n ops rest ((dst,.slice (some ⟨i,0,none⟩) l (bif l==0 then 0 else sz))::k) F ([(i,.cells false (rowsL zs l))]::own) (fun k2 F2 own2 rs=>Q k2 F2 own2 (⟨F,own,F,[(i,.cells false (rowsL zs l))]::own,[]⟩::rs))) :
  WT C n ops (o::rest) k F own Q:=by
 subst hzn
 refine WT.new (mk:=fun i=>.slice (some ⟨i,0,none⟩) l (bif l==0 then 0 else sz)) (l:=[]) hw (by rw[hop];rfl) (fun h0 _=>?_) (fun i hi=>by rw[hdst,putK_some hn];exact h i hi)
 rw[hop]
 simp only[opA,hl,hc,makeSliceA,und_slice hT hr hd,sizeT_ok hT hsz,zeroT_ok hT hz,bytesT_ok hT hby]
 have h2:((by_:Nat):Int)*(l:Int)≤281474976710656:=by
  have:=hroom.2.1
  have h2:((by_*l:Nat):Int)≤281474976710656:=by omega
  rwa [Int.natCast_mul] at h2
 have h3:(0:Int)≤l∧True∧(l:Int)≤281474976710656∧(by_:Int)*(l:Int)≤281474976710656∧0<sz:=⟨Int.natCast_nonneg l,trivial,by omega,h2,hroom.2.2⟩
 rw[if_pos h3]
 simp
end
end Go.Abs
set_option linter.unusedVariables false
set_option maxRecDepth 20000
set_option maxHeartbeats 0
open Go Go.Abs Go.Proofs Go.Proofs.D
namespace Go.Proofs.D
theorem pairs_eq{a b:List (Nat×Nat)}(h1:fst2 a=fst2 b)(h2:snd2 a=snd2 b):a=b:=by
 refine List.ext_getElem? fun i=>?_
 have e1:=congrArg (fun l=>l[i]?) h1
 have e2:=congrArg (fun l=>l[i]?) h2
 unfold fst2 at e1
 unfold snd2 at e2
 simp only[List.getElem?_map] at e1 e2
 cases ha:a[i]? with
 | none=>cases hb:b[i]? with
  | none=>rfl
  | some y=>rw[ha,hb] at e1;cases e1
 | some x=>cases hb:b[i]? with
  | none=>rw[ha,hb] at e1;cases e1
  | some y=>
   rw[ha,hb] at e1 e2
   have e1:x.1=y.1:=Option.some.inj e1
   have e2:x.2=y.2:=Option.some.inj e2
   rw[show x=y from Prod.ext e1 e2]
theorem fst2_set(vs:List (Nat×Nat))(i:Nat)(p:Nat×Nat):fst2 (vs.set i p)=(fst2 vs).set i p.1:=by unfold fst2;rw[List.map_set]
theorem snd2_set(vs:List (Nat×Nat))(i:Nat)(p:Nat×Nat):snd2 (vs.set i p)=(snd2 vs).set i p.2:=by unfold snd2;rw[List.map_set]
structure RoundP(r:RingP)(Ns:List Node)(vs:List (Nat×Nat))(i:Nat)(cur:List (Nat×Nat))(ch:Bool):Prop where
 is1:fst2 cur=roundTo r.r1 Ns (fst2 vs) i
 is2:snd2 cur=roundTo r.r2 Ns (snd2 vs) i
 small:∀x∈cur,x.1≤r.r1.M∧x.2≤r.r2.M
 same:ch=false→cur=vs
 diff:ch=true→∃j,j<i∧cur[j]?≠vs[j]?
theorem RoundP.stay{r:RingP}{Ns:List Node}{vs cur:List (Nat×Nat)}{i:Nat}{ch:Bool}(h:RoundP r Ns vs i cur ch){x:Node}(hx:Ns[i]?=some x)(ht:x.key.sym.term=true):RoundP r Ns vs (i+1) cur ch where
 is1:=by show _=stepV r.r1 Ns _ i;unfold stepV;rw[hx];simp only;rw[if_pos ht];exact h.is1
 is2:=by show _=stepV r.r2 Ns _ i;unfold stepV;rw[hx];simp only;rw[if_pos ht];exact h.is2
 small:=h.small
 same:=h.same
 diff:=fun e=>by obtain⟨j,h1,h2⟩:=h.diff e;exact⟨j,by omega,h2⟩
theorem RoundP.put{r:RingP}{Ns:List Node}{vs cur:List (Nat×Nat)}{i:Nat}{ch:Bool}(h:RoundP r Ns vs i cur ch){x:Node}(hx:Ns[i]?=some x)(ht:x.key.sym.term=false){z:Nat×Nat}(hz:cur[i]?=some z)(hM:(nodeP r cur x).1≤r.r1.M∧(nodeP r cur x).2≤r.r2.M):RoundP r Ns vs (i+1) (cur.set i (nodeP r cur x)) (ch||!decide (nodeP r cur x=z)) where
 is1:=by rw[fst2_set];show _=stepV r.r1 Ns _ i;unfold stepV;rw[hx];simp only;rw[if_neg (by simp[ht]),←h.is1];rfl
 is2:=by rw[snd2_set];show _=stepV r.r2 Ns _ i;unfold stepV;rw[hx];simp only;rw[if_neg (by simp[ht]),←h.is2];rfl
 small:=fun y hy=>by
  rcases List.mem_or_eq_of_mem_set hy with h1 | rfl
  ·exact h.small y h1
  ·exact hM
 same:=fun e=>by
  simp only[Bool.or_eq_false_iff,Bool.not_eq_false',decide_eq_true_eq] at e
  rw[←h.same e.1,e.2]
  refine List.ext_getElem? fun j=>?_
  by_cases hj:j=i
  ·subst hj;rw[List.getElem?_set_self (gS hz).1,hz]
  ·rw[List.getElem?_set_ne (Ne.symm hj)]
 diff:=fun e=>by
  have hlt:=(gS hz).1
  cases ch with
  | true=>
   obtain⟨j,h1,h2⟩:=h.diff rfl
   exact⟨j,by omega,by rw[List.getElem?_set_ne zo];exact h2⟩
  | false=>
   simp only[Bool.false_or,Bool.not_eq_true',decide_eq_false_iff_not] at e
   refine⟨i,by omega,?_⟩
   rw[List.getElem?_set_self hlt,←h.same rfl,hz]
   intro h3;exact e (Option.some.inj h3)
def ValueResP(r:RingP)(Ns:List Node)(root:Nat)(v:Value):Prop:=
 (∃k y z,k<200∧valsAt r.r1 Ns (k+1)=valsAt r.r1 Ns k∧valsAt r.r2 Ns (k+1)=valsAt r.r2 Ns k∧(valsAt r.r1 Ns k)[root]?=some y∧(valsAt r.r2 Ns k)[root]?=some z∧v=.tuple ⟨[.agg ⟨[ci y,ci z]⟩,.int .i64 0]⟩)∨
 ((∀k,k<200→¬(valsAt r.r1 Ns (k+1)=valsAt r.r1 Ns k∧valsAt r.r2 Ns (k+1)=valsAt r.r2 Ns k))∧v=.tuple ⟨[.agg ⟨[ci 0,ci 0]⟩,.int .i64 9]⟩)
def startP(Ns:List Node):List (Nat×Nat):=Ns.map fun x=>(leafN x,leafN x)
theorem rows2:∀(n:Nat),rowsL [Value.int .i64 0,.int .i64 0] n=cells2 (List.replicate n (0,0))
 | 0=>rfl
 | n+1=>by
  rw[List.replicate_succ]
  show _=ci 0::ci 0::cells2 (List.replicate n (0,0))
  rw[←rows2 n]
  rfl
theorem cap_eq2(l:Nat):(bif l==0 then 0 else 2)=if l=0 then 0 else 2:=by cases l<;>rfl
structure VaP where
 k:Nat
 vs:List (Nat×Nat)
 ch:Bool
theorem value2_spec(F:Frz)(hL:Laid F)(g:Gram)(hg:Valid g){ga:Option Addr}{gm gc:Nat}(hr:Arr tRule F ga gm gc g.rules){w:List Nat}(hw12:w.length≤12)(hw2:∀t∈w,t<g.terms)
  {fa:Option Addr} {fn fc:Nat} {fr:Int} (hf:FV g w F fa fn fc fr) (r:RingP) (hR:∀G,Frz.le F G→RingPOk G r) :
  Abs.Spec CC 31 [.agg ⟨gramCells g ga gm gc⟩,.agg ⟨[.slice fa fn fc,.int .i64 fr]⟩,.agg ⟨r.ring⟩,.func (.func r.gr) ⟨[]⟩ ⟨r.cr⟩] F [] fun _ v o=>o=[]∧∃E,EndsOf g w E∧
   ((stepB w E ⟨false,g.start⟩ 0 w.length=false∧v=.tuple ⟨[.agg ⟨[ci 0,ci 0]⟩,.int .i64 0]⟩)∨
    (stepB w E ⟨false,g.start⟩ 0 w.length=true∧∃S,Keys g w E (rootKey g w) S∧ValueResP r (S.map (mkNode g w E S)) (place S (rootKey g w)) v)):=by
 obtain⟨E,hE,hV⟩:=hf.cases
 have hcs:=fcount_spec F hL g hg hr hw12 hw2 hf
 unfold gramCells at hcs ⊢
 unfold RingP.ring
 refine Abs.Spec.fn (n:=106) Tryz.func31 rfl rfl fun own=>?_
 refine AW.seq (AW.reg ?_)
 refine WT.boxT Z Z Z Z Z Z (fun i4 hi4=>?_)
 refine WT.boxT Z Z Z Z Z Z (fun i5 hi5=>?_)
 refine WT.boxT Z Z Z Z Z Z (fun i6 hi6=>?_)
 skip
 refine WT.allocT hT Z Z Z Z Z Z (fun i8 hi8=>?_)
 refine zB7 ?_
 refine WT.callV Tryz.func16 Z Z Z Z Z Z hcs (fun v hv=>?_)
 obtain⟨c,rfl,hc⟩:=hv
 refine zB7 ?_
 refine AW.cond Z (fun h=>(by cases h)) (fun _=>?_)
 rcases hV with ⟨hst,hv⟩ | ⟨hst,S,sa,sn,sc,hv,hK,hN⟩
 ·cases hv
  refine zB7 ?_
  refine AW.cond Z (fun _=>?_) (fun h=>(by cases h))
  refine zB7 ?_
  exact AW.ret ⟨_,[],⟨_,_,⟨_,rfl,fun G h0 s0=>loadA_cells (s0.has (p:=0) rfl me) (readT_ok hT rfl)⟩,⟨_,_,rfl,rfl,rfl⟩,rfl⟩,zsb,rfl,E,hE,.inl ⟨hst,rfl⟩⟩
 ·cases hv
  have hok:=nodes_ok hg hw12 hK (root_good hg w)
  have hNl:=hN.len
  have hfew:=hok.few
  generalize hNs:S.map (mkNode g w E S)=Ns at *
  refine zB7 ?_
  refine AW.cond Z (fun h=>(by simp at h;omega)) (fun _=>?_)
  refine zB7 ?_
  refine WT.makeS (l:=fn) (zs:=[.int .i64 0,.int .i64 0]) (sz:=2) hT Z Z Z Z Z Z Z Z Z Z Z Z zom (fun iv hiv=>?_)
  rw[cap_eq2,rows2]
  refine zB7 ?_
  refine AW.range (S:=VaP) (fun _=>[]) (fun s=>[(iv,.cells false (cells2 s.vs))]::[(i8,.cells false [ci 0,ci 0])]::[(i6,.cells false r.ring)]::[(i5,.cells false [.slice fa fn fc,.int .i64 (place S (rootKey g w):Nat)])]::[(i4,.cells false [.int .i64 g.terms,.int .i64 g.nons,.int .i64 g.start,.slice ga gm gc])]::own)
   (fun j s G=>s.vs.length=fn∧∀i x,i<j→Ns[i]?=some x→s.vs[i]?=some (leafN x,leafN x)) fn ⟨0,List.replicate fn (0,0),false⟩
   Z Z Z Z Z Z Z Z Z zo rfl rfl (fun _=>rfl) (fun _=>rfl) sM oR ⟨by simp,fun i x h=>by omega⟩ ?_ ?_
  ·intro j s F1 hF1 hj hP
   obtain⟨sk,vs,sch⟩:=s
   have hP:vs.length=fn∧∀i x,i<j→Ns[i]?=some x→vs[i]?=some (leafN x,leafN x):=hP
   obtain⟨hvl,hvs⟩:=hP
   have hcl:=cells2_len vs
   have hN1:=hN.mono hF1
   unfold RingP.ring
   refine zB7 ?_
   refine WT.idxL hT hN1 Z Z Z Z Z Z Z Z Z zo (fun x hxj b5 off5 ro5 cs5 lx5 hb5 hp5 hrel5=>?_)
   obtain⟨pa,pn,pc,rfl,hpa⟩:=hrel5
   refine zB7 ?_
   refine WT.allocT hT Z Z Z Z Z Z (fun i15 hi15=>?_)
   refine zB7 ?_
   refine WT.idxA (j:=j) (s:=2) hT Z Z Z Z Z Z Z Z Z zo ?_
   refine WT.storeA2 hT 1 0 Z Z Z Z Z Z Z Z Z Z (by show 0+j*2+2≤(cells2 vs).length;omega) (cells2_set (p:=(0,0)) (by show j<vs.length;omega)) Z Z ?_
   refine zB7 ?_
   refine AW.cond Z (fun ht=>?_) (fun ht=>?_)
   ·refine zB7 ?_
    refine WT.idxA (j:=j) (s:=2) hT Z Z Z Z Z Z Z Z Z zo ?_
    refine WT.storeA2 hT 1 0 Z Z Z Z Z Z Z Z Z Z (by rw[cells2_len];simp;omega) (cells2_set (p:=(1,1)) (by simp;omega)) Z Z ?_
    refine zB7 ?_
    refine⟨⟨0,(vs.set j (0,0)).set j (1,1),false⟩,sM,zow,by simp[hvl],fun i y h hy=>?_⟩
    by_cases e:i=j
    ·subst e
     obtain rfl:x=y:=by rw[hxj] at hy;exact Option.some.inj hy
     show ((vs.set i (0,0)).set i (1,1))[i]?=_
     rw[List.getElem?_set_self (by simp;omega)]
     unfold leafN
     rw[if_pos ht]
    ·show ((vs.set j (0,0)).set j (1,1))[i]?=_
     rw[List.getElem?_set_ne (Ne.symm e),List.getElem?_set_ne (Ne.symm e)]
     exact hvs i y zo hy
   ·refine zB7 ?_
    refine⟨⟨0,vs.set j (0,0),false⟩,sM,zow,by simp[hvl],fun i y h hy=>?_⟩
    by_cases e:i=j
    ·subst e
     obtain rfl:x=y:=by rw[hxj] at hy;exact Option.some.inj hy
     show (vs.set i (0,0))[i]?=_
     rw[List.getElem?_set_self zo]
     unfold leafN
     rw[if_neg (by simpa using ht)]
    ·show (vs.set j (0,0))[i]?=_
     rw[List.getElem?_set_ne (Ne.symm e)]
     exact hvs i y zo hy
  ·intro s F1 hF1 hP
   obtain⟨sk,vs,sch⟩:=s
   have hP:vs.length=fn∧∀i x,i<fn→Ns[i]?=some x→vs[i]?=some (leafN x,leafN x):=hP
   obtain⟨hvl,hvs⟩:=hP
   have hN1:=hN.mono hF1
   obtain rfl:vs=startP Ns:=by
    refine List.ext_getElem? fun i=>?_
    rcases Nat.lt_or_ge i fn with h | h
    ·obtain⟨x,hx⟩:∃x,Ns[i]?=some x:=⟨_,gE zo⟩
     rw[hvs i x h hx]
     unfold startP
     rw[List.getElem?_map,hx];rfl
    ·rw[List.getElem?_eq_none_iff.2 zo,List.getElem?_eq_none_iff.2 (by unfold startP;simp;omega)]
   have hone:=(hR F (Frz.le.refl F)).one
   refine zB7 ?_
   refine AW.block ?_
   refine AW.loopR (S:=VaP) (fun s=>[(61,ci s.k)]) (fun s=>[(iv,.cells false (cells2 s.vs))]::[(i8,.cells false [ci 0,ci 0])]::[(i6,.cells false r.ring)]::[(i5,.cells false [.slice fa fn fc,.int .i64 (place S (rootKey g w):Nat)])]::[(i4,.cells false [.int .i64 g.terms,.int .i64 g.nons,.int .i64 g.start,.slice ga gm gc])]::own)
    (fun s G=>fst2 s.vs=valsAt r.r1 Ns s.k∧snd2 s.vs=valsAt r.r2 Ns s.k∧(∀x∈s.vs,x.1≤r.r1.M∧x.2≤r.r2.M)∧s.k≤200∧∀k,k<s.k→¬(valsAt r.r1 Ns (k+1)=valsAt r.r1 Ns k∧valsAt r.r2 Ns (k+1)=valsAt r.r2 Ns k)) (fun s=>200-s.k) ⟨0,startP Ns,false⟩ sM oR ⟨?_,?_,?_,by show 0≤200;omega,fun k h=>absurd h (Nat.not_lt_zero k)⟩ ?_
   ·show fst2 (startP Ns)=startV Ns;unfold fst2 startP startV;rw[List.map_map];rfl
   ·show snd2 (startP Ns)=startV Ns;unfold snd2 startP startV;rw[List.map_map];rfl
   ·intro x hx
    obtain⟨y,_,rfl⟩:=List.mem_map.1 hx
    show leafN y≤_∧leafN y≤_
    unfold leafN;split<;>omega
   intro s F2 hF2 hP2
   obtain⟨sk,vs,sch⟩:=s
   have hP2:fst2 vs=valsAt r.r1 Ns sk∧snd2 vs=valsAt r.r2 Ns sk∧(∀x∈vs,x.1≤r.r1.M∧x.2≤r.r2.M)∧sk≤200∧∀k,k<sk→¬(valsAt r.r1 Ns (k+1)=valsAt r.r1 Ns k∧valsAt r.r2 Ns (k+1)=valsAt r.r2 Ns k):=hP2
   obtain⟨hsv1,hsv2,hsm,hsk,hsd⟩:=hP2
   have hsl:vs.length=fn:=by have e:=congrArg List.length hsv1;rw[valsAt_len] at e;unfold fst2 at e;rw[List.length_map] at e;omega
   have hN2:=hN1.mono hF2
   have hF02:=hF1.trans hF2
   unfold RingP.ring
   refine zB7 ?_
   refine AW.cond Z (fun hk=>?_) (fun hk=>?_)
   ·have hk:sk<200:=by simp at hk;omega
    refine zB7 ?_
    refine AW.block ?_
    refine zB7 ?_
    refine AW.range (S:=VaP) (fun t=>[(16,.bool t.ch)]) (fun t=>[(iv,.cells false (cells2 t.vs))]::[(i8,.cells false [ci 0,ci 0])]::[(i6,.cells false r.ring)]::[(i5,.cells false [.slice fa fn fc,.int .i64 (place S (rootKey g w):Nat)])]::[(i4,.cells false [.int .i64 g.terms,.int .i64 g.nons,.int .i64 g.start,.slice ga gm gc])]::own)
     (fun j t G=>RoundP r Ns vs j t.vs t.ch) fn ⟨0,vs,false⟩
     Z Z Z Z Z Z Z Z Z zo rfl rfl (fun _=>rfl) (fun _=>rfl) sM oR ⟨rfl,rfl,hsm,fun _=>rfl,fun h=>(by cases h)⟩ ?_ ?_
    ·intro j t F3 hF3 hj hRS
     obtain⟨tk,us,ch⟩:=t
     have hRS:RoundP r Ns vs j us ch:=hRS
     have hul:us.length=fn:=by have e:=congrArg List.length hRS.is1;rw[roundTo_len] at e;unfold fst2 at e;rw[List.length_map,List.length_map] at e;omega
     have hcl:=cells2_len us
     have hN3:=hN2.mono hF3
     have hF03:=hF02.trans hF3
     unfold RingP.ring
     refine zB7 ?_
     refine WT.idxL hT hN3 Z Z Z Z Z Z Z Z Z zo (fun x hxj b5 off5 ro5 cs5 lx5 hb5 hp5 hrel5=>?_)
     obtain⟨pa,pn,pc,rfl,hpa⟩:=hrel5
     have hpal:=hpa.len
     have hpk:=hok.packs x (gM hxj)
     obtain⟨z,hz⟩:∃z,us[j]?=some z:=⟨_,gE zo⟩
     refine zB7 ?_
     refine WT.allocT hT Z Z Z Z Z Z (fun i18 hi18=>?_)
     refine zB7 ?_
     refine AW.cond Z (fun ht=>?_) (fun ht=>?_)
     ·refine AW.exit ?_
      skip
      exact⟨⟨tk,us,ch⟩,sM,zow,hRS.stay hxj ht⟩
     ·have ht:x.key.sym.term=false:=by simpa using ht
      refine zB7 ?_
      have nspec:∀G,Frz.le F3 G→(∀i b,(i,b)∈[(iv,Blk.cells false (cells2 us))]→G i=some b)→Abs.Spec CC 59 [.agg ⟨nodeCells x pa pn pc⟩,.agg ⟨r.ring⟩,.func (.func r.gr) ⟨[]⟩ ⟨r.cr⟩,.slice (some ⟨iv,0,none⟩) fn (if fn=0 then 0 else 2)] G [] fun _ v o=>o=[]∧v=.agg ⟨[ci (nodeP r us x).1,ci (nodeP r us x).2]⟩∧(nodeP r us x).1≤r.r1.M∧(nodeP r us x).2≤r.r2.M:=fun G hG hBG=>
       node2_spec G r (fun H hH=>hR H ((hF03.trans hG).trans hH)) (hpa.mono hG) zo (arr_cells2 (hBG iv _ me) hul rfl) hRS.small (fun p hp k hk=>by rw[hul,hNl];exact hok.kid k j ⟨x,p,hxj,hp,hk⟩)
      unfold nodeCells RingP.ring at nspec
      refine WT.callLend 1 Tryz.func59 Z Z Z Z Z Z Z nspec (fun v hv=>?_)
      obtain⟨rfl,hvM⟩:=hv
      skip
      refine WT.allocT hT Z Z Z Z Z Z (fun i19 hi19=>?_)
      cases ch with
      | true=>
       refine zB7 ?_
       refine WT.idxA (j:=j) (s:=2) hT Z Z Z Z Z Z Z Z Z zo ?_
       refine WT.storeA2 hT 2 0 Z Z Z Z Z Z Z Z Z Z (by show 0+j*2+2≤(cells2 us).length;omega) (cells2_set (p:=nodeP r us x) (by show j<us.length;omega)) Z Z ?_
       refine zB7 ?_
       exact⟨⟨tk,us.set j (nodeP r us x),true⟩,sM,zow,hRS.put hxj ht hz hvM⟩
      | false=>
       refine zB7 ?_
       refine WT.idxA (j:=j) (s:=2) hT Z Z Z Z Z Z Z Z Z zo ?_
       refine WT.loadOA hT 2 Z Z Z Z Z Z me Z Z Z (cells2_part hz) ?_
       skip
       obtain⟨fns,hfs,hfsb⟩:=(hR F3 hF03).hs
       refine WT.callC hfs hfsb Z Z Z Z Z Z Z ((hR F3 hF03).S (nodeP r us x).1 (nodeP r us x).2 z.1 z.2) (fun v hv=>?_)
       subst hv
       refine zB7 ?_
       refine WT.idxA (j:=j) (s:=2) hT Z Z Z Z Z Z Z Z Z zo ?_
       refine WT.storeA2 hT 2 0 Z Z Z Z Z Z Z Z Z Z (by show 0+j*2+2≤(cells2 us).length;omega) (cells2_set (p:=nodeP r us x) (by show j<us.length;omega)) Z Z ?_
       refine zB7 ?_
       exact⟨⟨tk,us.set j (nodeP r us x),!decide (nodeP r us x=z)⟩,sM,zow,by have:=hRS.put hxj ht hz hvM;rwa [Bool.false_or] at this⟩
    ·intro t F3 hF3 hRS
     obtain⟨tk,us,ch⟩:=t
     have hRS:RoundP r Ns vs fn us ch:=hRS
     have hul:us.length=fn:=by have e:=congrArg List.length hRS.is1;rw[roundTo_len] at e;unfold fst2 at e;rw[List.length_map,List.length_map] at e;omega
     have hn1:fst2 us=valsAt r.r1 Ns (sk+1):=by rw[hRS.is1,hsv1,hNl];rfl
     have hn2:snd2 us=valsAt r.r2 Ns (sk+1):=by rw[hRS.is2,hsv2,hNl];rfl
     unfold RingP.ring
     cases ch with
     | false=>
      have hsame:=hRS.same rfl
      refine zB7 ?_
      refine AW.cond Z (fun _=>?_) (fun h=>(by cases h))
      have hpl:place S (rootKey g w)<fn:=by
       have:=(gS (place_at hK.first)).1
       have e:Ns.length=S.length:=by rw[←hNs,List.length_map]
       omega
      obtain⟨y,hy⟩:∃y,us[place S (rootKey g w)]?=some y:=⟨_,gE zo⟩
      refine zB7 ?_
      refine WT.idxA (j:=place S (rootKey g w)) (s:=2) hT Z Z Z Z Z Z Z Z Z zo ?_
      refine WT.loadOA hT 0 Z Z Z Z Z Z me Z Z Z (cells2_part hy) ?_
      refine zB7 ?_
      refine AW.ret ⟨_,[],⟨_,_,⟨_,rfl,fun G h0 s0=>loadA_cells (s0.has (p:=1) Z me) (readT_ok hT rfl)⟩,⟨_,_,rfl,rfl,rfl⟩,rfl⟩,zsb,rfl,E,hE,.inr ⟨hst,S,hK,?_⟩⟩
      rw[hNs]
      exact .inl ⟨sk,y.1,y.2,hk,by rw[←hn1,←hsv1,hsame],by rw[←hn2,←hsv2,hsame],by rw[←hsv1,←hsame];unfold fst2;rw[List.getElem?_map,hy];rfl,by rw[←hsv2,←hsame];unfold snd2;rw[List.getElem?_map,hy];rfl,rfl⟩
     | true=>
      obtain⟨q,hq,hqd⟩:=hRS.diff rfl
      refine zB7 ?_
      refine AW.cond Z (fun h=>(by cases h)) (fun _=>?_)
      refine zB7 ?_
      refine⟨⟨sk+1,us,false⟩,(by show 200-(sk+1)<200-sk;omega),sM,zow,hn1,hn2,hRS.small,hk,fun k h=>?_⟩
      rcases Nat.lt_or_ge k sk with h1 | h1
      ·exact hsd k h1
      ·obtain rfl:k=sk:=by have:k<sk+1:=h;omega
       rintro⟨e1,e2⟩
       rw[←hn1,←hsv1] at e1
       rw[←hn2,←hsv2] at e2
       rw[pairs_eq e1 e2] at hqd;exact hqd rfl
   ·have hk:sk=200:=by simp at hk;omega
    skip
    refine AW.exit ?_
    refine zB7 ?_
    refine AW.ret ⟨_,[],⟨_,_,⟨_,rfl,fun G h0 s0=>loadA_cells (s0.has (p:=1) Z me) (readT_ok hT rfl)⟩,⟨_,_,rfl,rfl,rfl⟩,rfl⟩,zsb,rfl,E,hE,.inr ⟨hst,S,hK,?_⟩⟩
    rw[hNs]
    exact .inr ⟨fun k h=>hsd k zo,rfl⟩
theorem splits_in{w:List Nat}{E:List (List Nat)}(hle:∀s i m,stepB w E s i m=true→i≤w.length→i≤m){to:Nat}(hto:to≤w.length):∀{l:List Sym} {i:Nat} {ks:List Key},ks∈splits w E to l i→i≤w.length→(i≤to∧∀q∈ks,i≤q.frm∧q.frm≤q.to∧q.to≤to)
 | [],i,ks,h,hi=>by
  unfold splits at h
  split at h
  ·rename_i e
   obtain rfl:=List.mem_singleton.1 h
   exact⟨by omega,fun q hq=>by cases hq⟩
  ·cases h
 | s::l,i,ks,h,hi=>by
  unfold splits at h
  obtain⟨m,hm,h⟩:=List.mem_flatMap.1 h
  have hm:=List.mem_range.1 hm
  split at h
  ·rename_i hst
   obtain⟨ks',h2,rfl⟩:=List.mem_map.1 h
   have h3:=hle s i m hst hi
   obtain⟨h4,h5⟩:=splits_in hle hto h2 zo
   refine⟨by omega,fun q hq=>?_⟩
   rcases List.mem_cons.1 hq with rfl | hq
   ·exact⟨Nat.le_refl _,h3,h4⟩
   ·have:=h5 q hq;omega
  ·cases h
theorem own_nested{g:Gram}(hg:Valid g){w:List Nat}{E:List (List Nat)}(hE:EndsOf g w E){S:List Key}(hK:Keys g w E (rootKey g w) S)(hst:stepB w E ⟨false,g.start⟩ 0 w.length=true)(hn4:g.nons≤4)(hw:w.length≤5):Nested (S.map (mkNode g w E S)):=by
 have hlf:=own_leafy hg hE hK hst zo
 have hat:∀(u:Nat) (x:Node),(S.map (mkNode g w E S))[u]?=some x→∃k,S[u]?=some k∧x=mkNode g w E S k:=fun u x hx=>by
  rw[List.getElem?_map] at hx
  cases hk:S[u]? with
  | none=>rw[hk] at hx;cases hx
  | some k=>rw[hk] at hx;exact⟨k,rfl,(Option.some.inj hx).symm⟩
 have hle:∀s i m,stepB w E s i m=true→i≤w.length→i≤m:=fun s i m h hi=>der_le ((step_der hE hi).1 h)
 refine⟨hlf.kid,hlf.leaf,?_,?_,?_⟩
 ·intro u v x y hx hy hk
  obtain⟨k,hk1,rfl⟩:=hat v x hx
  obtain⟨q,hq1,rfl⟩:=hat u y hy
  obtain⟨x',p,h1,h2,h3⟩:=hk
  rw[hx] at h1
  cases h1
  obtain⟨kp,h4,rfl⟩:=List.mem_map.1 h2
  obtain⟨q',h5,h6⟩:=List.mem_map.1 h3
  have hq':=hK.closed k (gM hk1) kp h4 q' h5
  obtain rfl:q'=q:=by
   have:=place_at hq'
   rw[h6,hq1] at this
   exact(Option.some.inj this).symm
  have hgood:=(hK.reach k (gM hk1)).good hg (root_good hg w)
  obtain⟨r,_,_,_,h7⟩:=mem_packsOf.1 h4
  have:=(splits_in hle hgood.2.2 h7 hgood.2.1).2 q' h5
  exact⟨this.1,this.2.2⟩
 ·intro u x hx
  obtain⟨k,hk,rfl⟩:=hat u x hx
  have hkm:=gM hk
  have hgood:=(hK.reach k hkm).good hg (root_good hg w)
  have hd:=(step_der hE hgood.2.1).1 ((hK.reach k hkm).step (root:=rootKey g w) hst)
  refine⟨der_le hd,by show k.to≤5;have:=hgood.2.2;omega,fun ht=>?_⟩
  have ht:k.sym.term=false:=ht
  have:=hgood.1
  unfold SymOk at this
  rw[if_neg (by simp[ht])] at this
  show k.sym.n<4
  omega
 ·intro u v x y hx hy e
  obtain⟨k,hk,rfl⟩:=hat u x hx
  obtain⟨q,hq,rfl⟩:=hat v y hy
  have e:k=q:=e
  subst e
  rw[←place_of hK.nodup hk,←place_of hK.nodup hq]
theorem nless_spec(F:Frz)(x y:Nat):Abs.Spec CC 152 [ci x,ci y] F [] fun _ v o=>o=[]∧v=.bool (decide (x<y)):=by
 refine Abs.Spec.fn (n:=17) Tryz.func152 rfl rfl fun own=>?_
 refine zB4 ?_
 refine WT.callV Tryz.func76 Z Z Z Z Z Z (isNaN_spec _ x) (fun v hv=>?_)
 subst hv
 refine zB4 ?_
 refine AW.ret ⟨_,[],⟨_,_,rfl,rfl,rfl⟩,zsb,rfl,?_⟩
 show Value.bool (decide ((x:Int)<(y:Int)))=_
 congr 1
 simp
structure InS where
 k:Nat
 x:Nat
 y:Nat
def InS.Is(s:InS)(x y:Nat):Prop:=(s.k=1∧s.x=x∧s.y=y)∨(s.k=2∧s.x=min x y∧s.y=max x y)
theorem ins2_spec(F:Frz)(i x y:Nat)(rest:List Value):Abs.Spec CC 146 [.slice (some ⟨i,0,none⟩) 2 1,.int .i64 0,.int .i64 2] F [[(i,.cells false (ci x::ci y::rest))]] fun _ v o=>∃B',o=[B']∧B'=[(i,.cells false (ci (min x y)::ci (max x y)::rest))]:=by
 refine Abs.Spec.fn (n:=49) Tryz.func146 rfl rfl fun own=>?_
 refine zB4 ?_
 refine AW.block ?_
 refine AW.loopR (S:=InS) (fun s=>[(6,ci s.k)]) (fun s=>[(i,.cells false (ci s.x::ci s.y::rest))]::own) (fun s _=>s.Is x y) (fun s=>2-s.k) ⟨1,x,y⟩ sM oR (.inl ⟨rfl,rfl,rfl⟩) ?_
 intro s F1 hF1 hs
 rcases hs with ⟨h1,h2,h3⟩ | ⟨h1,h2,h3⟩
 ·obtain⟨sk,sx,sy⟩:=s
  obtain rfl:sk=1:=h1
  obtain rfl:sx=x:=h2
  obtain rfl:sy=y:=h3
  dsimp only
  refine zB4 ?_
  refine AW.cond Z (fun _=>?_) (fun h=>(by cases h))
  refine zB4 ?_
  refine AW.block ?_
  refine zB4 ?_
  refine AW.block ?_
  refine AW.loopR (S:=InS) (fun t=>[(7,ci t.k)]) (fun t=>[(i,.cells false (ci t.x::ci t.y::rest))]::own) (fun t _=>(t.k=1∧t.x=sx∧t.y=sy)∨(t.k=0∧t.x=sy∧t.y=sx∧sy<sx)) (fun t=>t.k) ⟨1,sx,sy⟩ sM oR (.inl ⟨rfl,rfl,rfl⟩) ?_
  intro t F2 hF2 ht
  obtain⟨tk,tx,ty⟩:=t
  rcases ht with ⟨h1,h2,h3⟩ | ⟨h1,h2,h3,h4⟩
  ·obtain rfl:tk=1:=h1
   obtain rfl:tx=sx:=h2
   obtain rfl:ty=sy:=h3
   dsimp only
   refine zB4 ?_
   refine WT.idxA (j:=1) (s:=1) hT Z Z Z Z Z Z Z Z Z (by decide) ?_
   refine zB4 ?_
   refine WT.idxA (j:=0) (s:=1) hT Z Z Z Z Z Z Z Z Z (by decide) ?_
   refine zB4 ?_
   refine WT.callV Tryz.func152 Z Z Z Z Z Z (nless_spec _ ty tx) (fun v hv=>?_)
   subst hv
   refine zB4 ?_
   refine AW.cond Z (fun hc=>?_) (fun hc=>?_)
   ·have hc:ty<tx:=of_decide_eq_true hc
    refine zB4 ?_
    refine AW.block ?_
    refine AW.draw (ps:=[(4,15)]) Z Z ?_
    refine zB4 ?_
    refine WT.idxA (j:=0) (s:=1) hT Z Z Z Z Z Z Z Z Z (by decide) ?_
    refine zB4 ?_
    refine WT.idxA (j:=1) (s:=1) hT Z Z Z Z Z Z Z Z Z (by decide) ?_
    refine zB4 ?_
    refine WT.idxA (j:=1) (s:=1) hT Z Z Z Z Z Z Z Z Z (by decide) ?_
    refine zB4 ?_
    refine WT.idxA (j:=0) (s:=1) hT Z Z Z Z Z Z Z Z Z (by decide) ?_
    refine zB4 ?_
    refine⟨zrC,?_⟩
    refine zB4 ?_
    exact⟨⟨0,ty,tx⟩,(by show 0<1;decide),sM,zow,.inr ⟨rfl,rfl,rfl,hc⟩⟩
   ·have hc:¬ty<tx:=of_decide_eq_false hc
    refine AW.exit ?_
    refine zB4 ?_
    exact⟨⟨2,tx,ty⟩,(by show 0<1;decide),sM,zow,.inr ⟨rfl,by show tx=min tx ty;omega,by show ty=max tx ty;omega⟩⟩
  ·obtain rfl:tk=0:=h1
   obtain rfl:tx=sy:=h2
   obtain rfl:ty=sx:=h3
   dsimp only
   refine zB4 ?_
   refine AW.cond Z (fun h=>(by cases h)) (fun _=>?_)
   refine AW.exit ?_
   refine zB4 ?_
   exact⟨⟨2,tx,ty⟩,(by show 0<1;decide),sM,zow,.inr ⟨rfl,by show tx=min ty tx;omega,by show ty=max ty tx;omega⟩⟩
 ·obtain⟨sk,sx,sy⟩:=s
  obtain rfl:sk=2:=h1
  obtain rfl:sx=_:=h2
  obtain rfl:sy=_:=h3
  refine zB4 ?_
  refine AW.cond Z (fun h=>(by cases h)) (fun _=>?_)
  refine AW.exit ?_
  skip
  exact⟨_,[_],rfl,zsb,_,rfl,rfl⟩
theorem ins1_spec(F:Frz)(i x:Nat)(rest:List Value):Abs.Spec CC 146 [.slice (some ⟨i,0,none⟩) 1 1,.int .i64 0,.int .i64 1] F [[(i,.cells false (ci x::rest))]] fun _ v o=>∃B',o=[B']∧B'=[(i,.cells false (ci x::rest))]:=by
 refine Abs.Spec.fn (n:=49) Tryz.func146 rfl rfl fun own=>?_
 refine zB4 ?_
 refine AW.block ?_
 refine AW.loopR (S:=Unit) (fun _=>[]) (fun _=>_) (fun _ _=>True) (fun _=>0) () sM oR trivial ?_
 intro _ F1 hF1 _
 refine zB4 ?_
 refine AW.cond Z (fun h=>(by cases h)) (fun _=>?_)
 refine AW.exit ?_
 skip
 exact⟨_,[_],rfl,zsb,_,rfl,rfl⟩
theorem ins0_spec(F:Frz):Abs.Spec CC 146 [.slice none 0 0,.int .i64 0,.int .i64 0] F [[]] fun _ v o=>∃B',o=[B']∧B'=[]:=by
 refine Abs.Spec.fn (n:=49) Tryz.func146 rfl rfl fun own=>?_
 refine zB4 ?_
 refine AW.block ?_
 refine AW.loopR (S:=Unit) (fun _=>[]) (fun _=>_) (fun _ _=>True) (fun _=>0) () sM oR trivial ?_
 intro _ F1 hF1 _
 refine zB4 ?_
 refine AW.cond Z (fun h=>(by cases h)) (fun _=>?_)
 refine AW.exit ?_
 skip
 exact⟨_,[_],rfl,zsb,_,rfl,rfl⟩
abbrev Makes(g:Nat)(args:List Value)(F:Frz)(B B':List (Nat×Blk)):Prop:=Abs.Spec CC g args F [B] fun _ v o=>∃B1,o=[B1]∧B1=B'
theorem pdqSmall_spec(F:Frz){a:Option Addr}{n c:Nat}(hn:n≤12){B B':List (Nat×Blk)}(h:Makes 146 [.slice a n c,.int .i64 0,.int .i64 (n:Nat)] F B B')(lim:Value) :
  Makes 132 [.slice a n c,.int .i64 0,.int .i64 (n:Nat),lim] F B B':=by
 unfold Makes
 refine Abs.Spec.fn (n:=134) Tryz.func132 rfl rfl fun own=>?_
 refine zB4 ?_
 refine AW.block ?_
 refine AW.loopR (S:=Unit) (fun _=>[]) (fun _=>_) (fun _ G=>G=F) (fun _=>0) () sM oR Z ?_
 intro _ F1 hF1 hG
 subst hG
 refine AW.block ?_
 refine zB4 ?_
 refine AW.cond Z (fun _=>?_) (fun hd=>(by simp at hd;omega))
 refine zB4 ?_
 refine WT.call1F 0 Tryz.func146 Z Z Z Z Z Z Z (fun _=>rfl) h (fun F2 v B2 hF2 hv=>?_)
 subst hv
 refine zB4 ?_
 exact AW.ret ⟨_,[_],rfl,zsb,_,rfl,rfl⟩
theorem sortSmall_spec(F:Frz){a:Option Addr}{n c:Nat}(hn:n≤12){B B':List (Nat×Blk)}(h:Makes 146 [.slice a n c,.int .i64 0,.int .i64 (n:Nat)] F B B') :
  Makes 112 [.slice a n c] F B B':=by
 unfold Makes
 refine Abs.Spec.fn (n:=11) Tryz.func112 rfl rfl fun own=>?_
 refine zB4 ?_
 refine WT.conv hT (k2:=.u64) Z Z Z Z Z Z Z Z (wrapU64 zo) ?_
 refine WT.callV Tryz.func124 Z Z Z Z Z Z (blen_spec _ n zo) (fun v hv=>?_)
 subst hv
 refine WT.call1F 0 Tryz.func132 Z Z Z Z Z Z Z (fun _=>rfl) (pdqSmall_spec F hn h _) (fun F2 v B2 hF2 hv=>?_)
 subst hv
 refine zB4 ?_
 exact⟨_,[_],rfl,zsb,_,rfl,rfl⟩
end Go.Proofs.D
set_option linter.unusedVariables false
set_option maxRecDepth 20000
set_option maxHeartbeats 0
open Go Go.Abs Go.Proofs Go.Proofs.D
namespace Go.Abs
section
variable {C:Ctx}{T:RT}{n:Nat}{k:Kno}{F:Frz}{own:Own}{ops rest:List Oper}{o:Oper}{Q:Kno→Frz→Own→List Rec→Prop}
theorem WT.clearO(hT:rowsOk C T=true)(p:Nat){t e:Nat}{ts:List TypeId}{r:Row}{xo:Operand}{b off c2 l:Nat}{cs zs cs':List Value}{own':Own}{z:Value}(hop:o.op=.call ⟨.builtin .clear,⟨[xo]⟩,⟨t::ts⟩⟩)(hw:wantK ops k o=some true)(hdst:o.dst=none)
  (hx:evK C k xo=some (.slice (some ⟨b,off,none⟩) (l+1) c2)) (hr:rowOf T t=some r) (hde:r.d=.slice e) (hz:zeroT T e=some z) (hzs:rowsL z.cells.toList (l+1)=zs) (h1:zs.all one=true) (hfit:off+zs.length≤cs.length) (hcs:spliceL cs off zs=cs') (hp:own[p]?=some [(b,.cells false cs)]) (ho:setO own p [(b,.cells false cs')]=some own')
  (h:WT C n ops rest k F own' (fun k2 F2 own2 rs=>Q k2 F2 own2 (⟨F,own,F,own',[]⟩::rs))):WT C n ops (o::rest) k F own Q:=by
 subst hzs hcs
 have hlk:looksK (evK C k) o.op=some []:=by rw[hop];rfl
 have hvs:vals (evK C k) [xo]=some [.slice (some ⟨b,off,none⟩) (l+1) c2]:=by simp[vals,hx]
 have e2:=setO_ok _ _ _ _ ho
 refine WT.step (l:=[]) hlk fun e0 h0 hk hs0=>?_
 have hb:=hs0.has hp me
 refine⟨undefA,h0.put b (some (.cells false (spliceL cs off (rowsL z.cells.toList (l+1))))),F,own',⟨0,fun N _=>?_⟩,Frz.le.refl F,?_,?_⟩
 ·refine step_val hk hw ?_ _
  rw[hop]
  have h6:Nat.ble (off+(rowsL z.cells.toList (l+1)).length) cs.length=true:=Nat.ble_eq_true_of_le hfit
  simp only[opA,hvs,builtinA,clearA,und_slice hT hr hde,zeroT_ok hT hz,hb,h1,h6,Bool.and_self,cond_true]
  rfl
 ·have:=hs0.put hp (q:=0) rfl (.cells false (spliceL cs off (rowsL z.cells.toList (l+1))))
  simp only[List.set_cons_zero] at this
  rw[e2] at this
  exact this
 ·rw[hdst]
  exact h
end
end Go.Abs
namespace Go.Proofs.D
theorem arr_ciR{F:Frz}{i n c:Nat}{vs:List Nat}{rest:List Value}(h:F i=some (.cells false (vs.map ci++rest)))(hn:vs.length=n)(hc:c=if n=0 then 0 else 1):Arr tNat F (some ⟨i,0,none⟩) n c vs where
 len:=hn.symm
 cap:=by rw[hc];split;exact .inl rfl;exact .inr rfl
 zero:=fun e=>by rw[hc] at e;split at e<;>omega
 nil:=fun e=>(by cases e)
 spot:=fun p e=>(by cases e;rfl)
 el:=fun j x hx=>⟨i,0,false,_,[ci x],rfl,h,by
  refine partL_of ?_ rfl
  obtain⟨h1,h2⟩:=gS hx
  show [ci x]=((vs.map ci++rest).drop (0+j*1)).take 1
  rw[Nat.zero_add,Nat.mul_one,List.drop_append_of_le_length (by simp;omega),←List.map_drop,List.drop_eq_getElem_cons h1,h2];rfl,rfl⟩
abbrev Lists(g:Nat)(args:List Value)(F:Frz)(B:List (Nat×Blk))(l:List Nat):Prop:=Abs.Spec CC g args F [B] fun F' v o=>∃B1,o=[B1]∧B1=[]∧∃a n c,v=.slice a n c∧Arr tNat F' a n c l
theorem compact0_spec(F:Frz):Lists 113 [.slice none 0 0] F [] []:=by
 unfold Lists
 refine Abs.Spec.fn (n:=61) Tryz.func113 rfl rfl fun own=>?_
 refine zB4 ?_
 refine AW.cond Z (fun _=>?_) (fun h=>(by cases h))
 refine zB4 ?_
 exact AW.ret ⟨_,[_],⟨_,_,rfl,rfl,rfl⟩,zsb,_,rfl,rfl,_,_,_,rfl,Arr.nil_ _ _⟩
theorem compact1_spec(F:Frz)(i x:Nat)(rest:List Value):Lists 113 [.slice (some ⟨i,0,none⟩) 1 1] F [(i,.cells false (ci x::rest))] [x]:=by
 unfold Lists
 refine Abs.Spec.fn (n:=61) Tryz.func113 rfl rfl fun own=>?_
 refine AW.freezeAll 0 Z Z (fun F1 hF1 hB1=>?_)
 have h1:Arr tNat F1 (some ⟨i,0,none⟩) 1 1 [x]:=arr_ciR (hB1 i _ me) rfl rfl
 refine zB4 ?_
 refine AW.cond Z (fun _=>?_) (fun h=>(by cases h))
 refine zB4 ?_
 exact AW.ret ⟨_,[_],⟨_,_,rfl,rfl,rfl⟩,zsb,_,rfl,rfl,_,_,_,rfl,h1⟩
def compact2(x y:Nat):List Nat:=if x=y then [x] else [x,y]
theorem compact2_spec(F:Frz)(i x y:Nat)(rest:List Value):Lists 113 [.slice (some ⟨i,0,none⟩) 2 1] F [(i,.cells false (ci x::ci y::rest))] (compact2 x y):=by
 unfold Lists
 refine Abs.Spec.fn (n:=61) Tryz.func113 rfl rfl fun own=>?_
 refine zB4 ?_
 refine AW.cond Z (fun h=>(by cases h)) (fun _=>?_)
 refine zB4 ?_
 refine AW.block ?_
 refine AW.loopR (S:=Nat) (fun k=>[(3,ci k)]) (fun _=>_) (fun k G=>k=1∨(k=2∧x≠y)) (fun k=>2-k) 1 sM oR (.inl rfl) ?_
 intro k F1 hF1 hk
 rcases hk with rfl | ⟨rfl,hxy⟩
 ·refine zB4 ?_
  refine AW.cond Z (fun _=>?_) (fun h=>(by cases h))
  refine zB4 ?_
  refine AW.block ?_
  refine zB4 ?_
  refine WT.idxA (j:=1) (s:=1) hT Z Z Z Z Z Z Z Z Z (by decide) ?_
  refine zB4 ?_
  refine WT.idxA (j:=0) (s:=1) hT Z Z Z Z Z Z Z Z Z (by decide) ?_
  refine zB4 ?_
  refine AW.cond Z (fun hc=>?_) (fun hc=>?_)
  ·have hc:x=y:=by simp at hc;omega
   subst hc
   refine zB4 ?_
   refine WT.slice Z Z Z Z Z Z Z Z (fun h0=>sliceA_some (lo:=1) (hi:=2) hT Z Z Z Z Z (by decide) (Nat.le_refl _) (.inr rfl) h0) ?_
   refine zB4 ?_
   refine AW.block ?_
   refine AW.loopR (S:=Unit) (fun _=>[]) (fun _=>_) (fun _ _=>True) (fun _=>0) () sM oR trivial ?_
   intro _ F2 hF2 _
   refine zB4 ?_
   refine AW.cond Z (fun h=>(by cases h)) (fun _=>?_)
   refine AW.exit ?_
   refine zB4 ?_
   refine WT.slice Z Z Z Z Z Z Z Z (fun h0=>sliceA_some (lo:=1) (hi:=2) hT Z Z Z Z Z (by decide) (Nat.le_refl _) (.inr rfl) h0) ?_
   refine WT.clearO hT 0 (l:=0) (zs:=[ci 0]) (cs':=ci x::ci 0::rest) Z Z Z Z Z Z Z Z Z (by simp) Z Z Z ?_
   refine WT.freezeAll 0 Z Z (fun F6 hF6 hB6'=>?_)
   have harr:Arr tNat F6 (some ⟨i,0,none⟩) 2 1 [x,0]:=arr_ciR (hB6' i _ me) rfl rfl
   obtain⟨sa,sc,hss,hsl⟩:=harr.slice (C:=CC) (lo:=0) (hi:=1) (Nat.zero_le _) (by decide) hT (t:=22) Z Z Z none (some (.int .i64 ((1:Nat):Int))) rfl rfl
   refine zB4 ?_
   refine WT.slice Z Z Z Z Z Z Z Z hss ?_
   refine zB4 ?_
   refine AW.ret ⟨_,[_],⟨_,_,rfl,rfl,rfl⟩,zsb,_,rfl,rfl,_,_,_,rfl,?_⟩
   unfold compact2
   rw[if_pos rfl]
   exact hsl
  ·have hc:x≠y:=fun e=>by subst e;simp at hc
   refine zB4 ?_
   exact⟨2,by decide,sM,zow,.inr ⟨rfl,hc⟩⟩
 ·refine zB4 ?_
  refine AW.cond Z (fun h=>(by cases h)) (fun _=>?_)
  refine AW.exit ?_
  refine AW.freezeAll 0 Z Z (fun F2 hF2 hB2=>?_)
  have h1:Arr tNat F2 (some ⟨i,0,none⟩) 2 1 [x,y]:=arr_ciR (hB2 i _ me) rfl rfl
  refine zB4 ?_
  refine AW.ret ⟨_,[_],⟨_,_,rfl,rfl,rfl⟩,zsb,_,rfl,rfl,_,_,_,rfl,?_⟩
  unfold compact2
  rw[if_neg hxy]
  exact h1
theorem leastOf_spec(F:Frz){a:Option Addr}{n c:Nat}{B B':List (Nat×Blk)}{l:List Nat}(hn:n≤12)(h1:∀G,Frz.le F G→Makes 146 [.slice a n c,.int .i64 0,.int .i64 (n:Nat)] G B B')(h2:∀G,Frz.le F G→Lists 113 [.slice a n c] G B' l)(hl:l.length≤2) :
  Lists 84 [.slice a n c,.int .i64 1] F B (l.take 1):=by
 unfold Lists
 refine Abs.Spec.fn (n:=15) Tryz.func84 rfl rfl fun own=>?_
 refine zB4 ?_
 refine WT.call1F 0 Tryz.func112 Z Z Z Z Z Z Z (fun _=>rfl) (sortSmall_spec F hn (h1 F (Frz.le.refl F))) (fun F2 v B2 hF2 hv=>?_)
 subst hv
 refine zB4 ?_
 refine WT.call1F 0 Tryz.func113 Z Z Z Z Z Z Z (fun _=>rfl) (h2 F2 hF2) (fun F3 v B3 hF3 hv=>?_)
 obtain⟨rfl,ra,rn,rc,rfl,hr⟩:=hv
 have hrl:=hr.len
 refine zB4 ?_
 refine WT.minT (x:=rn) (y:=1) Z Z Z Z Z Z ?_
 obtain⟨sa,sc,hss,hsl⟩:=hr.slice (C:=CC) (lo:=0) (hi:=min rn 1) (Nat.zero_le _) zo hT (t:=22) Z Z Z none (some (.int .i64 ((min rn 1:Nat):Int))) rfl rfl
 skip
 refine WT.slice Z Z Z Z Z Z Z Z hss ?_
 refine zB4 ?_
 refine AW.ret ⟨_,[_],⟨_,_,rfl,rfl,rfl⟩,zsb,_,rfl,rfl,_,_,_,rfl,?_⟩
 have e:(l.take (min rn 1)).drop 0=l.take 1:=by
  rw[List.drop_zero]
  cases l with
  | nil=>simp
  | cons x l=>rw[Nat.min_eq_right (by rw[hrl];simp)]
 rw[e] at hsl
 exact hsl
def optL(o:Option Nat):List Nat:=o.toList
def minO:Option Nat→Option Nat→Option Nat
 | none,b=>b
 | a,none=>a
 | some x,some y=>some (min x y)
def addO:Option Nat→Option Nat→Option Nat
 | some x,some y=>some (x+y)
 | _,_=>none
theorem least0_spec(F:Frz):Lists 84 [.slice none 0 0,.int .i64 1] F [] []:=
 leastOf_spec F (l:=[]) (by decide) (fun G _=>ins0_spec G) (fun G _=>compact0_spec G) (by decide)
theorem least1_spec(F:Frz)(i x:Nat)(rest:List Value):Lists 84 [.slice (some ⟨i,0,none⟩) 1 1,.int .i64 1] F [(i,.cells false (ci x::rest))] [x]:=
 leastOf_spec F (l:=[x]) (by decide) (fun G _=>ins1_spec G i x rest) (fun G _=>compact1_spec G i x rest) (by simp)
theorem least2_spec(F:Frz)(i x y:Nat)(rest:List Value):Lists 84 [.slice (some ⟨i,0,none⟩) 2 1,.int .i64 1] F [(i,.cells false (ci x::ci y::rest))] [min x y]:=by
 have h:=leastOf_spec F (l:=compact2 (min x y) (max x y)) (by decide) (fun G _=>ins2_spec G i x y rest) (fun G _=>compact2_spec G i _ _ rest) (by unfold compact2;split<;>simp)
 rw[show (compact2 (min x y) (max x y)).take 1=[min x y] by unfold compact2;split<;>rfl] at h
 exact h
section
variable {C:Ctx}{T:RT}{n:Nat}{k:Kno}{F:Frz}{own:Own}{ops rest:List Oper}{o:Oper}{Q:Kno→Frz→Own→List Rec→Prop}
theorem capNil(hT:rowsOk C T=true){t e:TypeId}{ts:List TypeId}{r:Row}{xo:Operand}(hop:o.op=.call ⟨.builtin .cap,⟨[xo]⟩,⟨t::ts⟩⟩)(hw:wantK ops k o=some true){dst:Nat}(hdst:o.dst=some dst)(hn:Nat.blt dst n=true)
  (hx:evK C k xo=some (.slice none 0 0)) (hr:rowOf T t=some r) (hd:r.d=.slice e)
  (h:WT C n ops rest ((dst,.int .i64 ((0:Nat):Int))::k) F own (fun k2 F2 own2 rs=>Q k2 F2 own2 (⟨F,own,F,own,[]⟩::rs))):WT C n ops (o::rest) k F own Q:=by
 refine WT.still (l:=[]) hw (by rw[hop];rfl) (fun h0 _=>?_) (by rw[hdst,putK_some hn];exact h)
 rw[hop]
 have hv:vals (evK C k) [xo]=some [.slice none 0 0]:=by simp[vals,hx]
 simp only[opA,hv,builtinA,capA,und_slice hT hr hd]
 rfl
theorem first0{h:Heap}{s m c:Nat}{a:Option Addr}(ha:∀p,a=some p→p.spot=none):firstA h s 0 (.slice a m c)=some []:=by
 match a,ha with
 | none,_=>rfl
 | some ⟨b,off,none⟩,_=>rfl
 | some ⟨b,off,some _⟩,ha=>have:=ha _ rfl;cases this
end
theorem numGrow_spec(F:Frz)(n:Nat)(hn:n≤1000) :
  Abs.Spec CC 114 [.slice none 0 0,.int .i64 n] F [] fun F' v o=>∃B',o=[B']∧((n=0∧v=.slice none 0 0∧B'=[])∨0<n∧∃b,v=.slice (some ⟨b,0,none⟩) 0 1∧PBld tNat F' b 0 B' []):=by
 refine Abs.Spec.fn (n:=27) Tryz.func114 rfl rfl fun own=>?_
 refine zC4 ?_
 refine AW.cond Z (fun h=>(by simp at h;omega)) (fun _=>?_)
 refine zC4 ?_
 refine capNil hT Z Z Z Z Z Z Z ?_
 refine zC4 ?_
 refine AW.cond Z (fun h=>?_) (fun h=>?_)
 ·have h:0<n:=by simp at h;omega
  rw[show n-(0-0)=n by omega]
  refine zC4 ?_
  refine capNil hT Z Z Z Z Z Z Z ?_
  skip
  refine WT.slice Z Z Z Z Z Z Z Z (v:=.slice none 0 0) (fun h0=>rfl) ?_
  refine zC4 ?_
  refine WT.appendN hT Z Z Z Z Z Z Z Z Z Z Z Z Z Z Z ⟨h,by decide,by decide⟩ zo zom (fun i9 hi9=>?_)
  refine zC4 ?_
  refine WT.slice Z Z Z Z Z Z Z Z (fun h0=>sliceA_some (lo:=0) (hi:=0) hT Z Z Z Z Z (Nat.le_refl _) (Nat.zero_le _) (.inr rfl) h0) ?_
  refine zC4 ?_
  refine AW.ret ⟨_,[_],⟨_,_,rfl,rfl,rfl⟩,zsb,_,rfl,.inr ⟨h,i9,rfl,rfl,by decide,_,[],rfl,?_,.nil⟩⟩
  exact partL_of rfl rfl
 ·have h:n=0:=by simp at h;omega
  subst h
  refine zC4 ?_
  refine AW.le (own2:=[]::own) (OwnLe.flat (List.Perm.refl _)) ?_
  exact AW.ret ⟨_,[[]],⟨_,_,rfl,rfl,rfl⟩,zsb,_,rfl,.inl ⟨rfl,rfl,rfl⟩⟩
structure GSn where
 b:Nat
 xs:List Nat
 B:List (Nat×Blk)
theorem cells_nat{F:Frz}:∀{xs:List Nat} {cs:List Value},Cells tNat F cs xs→cs=xs.map ci:=by
 intro xs cs h
 induction h with
 | nil=>rfl
 | cons h _ ih=>obtain rfl:_=_:=h;rw[ih];rfl
theorem numConcatOwn_spec(F:Frz){a:Option Addr}{m c:Nat}{L:List (List Nat)}(hL:Arr (tList tNat) F a m c L)(hm:m≤1000)(ht:L.flatten.length≤1000) :
  Abs.Spec CC 85 [.slice a m c] F [] fun F' v o=>∃B',o=[B']∧((L.flatten=[]∧v=.slice none 0 0∧B'=[])∨L.flatten≠[]∧∃i rest,v=.slice (some ⟨i,0,none⟩) L.flatten.length 1∧B'=[(i,.cells false (L.flatten.map ci++rest))]):=by
 have hml:=hL.len
 have step:∀j l,L[j]?=some l→(L.take (j+1)).flatten=(L.take j).flatten++l:=fun j l h=>by
  rw[List.take_add_one,h];simp
 have few:∀j,(L.take j).flatten.length≤L.flatten.length:=fun j=>by
  have:L.flatten=(L.take j).flatten++(L.drop j).flatten:=by rw[←List.flatten_append,List.take_append_drop]
  rw[this,List.length_append];omega
 refine Abs.Spec.fn (n:=36) Tryz.func85 rfl rfl fun own=>?_
 refine zC4 ?_
 refine AW.range (S:=Nat) (fun s=>[(3,.int .i64 (s:Nat))]) (fun _=>_) (fun j s G=>s=(L.take j).flatten.length) m 0 Z Z Z Z Z Z Z Z Z zo Z Z (fun _=>rfl) (fun _=>rfl) sM oR (by simp) ?_ ?_
 ·intro j s F1 hF1 hj hP
  have hL1:=hL.mono hF1
  have hfj:=few j
  have hP:s=(L.take j).flatten.length:=hP
  refine zC4 ?_
  refine WT.idxL hT hL1 Z Z Z Z Z Z Z Z Z zo (fun l hlj b1 off ro cs lx hb hp1 hrel=>?_)
  obtain⟨xa,xn,xc,rfl,hxa⟩:=hrel
  have hxl:=hxa.len
  have hst:=step j l hlj
  have hfj2:=few (j+1)
  rw[hst,List.length_append] at hfj2
  refine zC4 ?_
  refine AW.cond Z (fun h=>(by simp at h;omega)) (fun _=>?_)
  refine zC4 ?_
  refine⟨s+xn,sM,zow,?_⟩
  show s+xn=(L.take (j+1)).flatten.length
  rw[hst,List.length_append,←hP,hxl]
 ·intro s F1 hF1 hP
  have hP:s=(L.take m).flatten.length:=hP
  rw[List.take_of_length_le zo] at hP
  subst hP
  have hL1:=hL.mono hF1
  refine zC4 ?_
  refine WT.callN Tryz.func114 Z Z Z Z Z Z (numGrow_spec _ _ ht) (fun F2 v B2 hF2 hv=>?_)
  have hL2:=hL1.mono hF2
  rcases hv with ⟨hn,rfl,rfl⟩ | ⟨hn0,b,rfl,hb⟩
  ·have h0:L.flatten=[]:=List.eq_nil_of_length_eq_zero hn
   refine zC4 ?_
   refine AW.range (S:=Unit) (fun _=>[]) (fun _=>_) (fun j _ G=>True) m ()
    Z Z Z Z Z Z Z Z Z zo rfl rfl (fun _=>rfl) (fun _=>rfl) sM oR trivial ?_ ?_
   ·intro j u F3 hF3 hj _
    have hL3:=hL2.mono hF3
    refine zC4 ?_
    refine WT.idxL hT hL3 Z Z Z Z Z Z Z Z Z zo (fun l hlj b1 off ro cs lx hb hp1 hrel=>?_)
    obtain⟨xa,xn,xc,rfl,hxa⟩:=hrel
    have hxl:=hxa.len
    have hl0:l=[]:=by
     have h1:=few (j+1)
     rw[step j l hlj,List.length_append] at h1
     exact List.eq_nil_of_length_eq_zero zo
    obtain rfl:xn=0:=by rw[hxl,hl0];rfl
    refine zC4 ?_
    refine WT.append0 hT Z Z Z Z Z Z Z Z Z Z Z Z Z (fun h0 s0=>first0 hxa.spot) (by decide) zom ?_
    refine zC4 ?_
    exact⟨(),sM,zow,trivial⟩
   ·intro u F3 hF3 _
    refine zC4 ?_
    refine AW.le (own2:=[]::own) (OwnLe.flat (List.Perm.refl _)) ?_
    exact AW.ret ⟨_,[_],⟨_,_,rfl,rfl,rfl⟩,zsb,_,rfl,.inl ⟨h0,rfl,rfl⟩⟩
  ·refine zC4 ?_
   refine AW.range (S:=GSn) (fun u=>[(6,.slice (some ⟨u.b,0,none⟩) u.xs.length 1)]) (fun u=>u.B::own) (fun j u G=>PBld tNat G u.b u.xs.length u.B u.xs∧u.xs=(L.take j).flatten) m ⟨b,[],B2⟩
    Z Z Z Z Z Z Z Z Z zo rfl rfl (fun _=>rfl) (fun _=>rfl) sM oR ⟨hb,by simp⟩ ?_ ?_
   ·intro j u F3 hF3 hj hP
    obtain⟨hb3,hxs⟩:=hP
    have hL3:=hL2.mono hF3
    have hfj2:=few (j+1)
    refine zC4 ?_
    refine WT.idxL hT hL3 Z Z Z Z Z Z Z Z Z zo (fun l hlj b1 off ro cs lx hb hp1 hrel=>?_)
    obtain⟨xa,xn,xc,rfl,hxa⟩:=hrel
    have hxl:=hxa.len
    have hst:=step j l hlj
    rw[hst,List.length_append,←hxs,←hxl] at hfj2
    refine zC4 ?_
    obtain⟨ds,hds,hcs⟩:=news_arr hT hxa (t:=22) rfl rfl 3
    refine WT.appendP hT 0 hb3 Z (fun _=>rfl) Z Z Z Z Z Z Z Z Z Z Z (fun h0 s0=>hds _ h0 s0) hcs hxl (by decide) zom (fun b' B' hB'=>?_)
    have hl2:u.xs.length+xn=(u.xs++l).length:=by rw[List.length_append,←hxl]
    rw[hl2] at hB' ⊢
    refine zC4 ?_
    exact⟨⟨b',u.xs++l,B'⟩,sM,zow,hB',by rw[hst,←hxs]⟩
   ·intro u F3 hF3 hP
    obtain⟨hb3,hxs⟩:=hP
    rw[List.take_of_length_le zo] at hxs
    obtain⟨ub,uxs,uB⟩:=u
    have hb3:PBld tNat F3 ub uxs.length uB uxs:=hb3
    obtain⟨hlen,hpos,cs,old,rfl,hpo,hcs⟩:=hb3
    have ho:=cells_nat hcs
    have hcs2:cs=uxs.map ci++cs.drop uxs.length:=by
     obtain⟨e1,e2⟩:=partL_eq hpo
     have e3:old=cs.take uxs.length:=by rw[e1,List.drop_zero];show cs.take (uxs.length*1)=_;rw[Nat.mul_one]
     rw[←ho,e3,List.take_append_drop]
    have hxs:uxs=L.flatten:=hxs
    subst hxs
    refine zC4 ?_
    refine AW.ret ⟨_,[_],⟨_,_,rfl,rfl,rfl⟩,zsb,_,rfl,.inr ⟨fun e=>by rw[e] at hn0;exact absurd hn0 (Nat.lt_irrefl _),ub,cs.drop (L.flatten).length,rfl,?_⟩⟩
    rw[←hcs2]
def minL:List Nat→List Nat
 | x::y::_=>[min x y]
 | l=>l
theorem leastL_spec(F:Frz){l:List Nat}(hl:l.length≤2){v:Value}{B:List (Nat×Blk)}(h:(l=[]∧v=.slice none 0 0∧B=[])∨∃i rest,v=.slice (some ⟨i,0,none⟩) l.length 1∧B=[(i,.cells false (l.map ci++rest))])(hne:l=[]→v=.slice none 0 0∧B=[]) :
  Lists 84 [v,.int .i64 1] F B (minL l):=by
 match l,hl with
 | [],_=>obtain⟨rfl,rfl⟩:=hne rfl;exact least0_spec F
 | [x],_=>
  rcases h with ⟨h,_⟩ | ⟨i,rest,rfl,rfl⟩
  ·cases h
  ·exact least1_spec F i x rest
 | [x,y],_=>
  rcases h with ⟨h,_⟩ | ⟨i,rest,rfl,rfl⟩
  ·cases h
  ·exact least2_spec F i x y rest
theorem minL_opt(x y:Option Nat):minL (optL x++optL y)=optL (minO x y):=by cases x<;>cases y<;>rfl
theorem lplus_spec(F:Frz){ik:Nat}(hk:F ik=some (.cells false [.int .i64 1])){a b:Option Addr}{m n c d:Nat}{x y:Option Nat}(hx:Arr tNat F a m c (optL x))(hy:Arr tNat F b n d (optL y)) :
  Abs.Spec CC 83 [.slice a m c,.slice b n d,.pointer (some ⟨ik,0,none⟩)] F [] fun F' v o=>o=[]∧∃p q r,v=.slice p q r∧Arr tNat F' p q r (optL (minO x y)):=by
 refine Abs.Spec.fn (n:=12) Tryz.func83 rfl rfl fun own=>?_
 refine zB4 ?_
 refine AW.draw (ps:=[(4,2),(4,3)]) Z Z ?_
 refine zB4 ?_
 refine WT.buildT hT Z Z Z Z Z Z Z Z Z Z Z Z Z Z (fun i8 hi8=>?_)
 refine WT.freezeAll 0 Z Z (fun F1 hF1 hB1=>?_)
 have h8:Arr (tList tNat) F1 (some ⟨i8,0,none⟩) 2 1 [optL x,optL y]:=Bld.frozen (F:=F1) (B:=[(i8,.cells false [.slice a m c,.slice b n d])]) ⟨rfl,.inr ⟨i8,_,rfl,rfl,rfl,Cells.cons (R:=tList tNat) (x:=optL x) (l:=[_]) ⟨_,_,_,rfl,hx.mono hF1⟩ (Cells.single (R:=tList tNat) (x:=optL y) ⟨_,_,_,rfl,hy.mono hF1⟩),by decide⟩⟩ (Frz.le.refl _) hB1
 have hfl:[optL x,optL y].flatten=optL x++optL y:=by simp
 have hk1:=hF1 _ _ hk
 refine WT.callN Tryz.func85 Z Z Z Z Z Z (numConcatOwn_spec _ h8 (by decide) (by rw[hfl];cases x<;>cases y<;>simp[optL])) (fun F2 v B2 hF2 hv=>?_)
 rw[hfl] at hv
 have hk2:=hF2 _ _ hk1
 obtain⟨ca,cn,cc,rfl⟩:∃a n c,v=.slice a n c:=by
  rcases hv with ⟨_,rfl,_⟩ | ⟨_,i,rest,rfl,_⟩<;>exact⟨_,_,_,rfl⟩
 have hls:=fun G=>leastL_spec G (l:=optL x++optL y) (by cases x<;>cases y<;>simp[optL]) (hv.imp id fun h=>h.2) (fun e=>by
  rcases hv with ⟨_,h1,h2⟩ | ⟨h0,_⟩
  ·exact⟨h1,h2⟩
  ·exact absurd e h0)
 refine zB4 ?_
 refine WT.call1F 0 Tryz.func84 Z Z Z Z Z Z Z (fun _=>rfl) (hls _) (fun F3 v B3 hF3 hv3=>?_)
 obtain⟨rfl,ra,rn,rc,rfl,hr⟩:=hv3
 refine zB4 ?_
 refine⟨zrC,?_⟩
 skip
 exact AW.ret ⟨_,[],⟨_,_,rfl,rfl,rfl⟩,zsb,rfl,_,_,_,rfl,minL_opt x y▸hr⟩
structure NbS where
 a:Option Addr
 n:Nat
 c:Nat
 B:List (Nat×Blk)
 xs:List Nat
theorem optL_len(x:Option Nat):(optL x).length≤1:=by cases x<;>simp[optL]
theorem ltimes_spec(F:Frz){ik:Nat}(hk:F ik=some (.cells false [.int .i64 1])){a b:Option Addr}{m n c d:Nat}{x y:Option Nat}(hx:Arr tNat F a m c (optL x))(hy:Arr tNat F b n d (optL y))(hb:∀p q,x=some p→y=some q→p+q≤1000000000000) :
  Abs.Spec CC 86 [.slice a m c,.slice b n d,.pointer (some ⟨ik,0,none⟩)] F [] fun F' v o=>o=[]∧∃p q r,v=.slice p q r∧Arr tNat F' p q r (optL (addO x y)):=by
 have hxl:=hx.len
 have hyl:=hy.len
 have hx1:=optL_len x
 have hy1:=optL_len y
 refine Abs.Spec.fn (n:=34) Tryz.func86 rfl rfl fun own=>?_
 refine zB4 ?_
 refine AW.range (S:=NbS) (fun s=>[(6,.slice s.a s.n s.c)]) (fun s=>s.B::own) (fun j s G=>Bld tNat G s.a s.n s.c s.B s.xs∧(s.xs=[]→s.a=none∧s.B=[])∧s.xs=((optL x).take j).flatMap fun p=>(optL y).map fun q=>p+q) m ⟨none,0,0,[],[]⟩
  Z Z Z Z Z Z Z Z Z zo rfl rfl (fun _=>rfl) (fun _=>rfl) sM (OwnLe.flat (List.Perm.refl _)) ⟨Bld.nil_ _ _,fun _=>⟨rfl,rfl⟩,by simp⟩ ?_ ?_
 ·intro j s F1 hF1 hj hP
  obtain⟨hs,hsn,hsx⟩:=hP
  obtain rfl:j=0:=by omega
  have hsx:s.xs=[]:=hsx
  have hx2:=hx.mono hF1
  have hy2:=hy.mono hF1
  refine zB4 ?_
  refine WT.idxL hT hx2 Z Z Z Z Z Z Z Z Z zo (fun p hpj b3 off3 ro3 cs3 lx3 hb3 hp3 hrel3=>?_)
  obtain rfl:lx3=_:=hrel3
  obtain rfl:x=some p:=by
   cases x with
   | none=>cases hpj
   | some z=>have:some z=some p:=hpj;rw[this]
  refine zB4 ?_
  refine AW.range (S:=NbS) (fun s=>[(6,.slice s.a s.n s.c)]) (fun s=>s.B::own) (fun q s G=>Bld tNat G s.a s.n s.c s.B s.xs∧(s.xs=[]→s.a=none∧s.B=[])∧s.xs=((optL y).take q).map fun q=>p+q) n s
   Z Z Z Z Z Z Z Z Z zo rfl rfl (fun _=>rfl) (fun _=>rfl) sM oR ⟨hs,hsn,by rw[hsx];simp⟩ ?_ ?_
  ·intro q t F2 hF2 hq hP2
   obtain⟨ht,htn,htx⟩:=hP2
   obtain rfl:q=0:=by omega
   have htx:t.xs=[]:=htx
   have htl:=ht.len
   rw[htx] at htl
   have htl:t.n=0:=htl
   have hy3:=hy2.mono hF2
   refine zB4 ?_
   refine WT.idxL hT hy3 Z Z Z Z Z Z Z Z Z zo (fun z hzq b4 off4 ro4 cs4 lx4 hb4 hp4 hrel4=>?_)
   obtain rfl:lx4=_:=hrel4
   obtain rfl:y=some z:=by
    cases y with
    | none=>cases hzq
    | some u=>have:some u=some z:=hzq;rw[this]
   have hbz:=hb p z rfl rfl
   refine zC4 ?_
   refine WT.buildT hT Z Z Z Z Z Z Z Z Z Z Z Z Z Z (fun i27 hi27=>?_)
   refine WT.appendT (ys:=[p+z]) hT 1 ht Z (fun _=>rfl) Z Z Z Z Z Z Z Z Z Z Z (fun h0 s0=>news_own hT s0 0 Z Z Z Z) (Cells.single (R:=tNat) (x:=p+z) rfl) Z (by decide) zom (fun a2 c2 B2 hB2=>?_)
   refine zC4 ?_
   refine⟨⟨a2,t.n+1,c2,B2,t.xs++[p+z]⟩,sM,zow,hB2,fun e=>by simp at e,?_⟩
   rw[htx];rfl
  ·intro t F2 hF2 hP2
   obtain⟨ht,htn,htx⟩:=hP2
   skip
   refine⟨t,sM,zow,ht,htn,?_⟩
   rw[htx,List.take_of_length_le zo]
   simp[optL]
 ·intro s F1 hF1 hP
  obtain⟨hs,hsn,hsx⟩:=hP
  rw[List.take_of_length_le zo] at hsx
  have hsx:s.xs=optL (addO x y):=by rw[hsx];cases x<;>cases y<;>rfl
  have hk1:=hF1 _ _ hk
  obtain⟨sa,sn,sc,sB,sxs⟩:=s
  have hs:Bld tNat F1 sa sn sc sB sxs:=hs
  have hsx:sxs=optL (addO x y):=hsx
  have hsn:sxs=[]→sa=none∧sB=[]:=hsn
  have hls:=leastL_spec F1 (l:=sxs) (v:=.slice sa sn sc) (B:=sB) (by rw[hsx];cases x<;>cases y<;>simp[optL,addO]) ?_ ?_
  ·refine zB4 ?_
   refine WT.call1F 0 Tryz.func84 Z Z Z Z Z Z Z (fun _=>rfl) hls (fun F3 v B3 hF3 hv3=>?_)
   obtain⟨rfl,ra,rn,rc,rfl,hr⟩:=hv3
   refine zB4 ?_
   refine AW.ret ⟨_,[],⟨_,_,rfl,rfl,rfl⟩,zsb,rfl,_,_,_,rfl,?_⟩
   have e:minL sxs=optL (addO x y):=by rw[hsx];cases x<;>cases y<;>rfl
   exact e▸hr
  ·obtain⟨h1,⟨h2,rfl,rfl,rfl⟩ | ⟨i,cs,rfl,rfl,rfl,hc,_⟩⟩:=hs
   ·subst h2
    left
    exact⟨rfl,by rw[show sn=0 from h1],rfl⟩
   ·right
    exact⟨i,[],by rw[h1];rfl,by rw[cells_nat hc];simp⟩
  ·intro e
   obtain⟨h1,⟨h2,rfl,rfl,rfl⟩ | ⟨i,cs,rfl,rfl,rfl,hc,_⟩⟩:=hs
   ·rw[show sn=0 by rw[h1,h2];rfl];exact⟨rfl,rfl⟩
   ·have:=(hsn e).1;cases this
theorem lsame_spec(F:Frz){a b:Option Addr}{m n c d:Nat}{x y:Option Nat}(hx:Arr tNat F a m c (optL x))(hy:Arr tNat F b n d (optL y)) :
  Abs.Spec CC 82 [.slice a m c,.slice b n d] F [] fun _ v o=>o=[]∧v=.bool (decide (x=y)):=by
 have hxl:=hx.len
 have hx1:=optL_len x
 refine Abs.Spec.fn (n:=8) Tryz.func82 rfl rfl fun own=>?_
 refine zB4 ?_
 refine WT.callV Tryz.func45 Z Z Z Z Z Z (equal_spec _ hx hy zo) (fun v hv=>?_)
 subst hv
 refine zB4 ?_
 refine AW.ret ⟨_,[],⟨_,_,rfl,rfl,rfl⟩,zsb,rfl,?_⟩
 show Value.bool (decide (optL x=optL y))=_
 congr 1
 cases x<;>cases y<;>simp[optL]
theorem lrule_spec(F:Frz){i:Nat}{ca:Option Addr}{cn cc:Nat}{cost:List Nat}(hi:F i=some (.cells false [.slice ca cn cc]))(hc:Arr tNat F ca cn cc cost)(n:Nat){z:Nat}(hz:cost[n]?=some z) :
  Abs.Spec CC 88 [ci n,.pointer (some ⟨i,0,none⟩)] F [] fun F' v o=>o=[]∧∃p q r,v=.slice p q r∧Arr tNat F' p q r (optL (some z)):=by
 have hcl:=hc.len
 have hzl:=(gS hz).1
 refine Abs.Spec.fn (n:=9) Tryz.func88 rfl rfl fun own=>?_
 refine zB4 ?_
 refine WT.idxL hT hc Z Z Z Z Z Z Z Z Z zo (fun y hy b3 off3 ro3 cs3 lx3 hb3 hp3 hrel3=>?_)
 obtain rfl:lx3=_:=hrel3
 obtain rfl:y=z:=by rw[hz] at hy;exact(Option.some.inj hy).symm
 refine zB4 ?_
 refine WT.buildT hT Z Z Z Z Z Z Z Z Z Z Z Z Z Z (fun i8 hi8=>?_)
 refine WT.freezeAll 0 Z Z (fun F1 hF1 hB1=>?_)
 have h8:Arr tNat F1 (some ⟨i8,0,none⟩) 1 1 [y]:=arr_ci (hB1 i8 _ me) rfl rfl
 refine zB4 ?_
 exact AW.ret ⟨_,[],⟨_,_,rfl,rfl,rfl⟩,zsb,rfl,_,_,_,rfl,h8⟩
structure LeastC(F:Frz)(ik ic:Nat)(ca:Option Addr)(cn cc:Nat)(cost:List Nat):Prop where
 k:F ik=some (.cells false [.int .i64 1])
 c:F ic=some (.cells false [.slice ca cn cc])
 arr:Arr tNat F ca cn cc cost
theorem LeastC.mono{F G:Frz}{ik ic:Nat}{ca:Option Addr}{cn cc:Nat}{cost:List Nat}(h:LeastC F ik ic ca cn cc cost)(hF:Frz.le F G):LeastC G ik ic ca cn cc cost:=⟨hF _ _ h.k,hF _ _ h.c,h.arr.mono hF⟩
def ringL(ik:Nat)(oa:Option Addr)(on oc:Nat):List Value:=[.slice none 0 0,.slice oa on oc,.func (.func 83) ⟨[]⟩ ⟨[.pointer (some ⟨ik,0,none⟩)]⟩,.func (.func 86) ⟨[]⟩ ⟨[.pointer (some ⟨ik,0,none⟩)]⟩,.func (.func 82) ⟨[]⟩ ⟨[]⟩]
def valO(vs:List (Option Nat))(k:Nat):Option Nat:=(vs[k]?).getD none
def packO(cost:List Nat)(vs:List (Option Nat))(p:NPack):Option Nat:=p.kids.foldl (fun a k=>addO a (valO vs k)) (cost[p.rule]?)
def nodeO(cost:List Nat)(vs:List (Option Nat))(x:Node):Option Nat:=x.packs.foldl (fun s p=>minO s (packO cost vs p)) none
structure NlS where
 a:Option Addr
 n:Nat
 c:Nat
 x:Option Nat
theorem node3_spec(F:Frz){ik ic:Nat}{ca:Option Addr}{cn cc:Nat}{cost:List Nat}(hC:LeastC F ik ic ca cn cc cost)(hcm:∀y∈cost,y≤1000){oa:Option Addr}{on oc:Nat}{x:Node}{pa:Option Addr}{pn pc:Nat}(hp:Arr tNPack F pa pn pc x.packs)(hpn:pn≤1000000){va:Option Addr}{vn vc:Nat}{vs:List (Option Nat)}(hv:Arr (tList tNat) F va vn vc (vs.map optL))(hvM:∀y,some y∈vs→y≤1000000)
  (hkid:∀p∈x.packs,p.rule<cost.length∧p.kids.length≤1000∧∀k∈p.kids,k<vs.length) :
  Abs.Spec CC 115 [.agg ⟨nodeCells x pa pn pc⟩,.agg ⟨ringL ik oa on oc⟩,.func (.func 88) ⟨[]⟩ ⟨[.pointer (some ⟨ic,0,none⟩)]⟩,.slice va vn vc] F [] fun F' v o=>o=[]∧∃p q r,v=.slice p q r∧Arr tNat F' p q r (optL (nodeO cost vs x)):=by
 have hpl:=hp.len
 have hvl:=hv.len
 rw[List.length_map] at hvl
 unfold nodeCells ringL
 refine Abs.Spec.fn (n:=51) Tryz.func115 rfl rfl fun own=>?_
 refine AW.seq (AW.reg ?_)
 refine WT.boxT Z Z Z Z Z Z (fun i4 hi4=>?_)
 refine WT.boxT Z Z Z Z Z Z (fun i5 hi5=>?_)
 refine zB7 ?_
 refine AW.range (S:=NlS) (fun s=>[(9,.slice s.a s.n s.c)]) (fun _=>[(i5,.cells false (ringL ik oa on oc))]::[(i4,.cells false (nodeCells x pa pn pc))]::own)
  (fun j s G=>Arr tNat G s.a s.n s.c (optL s.x)∧s.x=(x.packs.take j).foldl (fun s p=>minO s (packO cost vs p)) none) pn ⟨none,0,0,none⟩
  Z Z Z Z Z Z Z Z Z zo rfl rfl (fun _=>rfl) (fun _=>rfl) sM oR ⟨Arr.nil_ _ _,rfl⟩ ?_ ?_
 ·intro j s F1 hF1 hj hP
  obtain⟨hs,hsx⟩:=hP
  have hp1:=hp.mono hF1
  have hv1:=hv.mono hF1
  have hC1:=hC.mono hF1
  unfold nodeCells ringL
  refine zB7 ?_
  refine WT.idxL hT hp1 Z Z Z Z Z Z Z Z Z zo (fun p hpj b6 off6 ro6 cs6 lx6 hb6 hp6 hrel6=>?_)
  obtain⟨ka,kn,kc,rfl,hka,hkb⟩:=hrel6
  have hkal:=hka.len
  have hpm:=gM hpj
  obtain⟨hpr,hpk,hpks⟩:=hkid p hpm
  obtain⟨z,hz⟩:∃z,cost[p.rule]?=some z:=⟨_,gE hpr⟩
  have hz1:=hcm z (gM hz)
  refine zB7 ?_
  refine WT.allocT hT Z Z Z Z Z Z (fun i11 hi11=>?_)
  refine zB7 ?_
  refine WT.callCF0 Tryz.func88 Z Z Z Z Z Z Z Z (lrule_spec _ hC1.c hC1.arr p.rule hz) (fun F2 v hF2 hv2=>?_)
  obtain⟨ra,rn,rc,rfl,hr⟩:=hv2
  refine zB7 ?_
  refine AW.range (S:=NlS) (fun t=>[(12,.slice t.a t.n t.c)]) (fun _=>[(i11,.cells false [.int .i64 p.rule,.slice ka kn kc])]::[(i5,.cells false (ringL ik oa on oc))]::[(i4,.cells false (nodeCells x pa pn pc))]::own)
   (fun q t G=>Arr tNat G t.a t.n t.c (optL t.x)∧t.x=(p.kids.take q).foldl (fun a k=>addO a (valO vs k)) (cost[p.rule]?)∧∀y,t.x=some y→y≤1000+q*1000000) kn ⟨ra,rn,rc,some z⟩
   Z Z Z Z Z Z Z Z Z zo rfl rfl (fun _=>rfl) (fun _=>rfl) sM oR ⟨hr,by rw[hz];rfl,fun y hy=>by cases hy;omega⟩ ?_ ?_
  ·intro q t F3 hF3 hq hP2
   obtain⟨ht,htx,htb⟩:=hP2
   have hka3:=(hka.mono hF2).mono hF3
   have hv3:=(hv1.mono hF2).mono hF3
   have hC3:=(hC1.mono hF2).mono hF3
   unfold nodeCells ringL
   refine zB7 ?_
   refine WT.idxL hT hka3 Z Z Z Z Z Z Z Z Z zo (fun k hkq b8 off8 ro8 cs8 lx8 hb8 hp8 hrel8=>?_)
   obtain rfl:lx8=_:=hrel8
   have hkl:=hpks k (gM hkq)
   obtain⟨u,hu⟩:∃u,vs[k]?=some u:=⟨_,gE hkl⟩
   have hkv:(vs.map optL).length=vs.length:=List.length_map ..
   have hva:valO vs k=u:=by unfold valO;rw[hu];rfl
   refine zB7 ?_
   refine WT.idxL hT hv3 Z Z Z Z Z Z Z Z Z zo (fun l hlk b9 off9 ro9 cs9 lx9 hb9 hp9 hrel9=>?_)
   obtain⟨la,ln,lc,rfl,hla⟩:=hrel9
   obtain rfl:l=optL u:=by rw[List.getElem?_map,hu] at hlk;exact(Option.some.inj hlk).symm
   refine zB7 ?_
   have hbb:∀y z,t.x=some y→u=some z→y+z≤1000+(q+1)*1000000:=fun y z h1 h2=>by
    have h3:=htb y h1
    have h4:=hvM z (by rw[←h2];exact gM hu)
    omega
   refine WT.callCF0 Tryz.func86 Z Z Z Z Z Z Z Z (ltimes_spec _ hC3.k ht hla (fun y z h1 h2=>by have:=hbb y z h1 h2;omega)) (fun F4 v hF4 hv4=>?_)
   obtain⟨wa,wn,wc,rfl,hw⟩:=hv4
   refine zB7 ?_
   refine⟨⟨wa,wn,wc,addO t.x u⟩,sM,zow,hw,?_,fun y hy=>?_⟩
   ·rw[List.take_add_one,hkq,List.foldl_append,←htx];show _=addO t.x (valO vs k);rw[hva]
   ·have hy:addO t.x u=some y:=hy
    cases htt:t.x with
    | none=>rw[htt] at hy;cases hy
    | some a=>cases u with
     | none=>rw[htt] at hy;cases hy
     | some b=>
      rw[htt] at hy
      have e:a+b=y:=Option.some.inj hy
      have:=hbb a b htt rfl
      omega
  ·intro t F3 hF3 hP2
   obtain⟨ht,htx,htb⟩:=hP2
   rw[List.take_of_length_le zo] at htx
   have hC3:=(hC1.mono hF2).mono hF3
   have hs3:=(hs.mono hF2).mono hF3
   unfold nodeCells ringL
   refine zB7 ?_
   refine WT.callCF0 Tryz.func83 Z Z Z Z Z Z Z Z (lplus_spec _ hC3.k hs3 ht) (fun F4 v hF4 hv4=>?_)
   obtain⟨wa,wn,wc,rfl,hw⟩:=hv4
   refine zB7 ?_
   refine⟨⟨wa,wn,wc,minO s.x t.x⟩,sM,zow,hw,?_⟩
   rw[List.take_add_one,hpj,List.foldl_append,←hsx];show _=minO s.x (packO cost vs p);unfold packO;rw[←htx]
 ·intro s F1 hF1 hP
  obtain⟨hs,hsx⟩:=hP
  rw[List.take_of_length_le zo] at hsx
  refine zB7 ?_
  refine AW.ret ⟨_,[],⟨_,_,rfl,rfl,rfl⟩,zsb,rfl,_,_,_,rfl,?_⟩
  unfold nodeO
  rw[←hsx];exact hs
end Go.Proofs.D
set_option linter.unusedVariables false
set_option maxRecDepth 20000
set_option maxHeartbeats 0
open Go Go.Abs Go.Proofs Go.Proofs.D
namespace Go.Abs
theorem Spec.lendBF{C:Ctx}{f:FuncId}{args:List Value}{F:Frz}{P:Frz→Value→Prop}{B:List (Nat×Blk)}
  (spec:∀G,Frz.le F G→(∀i b,(i,b)∈B→G i=some b)→Spec C f args G [] fun F' v o=>o=[]∧P F' v) :
  Spec C f args F [B] fun F2 v o=>∃B',o=[B']∧B'=B∧∃F',P F' v∧∀i b,F' i=some b→F2 i=some b∨(i,b)∈B:=by
 intro own h hs
 have hs:St F (B::own) h:=hs
 obtain⟨s1,hle,hB⟩:=hs.freezeAll
 obtain⟨v,h',F',oout,h1,h2,h3,rfl,h4⟩:=spec _ hle hB own h s1
 have s0:StF F (B++own.flatten) h:=by simpa [St] using hs
 have hnd:=s0.nodup
 rw[List.map_append,List.nodup_append] at hnd
 have h3':StF F' own.flatten h':=h3
 have hF':∀i b,(i,b)∈B→F' i=some b:=fun i b hm=>h2 i b (hB i b hm)
 refine⟨v,h',fun i=>if (B.map (·.1)).contains i=true then none else F' i,[B],h1,fun i b q=>?_,?_,B,rfl,rfl,F',h4,fun i b q=>?_⟩
 ·have hn:(B.map (·.1)).contains i=false:=by
   cases hc:(B.map (·.1)).contains i with
   | false=>rfl
   | true=>
    obtain⟨p,hp,rfl⟩:=List.mem_map.1 (List.contains_iff_mem.1 hc)
    have:=s0.apart p (List.mem_append_left _ hp)
    rw[q] at this;cases this
  simp only[hn,Bool.false_eq_true,if_false]
  exact h2 i b (hle i b q)
 ·show StF _ (B++own.flatten) h'
  refine⟨fun i b q=>?_,fun p hp=>?_,fun p hp=>?_,?_,h3'.wf⟩
  ·split at q
   ·cases q
   ·exact h3'.frz i b q
  ·rcases List.mem_append.1 hp with hp | hp
   ·exact h3'.frz _ _ (hF' p.1 p.2 hp)
   ·exact h3'.has p hp
  ·rcases List.mem_append.1 hp with hp | hp
   ·show (if _ then _ else _)=_
    rw[if_pos (List.contains_iff_mem.2 (List.mem_map_of_mem hp))]
   ·show (if _ then _ else _)=_
    split
    ·rfl
    ·exact h3'.apart p hp
  ·rw[List.map_append,List.nodup_append]
   refine⟨hnd.1,h3'.nodup,fun a ha b hb=>?_⟩
   obtain⟨p,hp,rfl⟩:=List.mem_map.1 ha
   obtain⟨q,hq,rfl⟩:=List.mem_map.1 hb
   intro e
   have h5:=h3'.apart q hq
   rw[←e,hF' p.1 p.2 hp] at h5
   cases h5
 ·show (if _ then _ else _)=_∨_
  by_cases hc:(B.map (·.1)).contains i=true
  ·right
   obtain⟨p,hp,rfl⟩:=List.mem_map.1 (List.contains_iff_mem.1 hc)
   have:=hF' p.1 p.2 hp
   rw[q] at this
   obtain rfl:=Option.some.inj this
   exact hp
  ·left
   rw[if_neg hc];exact q
end Go.Abs
set_option linter.unusedVariables false
set_option maxRecDepth 20000
set_option maxHeartbeats 0
open Go Go.Abs Go.Proofs Go.Proofs.D
namespace Go.Proofs.D
def leafO(x:Node):Option Nat:=if x.key.sym.term=true then some 0 else none
def stepO(cost:List Nat)(Ns:List Node)(vs:List (Option Nat))(i:Nat):List (Option Nat):=match Ns[i]? with
 | some x=>if x.key.sym.term=true then vs else vs.set i (nodeO cost vs x)
 | none=>vs
def roundToO(cost:List Nat)(Ns:List Node)(vs:List (Option Nat)):Nat→List (Option Nat)
 | 0=>vs
 | i+1=>stepO cost Ns (roundToO cost Ns vs i) i
def startO(Ns:List Node):List (Option Nat):=Ns.map leafO
def valsO(cost:List Nat)(Ns:List Node):Nat→List (Option Nat)
 | 0=>startO Ns
 | k+1=>roundToO cost Ns (valsO cost Ns k) Ns.length
theorem stepO_len{cost:List Nat}{Ns:List Node}{vs:List (Option Nat)}{i:Nat}:(stepO cost Ns vs i).length=vs.length:=by
 unfold stepO
 split
 ·split<;>simp
 ·rfl
theorem roundToO_len{cost:List Nat}{Ns:List Node}{vs:List (Option Nat)}:∀(i:Nat),(roundToO cost Ns vs i).length=vs.length
 | 0=>rfl
 | i+1=>by show (stepO cost Ns _ i).length=_;rw[stepO_len,roundToO_len i]
theorem valsO_len{cost:List Nat}{Ns:List Node}:∀(k:Nat),(valsO cost Ns k).length=Ns.length
 | 0=>by simp[valsO,startO]
 | k+1=>by show (roundToO cost Ns _ _).length=_;rw[roundToO_len,valsO_len k]
structure RoundO(cost:List Nat)(Ns:List Node)(vs:List (Option Nat))(i:Nat)(cur:List (Option Nat))(ch:Bool):Prop where
 is:cur=roundToO cost Ns vs i
 same:ch=false→cur=vs
 diff:ch=true→∃j,j<i∧cur[j]?≠vs[j]?
theorem RoundO.stay{cost:List Nat}{Ns:List Node}{vs cur:List (Option Nat)}{i:Nat}{ch:Bool}(h:RoundO cost Ns vs i cur ch){x:Node}(hx:Ns[i]?=some x)(ht:x.key.sym.term=true):RoundO cost Ns vs (i+1) cur ch where
 is:=by show cur=stepO cost Ns _ i;unfold stepO;rw[hx];simp only;rw[if_pos ht];exact h.is
 same:=h.same
 diff:=fun e=>by obtain⟨j,h1,h2⟩:=h.diff e;exact⟨j,by omega,h2⟩
theorem RoundO.put{cost:List Nat}{Ns:List Node}{vs cur:List (Option Nat)}{i:Nat}{ch:Bool}(h:RoundO cost Ns vs i cur ch){x:Node}(hx:Ns[i]?=some x)(ht:x.key.sym.term=false){z:Option Nat}(hz:cur[i]?=some z):RoundO cost Ns vs (i+1) (cur.set i (nodeO cost cur x)) (ch||!decide (nodeO cost cur x=z)) where
 is:=by show _=stepO cost Ns _ i;unfold stepO;rw[hx];simp only;rw[if_neg (by simp[ht]),←h.is]
 same:=fun e=>by
  simp only[Bool.or_eq_false_iff,Bool.not_eq_false',decide_eq_true_eq] at e
  rw[←h.same e.1,e.2]
  refine List.ext_getElem? fun j=>?_
  by_cases hj:j=i
  ·subst hj;rw[List.getElem?_set_self (gS hz).1,hz]
  ·rw[List.getElem?_set_ne (Ne.symm hj)]
 diff:=fun e=>by
  have hlt:=(gS hz).1
  cases ch with
  | true=>
   obtain⟨j,h1,h2⟩:=h.diff rfl
   exact⟨j,by omega,by rw[List.getElem?_set_ne zo];exact h2⟩
  | false=>
   simp only[Bool.false_or,Bool.not_eq_true',decide_eq_false_iff_not] at e
   refine⟨i,by omega,?_⟩
   rw[List.getElem?_set_self hlt,←h.same rfl,hz]
   intro h3;exact e (Option.some.inj h3)
structure OutC(F:Frz)(cs:List Value)(vs:List (Option Nat)):Prop where
 len:cs.length=vs.length
 at_:∀(j:Nat) (u:Option Nat),vs[j]?=some u→∃a n c,cs[j]?=some (.slice a n c)∧Arr tNat F a n c (optL u)
theorem OutC.mono{F G:Frz}{cs:List Value}{vs:List (Option Nat)}(h:OutC F cs vs)(hF:Frz.le F G):OutC G cs vs:=
 ⟨h.len,fun j u hu=>by obtain⟨a,n,c,h1,h2⟩:=h.at_ j u hu;exact⟨a,n,c,h1,h2.mono hF⟩⟩
theorem OutC.set{F:Frz}{cs:List Value}{vs:List (Option Nat)}(h:OutC F cs vs){i:Nat}{u:Option Nat}{a:Option Addr}{n c:Nat}(hu:Arr tNat F a n c (optL u)):OutC F (cs.set i (.slice a n c)) (vs.set i u) where
 len:=by simp[h.len]
 at_:=fun j y hy=>by
  by_cases e:j=i
  ·subst e
   have hl:j<vs.length:=by have:=(gS hy).1;simpa using this
   rw[List.getElem?_set_self hl] at hy
   cases hy
   exact⟨a,n,c,by rw[List.getElem?_set_self (by rw[h.len];exact hl)],hu⟩
  ·rw[List.getElem?_set_ne (Ne.symm e)] at hy ⊢
   exact h.at_ j y hy
theorem OutC.arr{F:Frz}{cs:List Value}{vs:List (Option Nat)}(h:OutC F cs vs){i n c:Nat}(hi:F i=some (.cells false cs))(hn:vs.length=n)(hc:c=if n=0 then 0 else 1):Arr (tList tNat) F (some ⟨i,0,none⟩) n c (vs.map optL) where
 len:=by simp[hn]
 cap:=by rw[hc];split;exact .inl rfl;exact .inr rfl
 zero:=fun e=>by rw[hc] at e;split at e<;>omega
 nil:=fun e=>(by cases e)
 spot:=fun p e=>(by cases e;rfl)
 el:=fun j x hx=>by
  rw[List.getElem?_map] at hx
  cases hu:vs[j]? with
  | none=>rw[hu] at hx;cases hx
  | some u=>
   rw[hu] at hx
   obtain rfl:=Option.some.inj hx
   obtain⟨a,m,d,h1,h2⟩:=h.at_ j u hu
   refine⟨i,0,false,cs,[.slice a m d],rfl,hi,partL_of ?_ rfl,a,m,d,rfl,h2⟩
   obtain⟨h3,h4⟩:=gS h1
   show [_]=(cs.drop (0+j*1)).take 1
   rw[Nat.zero_add,Nat.mul_one,List.drop_eq_getElem_cons h3,h4];rfl
def ValueResO(cost:List Nat)(Ns:List Node)(root:Nat)(F:Frz)(v:Value):Prop:=
 (∃k y a n c,k<200∧valsO cost Ns (k+1)=valsO cost Ns k∧(valsO cost Ns k)[root]?=some y∧v=.tuple ⟨[.slice a n c,.int .i64 0]⟩∧Arr tNat F a n c (optL y))∨
 ((∀k,k<200→valsO cost Ns (k+1)≠valsO cost Ns k)∧v=.tuple ⟨[.slice none 0 0,.int .i64 9]⟩)
structure VaO where
 k:Nat
 vs:List (Option Nat)
 cs:List Value
 ch:Bool
theorem arr_back{F' F2:Frz}{iv:Nat}{cs:List Value}{vs:List (Option Nat)}{G:Frz}(hO:OutC G cs vs)(hF:∀i b,F' i=some b→F2 i=some b∨(i,b)∈[(iv,Blk.cells false cs)]){a:Option Addr}{n c:Nat}{l:List Nat}(h:Arr tNat F' a n c l):Arr tNat F2 a n c l:=
 ⟨h.len,h.cap,h.zero,h.nil,h.spot,fun j x hj=>by
  obtain⟨b,off,ro,ds,q,h1,h2,h3,h4⟩:=h.el j x hj
  have h4:q=[.int .i64 x]:=h4
  rcases hF b _ h2 with h5 | h5
  ·exact⟨b,off,ro,ds,q,h1,h5,h3,h4⟩
  ·exfalso
   simp only[List.mem_cons,List.not_mem_nil,or_false,Prod.mk.injEq,Blk.cells.injEq] at h5
   obtain⟨_,_,rfl⟩:=h5
   obtain⟨e1,e2⟩:=partL_eq h3
   have hm:Value.int .i64 (x:Int)∈ds:=by
    have:Value.int .i64 (x:Int)∈(ds.drop (off+j*tNat.size)).take tNat.size:=by rw[←e1,h4];exact List.mem_cons_self ..
    exact List.mem_of_mem_drop (List.mem_of_mem_take this)
   obtain⟨m,hm1,hm2⟩:=List.getElem_of_mem hm
   obtain⟨u,hu⟩:∃u,vs[m]?=some u:=⟨_,gE (by rw[←hO.len];exact hm1)⟩
   obtain⟨a',n',c',h6,_⟩:=hO.at_ m u hu
   rw[gE hm1,hm2] at h6
   cases h6⟩
theorem value3_spec(F:Frz)(hL:Laid F)(g:Gram)(hg:Valid g){ga:Option Addr}{gm gc:Nat}(hr:Arr tRule F ga gm gc g.rules){w:List Nat}(hw12:w.length≤12)(hw2:∀t∈w,t<g.terms)
  {fa:Option Addr} {fn fc:Nat} {fr:Int} (hf:FV g w F fa fn fc fr) {ik ic:Nat} {ca:Option Addr} {cn cc:Nat} {cost:List Nat} (hC:LeastC F ik ic ca cn cc cost) (hcm:∀y∈cost,y≤1000) (hcl:cost.length=g.rules.length) {oa:Option Addr} {on oc:Nat} (hone:Arr tNat F oa on oc [0])
  (hsm:∀E S,EndsOf g w E→Keys g w E (rootKey g w) S→stepB w E ⟨false,g.start⟩ 0 w.length=true→∀k i y,some y∈roundToO cost (S.map (mkNode g w E S)) (valsO cost (S.map (mkNode g w E S)) k) i→y≤1000000) :
  Abs.Spec CC 87 [.agg ⟨gramCells g ga gm gc⟩,.agg ⟨[.slice fa fn fc,.int .i64 fr]⟩,.agg ⟨ringL ik oa on oc⟩,.func (.func 88) ⟨[]⟩ ⟨[.pointer (some ⟨ic,0,none⟩)]⟩] F [] fun F' v o=>o=[]∧∃E,EndsOf g w E∧
   ((stepB w E ⟨false,g.start⟩ 0 w.length=false∧v=.tuple ⟨[.slice none 0 0,.int .i64 0]⟩)∨
    (stepB w E ⟨false,g.start⟩ 0 w.length=true∧∃S,Keys g w E (rootKey g w) S∧ValueResO cost (S.map (mkNode g w E S)) (place S (rootKey g w)) F' v)):=by
 obtain⟨E,hE,hV⟩:=hf.cases
 have hcs:=fcount_spec F hL g hg hr hw12 hw2 hf
 unfold gramCells at hcs ⊢
 unfold ringL
 refine Abs.Spec.fn (n:=106) Tryz.func87 rfl rfl fun own=>?_
 refine AW.seq (AW.reg ?_)
 refine WT.boxT Z Z Z Z Z Z (fun i4 hi4=>?_)
 refine WT.boxT Z Z Z Z Z Z (fun i5 hi5=>?_)
 refine WT.boxT Z Z Z Z Z Z (fun i6 hi6=>?_)
 refine zB7 ?_
 refine WT.callV Tryz.func16 Z Z Z Z Z Z hcs (fun v hv=>?_)
 obtain⟨c,rfl,hc⟩:=hv
 refine zB7 ?_
 refine AW.cond Z (fun h=>(by cases h)) (fun _=>?_)
 rcases hV with ⟨hst,hv⟩ | ⟨hst,S,sa,sn,sc,hv,hK,hN⟩
 ·cases hv
  refine zB7 ?_
  refine AW.cond Z (fun _=>?_) (fun h=>(by cases h))
  refine zB7 ?_
  exact AW.ret ⟨_,[],⟨_,_,rfl,⟨_,_,rfl,rfl,rfl⟩,rfl⟩,zsb,rfl,E,hE,.inl ⟨hst,rfl⟩⟩
 ·cases hv
  have hok:=nodes_ok hg hw12 hK (root_good hg w)
  have hNl:=hN.len
  have hfew:=hok.few
  have hpk:∀x∈S.map (mkNode g w E S),∀p∈x.packs,p.rule<cost.length∧p.kids.length≤1000:=by
   intro x hx p hp
   obtain⟨k,hk,rfl⟩:=List.mem_map.1 hx
   obtain⟨kp,hkp,rfl⟩:=List.mem_map.1 hp
   obtain⟨q,h1,h2,h3,h4⟩:=mem_packsOf.1 hkp
   have h5:=splits_kids h4
   have h6:=(hg.right q (gM h1)).2.1
   exact⟨by rw[hcl];exact(gS h1).1,by show (kp.kids.map _).length≤1000;rw[List.length_map];omega⟩
  have hsm:=hsm E S hE hK hst
  generalize hNs:S.map (mkNode g w E S)=Ns at *
  refine zB7 ?_
  refine AW.cond Z (fun h=>(by simp at h;omega)) (fun _=>?_)
  refine zB7 ?_
  refine WT.makeT (l:=fn) hT Z Z Z Z Z Z Z Z Z Z Z Z zom (fun iv hiv=>?_)
  rw[cap_eq]
  refine zB7 ?_
  refine AW.range (S:=VaO) (fun _=>[]) (fun s=>[(iv,.cells false s.cs)]::[(i6,.cells false (ringL ik oa on oc))]::[(i5,.cells false [.slice fa fn fc,.int .i64 (place S (rootKey g w):Nat)])]::[(i4,.cells false [.int .i64 g.terms,.int .i64 g.nons,.int .i64 g.start,.slice ga gm gc])]::own)
   (fun j s G=>OutC G s.cs s.vs∧s.vs.length=fn∧∀i x,i<j→Ns[i]?=some x→s.vs[i]?=some (leafO x)) fn ⟨0,List.replicate fn none,List.replicate fn (.slice none 0 0),false⟩
   Z Z Z Z Z Z Z Z Z zo rfl rfl (fun _=>rfl) (fun _=>rfl) sM oR ⟨⟨by simp,fun j u hu=>?_⟩,by simp,fun i x h=>by omega⟩ ?_ ?_
  ·have h1:=List.eq_of_mem_replicate (gM hu)
   have h2:j<fn:=by have:=(gS hu).1;simpa using this
   subst h1
   exact⟨none,0,0,by rw[List.getElem?_replicate,if_pos h2],Arr.nil_ _ _⟩
  ·intro j s F1 hF1 hj hP
   obtain⟨sk,vs,cs,sch⟩:=s
   have hP:OutC F1 cs vs∧vs.length=fn∧∀i x,i<j→Ns[i]?=some x→vs[i]?=some (leafO x):=hP
   obtain⟨hO,hvl,hvs⟩:=hP
   have hol:=hO.len
   have hN1:=hN.mono hF1
   have hone1:=hone.mono hF1
   unfold ringL
   refine zB7 ?_
   refine WT.idxL hT hN1 Z Z Z Z Z Z Z Z Z zo (fun x hxj b5 off5 ro5 cs5 lx5 hb5 hp5 hrel5=>?_)
   obtain⟨pa,pn,pc,rfl,hpa⟩:=hrel5
   refine zB7 ?_
   refine WT.allocT hT Z Z Z Z Z Z (fun i15 hi15=>?_)
   refine zB7 ?_
   refine WT.idxA (j:=j) (s:=1) hT Z Z Z Z Z Z Z Z Z zo ?_
   refine WT.storeAt hT 1 0 Z Z Z Z Z Z Z Z Z Z (by show 0+j*1<cs.length;omega) Z Z ?_
   rw[show 0+j*1=j by omega]
   refine zB7 ?_
   refine AW.cond Z (fun ht=>?_) (fun ht=>?_)
   ·refine zB7 ?_
    refine WT.idxA (j:=j) (s:=1) hT Z Z Z Z Z Z Z Z Z zo ?_
    refine WT.storeAt hT 1 0 Z Z Z Z Z Z Z Z Z Z (by simp;omega) Z Z ?_
    rw[show 0+j*1=j by omega]
    refine zB7 ?_
    refine⟨⟨0,(vs.set j none).set j (some 0),(cs.set j (.slice none 0 0)).set j (.slice oa on oc),false⟩,sM,zow,(hO.set (Arr.nil_ _ _)).set hone1,by simp[hvl],fun i y h hy=>?_⟩
    by_cases e:i=j
    ·subst e
     obtain rfl:x=y:=by rw[hxj] at hy;exact Option.some.inj hy
     show ((vs.set i none).set i (some 0))[i]?=_
     rw[List.getElem?_set_self (by simp;omega)]
     unfold leafO
     rw[if_pos ht]
    ·show ((vs.set j none).set j (some 0))[i]?=_
     rw[List.getElem?_set_ne (Ne.symm e),List.getElem?_set_ne (Ne.symm e)]
     exact hvs i y zo hy
   ·refine zB7 ?_
    refine⟨⟨0,vs.set j none,cs.set j (.slice none 0 0),false⟩,sM,zow,hO.set (Arr.nil_ _ _),by simp[hvl],fun i y h hy=>?_⟩
    by_cases e:i=j
    ·subst e
     obtain rfl:x=y:=by rw[hxj] at hy;exact Option.some.inj hy
     show (vs.set i none)[i]?=_
     rw[List.getElem?_set_self zo]
     unfold leafO
     rw[if_neg (by simpa using ht)]
    ·show (vs.set j none)[i]?=_
     rw[List.getElem?_set_ne (Ne.symm e)]
     exact hvs i y zo hy
  ·intro s F1 hF1 hP
   obtain⟨sk,vs,cs,sch⟩:=s
   have hP:OutC F1 cs vs∧vs.length=fn∧∀i x,i<fn→Ns[i]?=some x→vs[i]?=some (leafO x):=hP
   obtain⟨hO,hvl,hvs⟩:=hP
   have hN1:=hN.mono hF1
   obtain rfl:vs=startO Ns:=by
    refine List.ext_getElem? fun i=>?_
    rcases Nat.lt_or_ge i fn with h | h
    ·obtain⟨x,hx⟩:∃x,Ns[i]?=some x:=⟨_,gE zo⟩
     rw[hvs i x h hx]
     unfold startO
     rw[List.getElem?_map,hx];rfl
    ·rw[List.getElem?_eq_none_iff.2 zo,List.getElem?_eq_none_iff.2 (by unfold startO;simp;omega)]
   refine zB7 ?_
   refine AW.block ?_
   refine AW.loopR (S:=VaO) (fun s=>[(61,ci s.k)]) (fun s=>[(iv,.cells false s.cs)]::[(i6,.cells false (ringL ik oa on oc))]::[(i5,.cells false [.slice fa fn fc,.int .i64 (place S (rootKey g w):Nat)])]::[(i4,.cells false [.int .i64 g.terms,.int .i64 g.nons,.int .i64 g.start,.slice ga gm gc])]::own)
    (fun s G=>OutC G s.cs s.vs∧s.vs=valsO cost Ns s.k∧s.k≤200∧∀k,k<s.k→valsO cost Ns (k+1)≠valsO cost Ns k) (fun s=>200-s.k) ⟨0,startO Ns,cs,false⟩ sM oR ⟨hO,rfl,by show 0≤200;omega,fun k h=>absurd h (Nat.not_lt_zero k)⟩ ?_
   intro s F2 hF2 hP2
   obtain⟨sk,vs,cs,sch⟩:=s
   have hP2:OutC F2 cs vs∧vs=valsO cost Ns sk∧sk≤200∧∀k,k<sk→valsO cost Ns (k+1)≠valsO cost Ns k:=hP2
   obtain⟨hO2,hsv,hsk,hsd⟩:=hP2
   have hsl:vs.length=fn:=by rw[hsv,valsO_len];omega
   have hN2:=hN1.mono hF2
   have hF02:=hF1.trans hF2
   unfold ringL
   refine zB7 ?_
   refine AW.cond Z (fun hk=>?_) (fun hk=>?_)
   ·have hk:sk<200:=by simp at hk;omega
    refine zB7 ?_
    refine AW.block ?_
    refine zB7 ?_
    refine AW.range (S:=VaO) (fun t=>[(16,.bool t.ch)]) (fun t=>[(iv,.cells false t.cs)]::[(i6,.cells false (ringL ik oa on oc))]::[(i5,.cells false [.slice fa fn fc,.int .i64 (place S (rootKey g w):Nat)])]::[(i4,.cells false [.int .i64 g.terms,.int .i64 g.nons,.int .i64 g.start,.slice ga gm gc])]::own)
     (fun j t G=>OutC G t.cs t.vs∧RoundO cost Ns vs j t.vs t.ch) fn ⟨0,vs,cs,false⟩
     Z Z Z Z Z Z Z Z Z zo rfl rfl (fun _=>rfl) (fun _=>rfl) sM oR ⟨hO2,rfl,fun _=>rfl,fun h=>(by cases h)⟩ ?_ ?_
    ·intro j t F3 hF3 hj hP3
     obtain⟨tk,us,ds,ch⟩:=t
     have hP3:OutC F3 ds us∧RoundO cost Ns vs j us ch:=hP3
     obtain⟨hO3,hRS⟩:=hP3
     have hul:us.length=fn:=by rw[hRS.is,roundToO_len,hsl]
     have hdl:=hO3.len
     have hN3:=hN2.mono hF3
     have hF03:=hF02.trans hF3
     have husm:∀y,some y∈us→y≤1000000:=fun y hy=>hsm sk j y (by rw[←hsv,←hRS.is];exact hy)
     unfold ringL
     refine zB7 ?_
     refine WT.idxL hT hN3 Z Z Z Z Z Z Z Z Z zo (fun x hxj b5 off5 ro5 cs5 lx5 hb5 hp5 hrel5=>?_)
     obtain⟨pa,pn,pc,rfl,hpa⟩:=hrel5
     have hpal:=hpa.len
     have hpk':=hok.packs x (gM hxj)
     obtain⟨z,hz⟩:∃z,us[j]?=some z:=⟨_,gE zo⟩
     refine zB7 ?_
     refine WT.allocT hT Z Z Z Z Z Z (fun i18 hi18=>?_)
     refine zB7 ?_
     refine AW.cond Z (fun ht=>?_) (fun ht=>?_)
     ·refine AW.exit ?_
      skip
      exact⟨⟨tk,us,ds,ch⟩,sM,zow,hO3,hRS.stay hxj ht⟩
     ·have ht:x.key.sym.term=false:=by simpa using ht
      refine zB7 ?_
      have nspec:=Spec.lendBF (B:=[(iv,Blk.cells false ds)]) fun G hG hBG=>
       node3_spec G (hC.mono (hF03.trans hG)) hcm (oa:=oa) (on:=on) (oc:=oc) (hpa.mono hG) zo ((hO3.mono hG).arr (hBG iv _ me) hul rfl) husm (fun p hp=>⟨(hpk x (gM hxj) p hp).1,(hpk x (gM hxj) p hp).2,fun k hk=>by rw[hul,hNl];exact hok.kid k j ⟨x,p,hxj,hp,hk⟩⟩)
      unfold nodeCells ringL at nspec
      refine WT.call1F 1 Tryz.func115 Z Z Z Z Z Z Z (fun _=>rfl) nspec (fun F4 v B4 hF4 hv=>?_)
      obtain⟨rfl,F',⟨ra,rn,rc,rfl,hr⟩,hback⟩:=hv
      have hres:=arr_back (hO3) hback hr
      have hO4:=hO3.mono hF4
      cases ch with
      | true=>
       refine zB7 ?_
       refine WT.idxA (j:=j) (s:=1) hT Z Z Z Z Z Z Z Z Z zo ?_
       refine WT.storeAt hT 1 0 Z Z Z Z Z Z Z Z Z Z (by show 0+j*1<ds.length;omega) Z Z ?_
       rw[show 0+j*1=j by omega]
       refine zB7 ?_
       exact⟨⟨tk,us.set j (nodeO cost us x),ds.set j (.slice ra rn rc),true⟩,sM,zow,hO4.set hres,hRS.put hxj ht hz⟩
      | false=>
       obtain⟨za,zn,zc,hzc,hza⟩:=hO4.at_ j z hz
       refine zB7 ?_
       refine WT.idxA (j:=j) (s:=1) hT Z Z Z Z Z Z Z Z Z zo ?_
       refine WT.loadAt hT 1 Z Z Z Z Z Z me Z Z (by rw[show 0+j*1=j by omega];exact hzc) ?_
       skip
       refine WT.callC Tryz.func82 Z Z Z Z Z Z Z Z (lsame_spec _ hres hza) (fun v hv=>?_)
       subst hv
       refine zB7 ?_
       refine WT.idxA (j:=j) (s:=1) hT Z Z Z Z Z Z Z Z Z zo ?_
       refine WT.storeAt hT 1 0 Z Z Z Z Z Z Z Z Z Z (by show 0+j*1<ds.length;omega) Z Z ?_
       rw[show 0+j*1=j by omega]
       refine zB7 ?_
       exact⟨⟨tk,us.set j (nodeO cost us x),ds.set j (.slice ra rn rc),!decide (nodeO cost us x=z)⟩,sM,zow,hO4.set hres,by have:=hRS.put hxj ht hz;rwa [Bool.false_or] at this⟩
    ·intro t F3 hF3 hP3
     obtain⟨tk,us,ds,ch⟩:=t
     have hP3:OutC F3 ds us∧RoundO cost Ns vs fn us ch:=hP3
     obtain⟨hO3,hRS⟩:=hP3
     have hul:us.length=fn:=by rw[hRS.is,roundToO_len,hsl]
     have hnext:us=valsO cost Ns (sk+1):=by rw[hRS.is,hsv,hNl];rfl
     unfold ringL
     cases ch with
     | false=>
      have hsame:=hRS.same rfl
      refine zB7 ?_
      refine AW.cond Z (fun _=>?_) (fun h=>(by cases h))
      have hpl:place S (rootKey g w)<fn:=by
       have:=(gS (place_at hK.first)).1
       have e:Ns.length=S.length:=by rw[←hNs,List.length_map]
       omega
      obtain⟨y,hy⟩:∃y,us[place S (rootKey g w)]?=some y:=⟨_,gE zo⟩
      obtain⟨ya,yn,yc,hyc,hya⟩:=hO3.at_ _ y hy
      refine zB7 ?_
      refine WT.idxA (j:=place S (rootKey g w)) (s:=1) hT Z Z Z Z Z Z Z Z Z zo ?_
      refine WT.loadAt hT 0 Z Z Z Z Z Z me Z Z (by rw[Nat.zero_add,Nat.mul_one];exact hyc) ?_
      refine zB7 ?_
      refine AW.ret ⟨_,[],⟨_,_,rfl,⟨_,_,rfl,rfl,rfl⟩,rfl⟩,zsb,rfl,E,hE,.inr ⟨hst,S,hK,?_⟩⟩
      rw[hNs]
      exact .inl ⟨sk,y,_,_,_,hk,by rw[←hnext,←hsv];exact hsame,by rw[←hsv,←hsame];exact hy,rfl,hya⟩
     | true=>
      obtain⟨q,hq,hqd⟩:=hRS.diff rfl
      refine zB7 ?_
      refine AW.cond Z (fun h=>(by cases h)) (fun _=>?_)
      refine zB7 ?_
      refine⟨⟨sk+1,us,ds,false⟩,(by show 200-(sk+1)<200-sk;omega),sM,zow,hO3,hnext,hk,fun k h=>?_⟩
      rcases Nat.lt_or_ge k sk with h1 | h1
      ·exact hsd k h1
      ·obtain rfl:k=sk:=by have:k<sk+1:=h;omega
       rw[←hnext,←hsv]
       intro e;rw[e] at hqd;exact hqd rfl
   ·have hk:sk=200:=by simp at hk;omega
    skip
    refine AW.exit ?_
    refine zB7 ?_
    refine AW.ret ⟨_,[],⟨_,_,rfl,⟨_,_,rfl,rfl,rfl⟩,rfl⟩,zsb,rfl,E,hE,.inr ⟨hst,S,hK,?_⟩⟩
    rw[hNs]
    exact .inr ⟨fun k h=>hsd k zo,rfl⟩
theorem lbad_spec(F:Frz)(c:Nat)(hc:c≤1000):Abs.Spec CC 81 [ci c] F [] fun _ v o=>o=[]∧v=.bool ((fun c=>decide (1000<c)) c):=by
 refine Abs.Spec.fn (n:=9) Tryz.func81 rfl rfl fun own=>?_
 have h0:decide ((c:Int)<0)=false:=decide_eq_false zo
 refine zB4 ?_
 refine AW.ret ⟨_,[],⟨_,_,rfl,rfl,rfl⟩,zsb,rfl,?_⟩
 show Value.bool (decide ((c:Int) > 1000))=Value.bool (decide (1000<c))
 rw[decide_eq_false zo,decide_eq_false zo]
def BestRes(g:Gram)(w:List Nat)(cost:List Nat)(F:Frz)(v:Value):Prop:=∃E,EndsOf g w E∧
 ((stepB w E ⟨false,g.start⟩ 0 w.length=false∧∃a n c,v=.tuple ⟨[.slice a n c,.int .i64 0]⟩∧Arr tNat F a n c [])∨
  (stepB w E ⟨false,g.start⟩ 0 w.length=true∧∃S,Keys g w E (rootKey g w) S∧ValueResO cost (S.map (mkNode g w E S)) (place S (rootKey g w)) F v))
theorem best_spec(F:Frz)(hL:Laid F)(g:Gram)(hg:Valid g){ga:Option Addr}{gm gc:Nat}(hr:Arr tRule F ga gm gc g.rules){w:List Nat}(hw12:w.length≤12)(hw2:∀t∈w,t<g.terms)
  {fa:Option Addr} {fn fc:Nat} {fr:Int} (hf:FV g w F fa fn fc fr) {ca:Option Addr} {cn cc:Nat} {cost:List Nat} (hc:Arr tNat F ca cn cc cost) (hcm:∀y∈cost,y≤1000) (hcl:cost.length=g.rules.length)
  (hsm:∀E S,EndsOf g w E→Keys g w E (rootKey g w) S→stepB w E ⟨false,g.start⟩ 0 w.length=true→∀k i y,some y∈roundToO cost (S.map (mkNode g w E S)) (valsO cost (S.map (mkNode g w E S)) k) i→y≤1000000) :
  Abs.Spec CC 60 [.agg ⟨gramCells g ga gm gc⟩,.agg ⟨[.slice fa fn fc,.int .i64 fr]⟩,.slice ca cn cc,.int .i64 1] F [] fun F' v o=>o=[]∧BestRes g w cost F' v:=by
 have hcs:=fcount_spec F hL g hg hr hw12 hw2 hf
 have hcln:=hc.len
 have hrl:=hr.len
 have hgr:=hg.range.rules
 unfold gramCells at hcs ⊢
 refine Abs.Spec.fn (n:=63) Tryz.func60 rfl rfl fun own=>?_
 refine AW.seq (AW.reg ?_)
 refine WT.boxT Z Z Z Z Z Z (fun i4 hi4=>?_)
 refine WT.boxT Z Z Z Z Z Z (fun i5 hi5=>?_)
 refine WT.boxT Z Z Z Z Z Z (fun i6 hi6=>?_)
 refine WT.boxT Z Z Z Z Z Z (fun i7 hi7=>?_)
 refine zB7 ?_
 refine WT.callV Tryz.func16 Z Z Z Z Z Z hcs (fun v hv=>?_)
 obtain⟨c,rfl,_⟩:=hv
 refine zB7 ?_
 refine AW.cond Z (fun h=>(by cases h)) (fun _=>?_)
 refine zB7 ?_
 refine WT.callV Tryz.func80 Z Z Z Z Z Z (numAny_spec _ hc zo (fun c=>decide (1000<c)) (first:=[]) (capt:=[]) Tryz.func81 Z (fun x hx=>lbad_spec _ x (hcm x hx))) (fun v hv=>?_)
 rw[show cost.any (fun c=>decide (1000<c))=false by simp only[List.any_eq_false,decide_eq_true_eq];exact fun x hx=>by have:=hcm x hx;omega] at hv
 subst hv
 obtain rfl:cn=gm:=by omega
 refine zB7 ?_
 refine WT.know (v':=.bool false) 33 Z (by congr 1;simp) ?_
 refine zB7 ?_
 refine AW.cond Z (fun h=>(by cases h)) (fun _=>?_)
 refine zB7 ?_
 refine WT.buildT hT Z Z Z Z Z Z Z Z Z Z Z Z Z Z (fun i44 hi44=>?_)
 refine WT.freezeAll 0 Z Z (fun F1 hF1 hB1=>?_)
 have h44:Arr tNat F1 (some ⟨i44,0,none⟩) 1 1 [0]:=arr_ci (hB1 i44 _ me) rfl rfl
 refine zB7 ?_
 refine WT.allocT hT Z Z Z Z Z Z (fun i13 hi13=>?_)
 refine zB7 ?_
 refine WT.freezeAll 2 Z Z (fun F2 hF2 hB2=>?_)
 refine WT.freezeAll 3 Z Z (fun F3 hF3 hB3=>?_)
 have hF13:=(hF1.trans hF2).trans hF3
 have hC:LeastC F3 i7 i6 ca cn cc cost:=⟨hF3 _ _ (hB2 i7 _ me),hB3 i6 _ me,hc.mono hF13⟩
 have hvs:=value3_spec F3 (hL.mono hF13) g hg (hr.mono hF13) hw12 hw2 (hf.mono hF13) hC hcm hcl ((h44.mono hF2).mono hF3) hsm
 unfold gramCells ringL at hvs
 refine WT.callF0 Tryz.func87 Z Z Z Z Z Z hvs (fun F4 v hF4 hv=>?_)
 obtain⟨E,hE,hv⟩:=hv
 rcases hv with ⟨hst,rfl⟩ | ⟨hst,S,hK,⟨k,y,ya,yn,yc,h1,h2,h3,rfl,hy⟩ | ⟨h1,rfl⟩⟩
 ·refine zB7 ?_
  refine AW.cond Z (fun h=>(by cases h)) (fun _=>?_)
  refine zB7 ?_
  refine WT.callN Tryz.func89 Z Z Z Z Z Z (numClone_spec F4 (Arr.nil_ _ _) (by decide)) (fun F5 v B5 hF5 hv=>?_)
  obtain⟨da,dc,rfl,hd⟩:=hv
  refine WT.freezeAll 0 Z Z (fun F6 hF6 hB6=>?_)
  have harr:=hd.arr hF6 hB6
  refine zB7 ?_
  exact AW.ret ⟨_,[],⟨_,_,rfl,⟨_,_,rfl,rfl,rfl⟩,rfl⟩,zsb,rfl,E,hE,.inl ⟨hst,_,_,_,rfl,harr⟩⟩
 ·refine zB7 ?_
  refine AW.cond Z (fun h=>(by cases h)) (fun _=>?_)
  refine zB7 ?_
  have hyl:=hy.len
  have hy1:=optL_len y
  refine WT.callN Tryz.func89 Z Z Z Z Z Z (numClone_spec F4 hy zo) (fun F5 v B5 hF5 hv=>?_)
  obtain⟨da,dc,rfl,hd⟩:=hv
  refine WT.freezeAll 0 Z Z (fun F6 hF6 hB6=>?_)
  have harr:=hd.arr hF6 hB6
  refine zB7 ?_
  exact AW.ret ⟨_,[],⟨_,_,rfl,⟨_,_,rfl,rfl,rfl⟩,rfl⟩,zsb,rfl,E,hE,.inr ⟨hst,S,hK,.inl ⟨k,y,_,_,_,h1,h2,h3,rfl,harr⟩⟩⟩
 ·refine zB7 ?_
  refine AW.cond Z (fun _=>?_) (fun h=>(by cases h))
  refine zB7 ?_
  refine AW.ret ⟨_,[],⟨_,_,rfl,⟨_,_,rfl,rfl,rfl⟩,rfl⟩,zsb,rfl,E,hE,.inr ⟨hst,S,hK,.inr ⟨h1,rfl⟩⟩⟩
def LeastRes(g:Gram)(w:List Nat)(cost:List Nat)(v:Value):Prop:=∃E,EndsOf g w E∧
 ((stepB w E ⟨false,g.start⟩ 0 w.length=false∧v=.tuple ⟨[ci 0,.int .i64 5]⟩)∨
  (stepB w E ⟨false,g.start⟩ 0 w.length=true∧∃S,Keys g w E (rootKey g w) S∧
    ((∃k y,k<200∧valsO cost (S.map (mkNode g w E S)) (k+1)=valsO cost (S.map (mkNode g w E S)) k∧(valsO cost (S.map (mkNode g w E S)) k)[place S (rootKey g w)]?=some y∧v=(match y with | some z=>.tuple ⟨[ci z,.int .i64 0]⟩ | none=>.tuple ⟨[ci 0,.int .i64 5]⟩))∨
     ((∀k,k<200→valsO cost (S.map (mkNode g w E S)) (k+1)≠valsO cost (S.map (mkNode g w E S)) k)∧v=.tuple ⟨[ci 0,.int .i64 9]⟩))))
theorem least_spec(F:Frz)(hL:Laid F)(g:Gram)(hg:Valid g){ga:Option Addr}{gm gc:Nat}(hr:Arr tRule F ga gm gc g.rules){w:List Nat}(hw12:w.length≤12)(hw2:∀t∈w,t<g.terms)
  {fa:Option Addr} {fn fc:Nat} {fr:Int} (hf:FV g w F fa fn fc fr) {ca:Option Addr} {cn cc:Nat} {cost:List Nat} (hc:Arr tNat F ca cn cc cost) (hcm:∀y∈cost,y≤1000) (hcl:cost.length=g.rules.length)
  (hsm:∀E S,EndsOf g w E→Keys g w E (rootKey g w) S→stepB w E ⟨false,g.start⟩ 0 w.length=true→∀k i y,some y∈roundToO cost (S.map (mkNode g w E S)) (valsO cost (S.map (mkNode g w E S)) k) i→y≤1000000) :
  Abs.Spec CC 33 [.agg ⟨gramCells g ga gm gc⟩,.agg ⟨[.slice fa fn fc,.int .i64 fr]⟩,.slice ca cn cc] F [] fun _ v o=>o=[]∧LeastRes g w cost v:=by
 have hbs:=best_spec F hL g hg hr hw12 hw2 hf hc hcm hcl hsm
 unfold gramCells at hbs ⊢
 refine Abs.Spec.fn (n:=26) Tryz.func33 rfl rfl fun own=>?_
 refine AW.seq (AW.reg ?_)
 refine WT.boxT Z Z Z Z Z Z (fun i3 hi3=>?_)
 refine WT.boxT Z Z Z Z Z Z (fun i4 hi4=>?_)
 refine zB7 ?_
 refine WT.callF0 Tryz.func60 Z Z Z Z Z Z hbs (fun F4 v hF4 hv=>?_)
 obtain⟨E,hE,hv⟩:=hv
 rcases hv with ⟨hst,a,n,c,rfl,hn⟩ | ⟨hst,S,hK,⟨k,y,ya,yn,yc,h1,h2,h3,rfl,hy⟩ | ⟨h1,rfl⟩⟩
 ·obtain rfl:n=0:=hn.len
  refine zB7 ?_
  refine AW.cond Z (fun h=>(by cases h)) (fun _=>?_)
  refine zB7 ?_
  refine AW.cond Z (fun _=>?_) (fun h=>(by cases h))
  refine zB7 ?_
  exact AW.ret ⟨_,[],⟨_,_,rfl,⟨_,_,rfl,rfl,rfl⟩,rfl⟩,zsb,rfl,E,hE,.inl ⟨hst,rfl⟩⟩
 ·have hyl:=hy.len
  cases y with
  | none=>
   obtain rfl:yn=0:=hyl
   refine zB7 ?_
   refine AW.cond Z (fun h=>(by cases h)) (fun _=>?_)
   refine zB7 ?_
   refine AW.cond Z (fun _=>?_) (fun h=>(by cases h))
   refine zB7 ?_
   exact AW.ret ⟨_,[],⟨_,_,rfl,⟨_,_,rfl,rfl,rfl⟩,rfl⟩,zsb,rfl,E,hE,.inr ⟨hst,S,hK,.inl ⟨k,none,h1,h2,h3,rfl⟩⟩⟩
  | some z=>
   obtain rfl:yn=1:=hyl
   refine zB7 ?_
   refine AW.cond Z (fun h=>(by cases h)) (fun _=>?_)
   refine zB7 ?_
   refine AW.cond Z (fun h=>(by cases h)) (fun _=>?_)
   refine zB7 ?_
   refine WT.idxL (j:=0) hT hy Z Z Z Z Z Z Z Z Z (by show 0<1;decide) (fun q hq b3 off3 ro3 cs3 lx3 hb3 hp3 hrel3=>?_)
   obtain rfl:lx3=_:=hrel3
   obtain rfl:z=q:=Option.some.inj hq
   refine zB7 ?_
   exact AW.ret ⟨_,[],⟨_,_,rfl,⟨_,_,rfl,rfl,rfl⟩,rfl⟩,zsb,rfl,E,hE,.inr ⟨hst,S,hK,.inl ⟨k,some z,h1,h2,h3,rfl⟩⟩⟩
 ·refine zB7 ?_
  refine AW.cond Z (fun _=>?_) (fun h=>(by cases h))
  refine zB7 ?_
  exact AW.ret ⟨_,[],⟨_,_,rfl,⟨_,_,rfl,rfl,rfl⟩,rfl⟩,zsb,rfl,E,hE,.inr ⟨hst,S,hK,.inr ⟨h1,rfl⟩⟩⟩
def dblG:Gram:=⟨1,1,0,[⟨0,[⟨false,0⟩,⟨false,0⟩]⟩,⟨0,[⟨true,0⟩]⟩]⟩
def dblW:List Nat:=[0,0]
def dblE:List (List Nat):=[[6,4,0]]
def dblS:List Key:=[⟨⟨true,0⟩,0,1⟩,⟨⟨false,0⟩,0,1⟩,⟨⟨false,0⟩,0,2⟩,⟨⟨true,0⟩,1,2⟩,⟨⟨false,0⟩,1,2⟩]
theorem dbl_small:Small dblG where
 terms:=by decide
 nons:=by decide
 start:=by decide
 rules:=by decide
 nodup:=by decide
 ok:=by
  intro r hr
  simp only[dblG,List.mem_cons,List.not_mem_nil,or_false] at hr
  rcases hr with rfl | rfl
  ·refine⟨by decide,by decide,fun y hy=>?_⟩
   simp only[List.mem_cons,List.not_mem_nil,or_false] at hy
   rcases hy with rfl | rfl<;>simp[SymOk,dblG]
  ·refine⟨by decide,by decide,fun y hy=>?_⟩
   simp only[List.mem_cons,List.not_mem_nil,or_false] at hy
   subst hy;simp[SymOk,dblG]
theorem dbl_one{i:Nat}(h:i<2):Der dblG dblW ⟨false,0⟩ i (i+1):=
 .non (r:=⟨0,[⟨true,0⟩]⟩) (by simp[dblG]) (.cons (.term (by match i,h with | 0,_=>rfl | 1,_=>rfl)) .nil)
theorem dbl_two:Der dblG dblW ⟨false,0⟩ 0 2:=
 .non (r:=⟨0,[⟨false,0⟩,⟨false,0⟩]⟩) (by simp[dblG]) (.cons (dbl_one (by decide)) (.cons (dbl_one (i:=1) (by decide)) .nil))
theorem dbl_der{s:Sym}{i j:Nat}(h:Der dblG dblW s i j):i<j∧j≤2∧(s.term=false→s.n=0):=by
 refine Der.rec (motive_1:=fun s i j _=>i<j∧j≤2∧(s.term=false→s.n=0)) (motive_2:=fun l i j _=>(l=[]→i=j)∧(l≠[]→i<j∧j≤2)∧i≤j) ?_ ?_ ?_ ?_ h
 ·intro t i h
  have:=(gS h).1
  have:dblW.length=2:=rfl
  exact⟨by omega,by omega,fun h=>(by cases h)⟩
 ·intro r i j hr _ ih
  simp only[dblG,List.mem_cons,List.not_mem_nil,or_false] at hr
  rcases hr with rfl | rfl
  ·have:=ih.2.1 (by simp);exact⟨this.1,this.2,fun _=>rfl⟩
  ·have:=ih.2.1 (by simp);exact⟨this.1,this.2,fun _=>rfl⟩
 ·intro i;exact⟨fun _=>rfl,fun h=>absurd rfl h,Nat.le_refl _⟩
 ·intro s l i m j _ _ ih1 ih2
  refine⟨fun h=>(by cases h),fun _=>?_,by have:=ih2.2.2;omega⟩
  by_cases hl:l=[]
  ·have:=ih2.1 hl;omega
  ·have:=ih2.2.1 hl;omega
theorem dbl_ends:EndsOf dblG dblW dblE where
 ok:=⟨rfl,by decide,by decide⟩
 iff:=by
  intro n i j hi
  have hi:i≤2:=hi
  constructor
  ·rintro⟨row,x,h1,h2,h3⟩
   have hn:n=0:=by have:=(gS h1).1;have:dblE.length=1:=rfl;omega
   subst hn
   obtain rfl:row=[6,4,0]:=(Option.some.inj h1).symm
   have hj:j<3:=by
    refine testBit_lt (x:=x) ?_ h3
    have:x∈([6,4,0]:List Nat):=gM h2
    simp only[List.mem_cons,List.not_mem_nil,or_false] at this
    rcases this with rfl | rfl | rfl<;>decide
   match i,hi,j,hj with
   | 0,_,0,_=>cases h2;exact absurd h3 (by decide)
   | 0,_,1,_=>exact dbl_one (by decide)
   | 0,_,2,_=>exact dbl_two
   | 1,_,0,_=>cases h2;exact absurd h3 (by decide)
   | 1,_,1,_=>cases h2;exact absurd h3 (by decide)
   | 1,_,2,_=>exact dbl_one (by decide)
   | 2,_,0,_=>cases h2;exact absurd h3 (by decide)
   | 2,_,1,_=>cases h2;exact absurd h3 (by decide)
   | 2,_,2,_=>cases h2;exact absurd h3 (by decide)
  ·intro h
   obtain⟨h1,h2,h3⟩:=dbl_der h
   obtain rfl:n=0:=h3 rfl
   have:(i=0∧j=1)∨(i=0∧j=2)∨(i=1∧j=2):=by omega
   rcases this with ⟨rfl,rfl⟩ | ⟨rfl,rfl⟩ | ⟨rfl,rfl⟩
   ·exact⟨_,_,rfl,rfl,by decide⟩
   ·exact⟨_,_,rfl,rfl,by decide⟩
   ·exact⟨_,_,rfl,rfl,by decide⟩
theorem dbl_sorted:dblS.Pairwise (fun x y=>ltKey x y=true):=by decide
theorem dbl_keys:Keys dblG dblW dblE (rootKey dblG dblW) dblS where
 sorted:=dbl_sorted
 first:=by decide
 closed:=by
  have h:∀k∈dblS,∀p∈packsOf dblG dblW dblE k,∀q∈p.kids,q∈dblS:=by decide
  exact h
 reach:=by
  have r2:Reachable dblG dblW dblE (rootKey dblG dblW) ⟨⟨false,0⟩,0,2⟩:=.root
  have p2:(⟨0,[⟨⟨false,0⟩,0,1⟩,⟨⟨false,0⟩,1,2⟩]⟩:KPack)∈packsOf dblG dblW dblE ⟨⟨false,0⟩,0,2⟩:=by decide
  have r01:=r2.kid p2 (q:=⟨⟨false,0⟩,0,1⟩) (by decide)
  have r12:=r2.kid p2 (q:=⟨⟨false,0⟩,1,2⟩) (by decide)
  have p01:(⟨1,[⟨⟨true,0⟩,0,1⟩]⟩:KPack)∈packsOf dblG dblW dblE ⟨⟨false,0⟩,0,1⟩:=by decide
  have p12:(⟨1,[⟨⟨true,0⟩,1,2⟩]⟩:KPack)∈packsOf dblG dblW dblE ⟨⟨false,0⟩,1,2⟩:=by decide
  have t01:=r01.kid p01 (q:=⟨⟨true,0⟩,0,1⟩) (by decide)
  have t12:=r12.kid p12 (q:=⟨⟨true,0⟩,1,2⟩) (by decide)
  intro k hk
  simp only[dblS,List.mem_cons,List.not_mem_nil,or_false] at hk
  rcases hk with rfl | rfl | rfl | rfl | rfl<;>assumption
def dblN:List Node:=dblS.map (mkNode dblG dblW dblE dblS)
theorem dbl_only{E:List (List Nat)}(hE:EndsOf dblG dblW E){S:List Key}(hK:Keys dblG dblW E (rootKey dblG dblW) S):E=dblE∧S=dblS:=by
 obtain rfl:=ends_uniqT hE dbl_ends
 exact⟨rfl,keys_uniq hK dbl_keys⟩
def dblR(u:Nat):Nat:=[0,1,2,0,1].getD u 0
theorem dbl_kids:∀v:Fin 5,∀p∈(dblN[v.1]?).elim [] (fun x=>x.packs),∀u∈p.kids,dblR u<dblR v.1:=by decide
theorem dbl_kid{u v:Nat}(h:Kid dblN u v):dblR u<dblR v:=by
 obtain⟨x,p,h1,h2,h3⟩:=h
 have hv:v<5:=(gS h1).1
 have h4:=dbl_kids ⟨v,hv⟩ p (by show p∈(dblN[v]?).elim [] _;rw[h1];exact h2) u h3
 exact h4
theorem dbl_path{v u:Nat}(h:Path dblN v u):dblR u<dblR v:=by
 induction h with
 | one k=>exact dbl_kid k
 | step _ k ih=>have:=dbl_kid k;omega
theorem dbl_count:nodeT dblN dblN.length 2=1:=by decide
theorem dbl_root:place dblS (rootKey dblG dblW)=2:=by decide
def dblC:List Nat:=[1,3]
theorem dbl_v01:valsO dblC dblN 1≠valsO dblC dblN 0:=by decide
theorem dbl_v12:valsO dblC dblN 2≠valsO dblC dblN 1:=by decide
theorem dbl_v23:valsO dblC dblN 3=valsO dblC dblN 2:=by decide
theorem dbl_v2:(valsO dblC dblN 2)[2]?=some (some 7):=by decide
theorem dbl_still:∀e,valsO dblC dblN (2+e)=valsO dblC dblN 2
 | 0=>rfl
 | e+1=>by
  show roundToO dblC dblN (valsO dblC dblN (2+e)) dblN.length=_
  rw[dbl_still e]
  exact dbl_v23
theorem dbl_all(k:Nat):∃q:Fin 3,valsO dblC dblN k=valsO dblC dblN q.1:=by
 match k with
 | 0=>exact⟨0,rfl⟩
 | 1=>exact⟨1,rfl⟩
 | e+2=>exact⟨2,by rw[Nat.add_comm];exact dbl_still e⟩
theorem dbl_over(vs:List (Option Nat)):∀e,roundToO dblC dblN vs (5+e)=roundToO dblC dblN vs 5
 | 0=>rfl
 | e+1=>by
  show stepO dblC dblN (roundToO dblC dblN vs (5+e)) (5+e)=_
  rw[dbl_over vs e]
  unfold stepO
  rw[List.getElem?_eq_none_iff.2 (show dblN.length≤5+e by have:dblN.length=5:=rfl;omega)]
theorem dbl_small0:∀q:Fin 3,∀i:Fin 6,∀y∈roundToO dblC dblN (valsO dblC dblN q.1) i.1,y.getD 0≤1000000:=by decide
theorem dbl_sm(k i y:Nat)(h:some y∈roundToO dblC dblN (valsO dblC dblN k) i):y≤1000000:=by
 obtain⟨q,hq⟩:=dbl_all k
 rw[hq] at h
 rcases Nat.lt_or_ge i 6 with hi | hi
 ·exact dbl_small0 q ⟨i,hi⟩ _ h
 ·rw[show i=5+(i-5) by omega,dbl_over] at h
  exact dbl_small0 q ⟨5,by decide⟩ _ h
theorem dbl_least{v:Value}(h:LeastRes dblG dblW dblC v):v=.tuple ⟨[ci 7,.int .i64 0]⟩:=by
 obtain⟨E,hE,h⟩:=h
 obtain rfl:=ends_uniqT hE dbl_ends
 rcases h with ⟨hst,_⟩ | ⟨_,S,hK,h⟩
 ·exact absurd hst (by decide)
 ·obtain rfl:=keys_uniq hK dbl_keys
  rw[dbl_root] at h
  rcases h with ⟨k,y,hk,h1,h2,rfl⟩ | ⟨hno,_⟩
  ·have h1:valsO dblC dblN (k+1)=valsO dblC dblN k:=h1
   have h2:(valsO dblC dblN k)[2]?=some y:=h2
   match k,h1,h2 with
   | 0,h1,_=>exact absurd h1 dbl_v01
   | 1,h1,_=>exact absurd h1 dbl_v12
   | e+2,_,h2=>
    rw[Nat.add_comm,dbl_still e,dbl_v2] at h2
    obtain rfl:=Option.some.inj h2
    rfl
  ·exact absurd dbl_v23 (hno 2 (by decide))
theorem doubling_spec(F:Frz):Abs.Spec CC 57 [] F [] fun F' v o=>o=[]∧∃a c,v=.agg ⟨gramCells dblG a 2 c⟩∧Arr tRule F' a 2 c dblG.rules:=by
 refine Abs.Spec.fn (n:=10) Tryz.func57 rfl rfl fun own=>?_
 refine AW.seq (AW.reg ?_)
 refine WT.allocT hT Z Z Z Z Z Z (fun i0 hi0=>?_)
 refine zB7 ?_
 refine WT.buildT hT Z Z Z Z Z Z Z Z Z Z Z Z Z Z (fun i5 hi5=>?_)
 refine zB7 ?_
 refine WT.buildT hT Z Z Z Z Z Z Z Z Z Z Z Z Z Z (fun i8 hi8=>?_)
 refine zB7 ?_
 refine WT.buildT hT Z Z Z Z Z Z Z Z Z Z Z Z Z Z (fun i10 hi10=>?_)
 refine WT.freezeAll 2 Z Z (fun F1 hF1 hB1=>?_)
 refine WT.freezeAll 1 Z Z (fun F2 hF2 hB2=>?_)
 refine WT.freezeAll 0 Z Z (fun F3 hF3 hB3=>?_)
 have h5:Arr tSym F3 (some ⟨i5,0,none⟩) 2 2 [⟨false,0⟩,⟨false,0⟩]:=(Bld.frozen (F:=F) (B:=[(i5,.cells false [.bool false,.int .i64 0,.bool false,.int .i64 0])]) ⟨rfl,.inr ⟨i5,_,rfl,rfl,rfl,Cells.cons (R:=tSym) (x:=⟨false,0⟩) (l:=[_,_]) rfl (Cells.single (R:=tSym) (x:=⟨false,0⟩) rfl),by decide⟩⟩ hF1 hB1).mono (hF2.trans hF3)
 have h8:Arr tSym F3 (some ⟨i8,0,none⟩) 1 2 [⟨true,0⟩]:=(Bld.frozen (F:=F1) (B:=[(i8,.cells false [.bool true,.int .i64 0])]) ⟨rfl,.inr ⟨i8,_,rfl,rfl,rfl,Cells.single (R:=tSym) (x:=⟨true,0⟩) rfl,by decide⟩⟩ hF2 hB2).mono hF3
 have h10:Arr tRule F3 (some ⟨i10,0,none⟩) 2 2 dblG.rules:=Bld.frozen (F:=F3) (B:=[(i10,.cells false [.int .i64 0,.slice (some ⟨i5,0,none⟩) 2 2,.int .i64 0,.slice (some ⟨i8,0,none⟩) 1 2])]) ⟨rfl,.inr ⟨i10,_,rfl,rfl,rfl,Cells.cons (R:=tRule) (x:=⟨0,[⟨false,0⟩,⟨false,0⟩]⟩) (l:=[_,_]) ⟨_,_,_,rfl,h5⟩ (Cells.single (R:=tRule) (x:=⟨0,[⟨true,0⟩]⟩) ⟨_,_,_,rfl,h8⟩),by decide⟩⟩ (Frz.le.refl _) hB3
 refine zB7 ?_
 exact AW.ret ⟨_,[],⟨_,_,⟨_,rfl,fun G h0 s0=>loadA_cells (s0.has (p:=3) rfl me) (readT_ok hT rfl)⟩,rfl,rfl⟩,zsb,rfl,_,_,rfl,h10⟩
theorem one_spec(F:Frz)(n:Nat):Abs.Spec CC 58 [ci n] F [] fun _ v o=>o=[]∧v=ci 1:=by
 refine Abs.Spec.fn (n:=3) Tryz.func58 rfl rfl fun own=>?_
 refine zB4 ?_
 exact AW.ret ⟨_,[],⟨_,_,rfl,rfl,rfl⟩,zsb,rfl,rfl⟩
def cntRf(gr:Nat):RingI:=⟨54,55,56,gr,[],[],[],[],cntP,cntT,fun _=>1,MAXC⟩
theorem cnt1_spec(F:Frz)(a b:Nat)(ha:a≤MAXC)(hb:b≤MAXC):Abs.Spec CC 54 [ci a,ci b] F [] fun _ v o=>o=[]∧v=ci (cntP a b):=by
 have:MAXC=1000000000:=rfl
 refine Abs.Spec.fn (n:=9) Tryz.func54 rfl rfl fun own=>?_
 refine zB4 ?_
 refine WT.know (v':=.int .i64 ((a+b:Nat):Int)) 7 Z (by congr 1) ?_
 refine WT.minT (x:=a+b) (y:=1000000000) Z Z Z Z Z Z ?_
 refine zB4 ?_
 exact AW.ret ⟨_,[],⟨_,_,rfl,rfl,rfl⟩,zsb,rfl,rfl⟩
theorem cnt2_spec(F:Frz)(a b:Nat)(ha:a≤MAXC)(hb:b≤MAXC):Abs.Spec CC 55 [ci a,ci b] F [] fun _ v o=>o=[]∧v=ci (cntT a b):=by
 have:MAXC=1000000000:=rfl
 have hmm:a*b≤1000000000*1000000000:=Nat.mul_le_mul zo zo
 refine Abs.Spec.fn (n:=9) Tryz.func55 rfl rfl fun own=>?_
 refine zB4 ?_
 refine WT.mulT Z Z Z Z Z Z (by rw[←Int.natCast_mul];omega) ?_
 refine WT.know (v':=.int .i64 ((a*b:Nat):Int)) 7 Z (by congr 1) ?_
 refine WT.minT (x:=a*b) (y:=1000000000) Z Z Z Z Z Z ?_
 refine zB4 ?_
 exact AW.ret ⟨_,[],⟨_,_,rfl,rfl,rfl⟩,zsb,rfl,rfl⟩
theorem cnt3_spec(F:Frz)(a b:Nat):Abs.Spec CC 56 [ci a,ci b] F [] fun _ v o=>o=[]∧v=.bool (decide (a=b)):=by
 refine Abs.Spec.fn (n:=8) Tryz.func56 rfl rfl fun own=>?_
 refine zB4 ?_
 refine AW.ret ⟨_,[],⟨_,_,rfl,rfl,rfl⟩,zsb,rfl,?_⟩
 show Value.bool ((a:Int)==(b:Int))=_
 congr 1
 by_cases h:a=b
 ·subst h;simp
 ·rw[decide_eq_false h]
  have:(a:Int)≠(b:Int):=by omega
  simpa using this
theorem counting_spec(F:Frz):Abs.Spec CC 18 [] F [] fun _ v o=>o=[]∧v=.agg ⟨(cntRf 0).ring⟩:=by
 refine Abs.Spec.fn (n:=2) Tryz.func18 rfl rfl fun own=>?_
 refine AW.seq (AW.reg ?_)
 refine WT.allocT hT Z Z Z Z Z Z (fun i0 hi0=>?_)
 refine zB4 ?_
 exact AW.ret ⟨_,[],⟨_,_,⟨_,rfl,fun G h0 s0=>loadA_cells (s0.has (p:=0) rfl me) (readT_ok hT rfl)⟩,rfl,rfl⟩,zsb,rfl,rfl⟩
theorem cntR_is(gr:Nat):IsCnt (cntRf gr):=⟨rfl,rfl,rfl,rfl⟩
theorem cntR_ok(F:Frz){gr:Nat}(h:HasF gr)(hs:∀n:Nat,Abs.Spec CC gr [ci n] F [] fun _ v o=>o=[]∧v=ci 1):RingOk F (cntRf gr) where
 hp:=⟨_,Tryz.func54,rfl⟩
 ht:=⟨_,Tryz.func55,rfl⟩
 hs:=⟨_,Tryz.func56,rfl⟩
 hr:=h
 P:=fun a b ha hb=>⟨Nat.min_le_right _ _,cnt1_spec F a b ha hb⟩
 T:=fun a b ha hb=>⟨Nat.min_le_right _ _,cnt2_spec F a b ha hb⟩
 S:=fun a b=>cnt3_spec F a b
 R:=fun n=>⟨by show 1≤MAXC;decide,hs n⟩
 one:=by show 1≤MAXC;decide
theorem values_spec(F:Frz)(hL:Laid F):Abs.Spec CC 20 [] F [] fun _ v o=>o=[]∧v=.bool true:=by
 refine Abs.Spec.fn (n:=45) Tryz.func20 rfl rfl fun own=>?_
 refine zB7 ?_
 refine WT.callF0 Tryz.func57 Z Z Z Z Z Z (doubling_spec _) (fun F1 v hF1 hv=>?_)
 obtain⟨ga,gc,rfl,hr⟩:=hv
 skip
 refine WT.buildT hT Z Z Z Z Z Z Z Z Z Z Z Z Z Z (fun i9 hi9=>?_)
 refine WT.freezeAll 0 Z Z (fun F2 hF2 hB2=>?_)
 have hw:Arr tNat F2 (some ⟨i9,0,none⟩) 2 1 dblW:=arr_ci (hB2 i9 _ me) rfl rfl
 have hgv:=dbl_small.valid
 have hw2:∀t∈dblW,t<dblG.terms:=by decide
 have hL2:=(hL.mono hF1).mono hF2
 refine WT.callF0 Tryz.func15 Z Z Z Z Z Z (forestOf_spec _ hL2 dblG hgv (hr.mono hF2) hw (by decide) hw2) (fun F3 v hF3 hv=>?_)
 obtain⟨E,hE,hv⟩:=hv
 obtain⟨fa,fn,fc,fr,rfl,hf⟩:∃fa fn fc fr,v=.tuple ⟨[.agg ⟨[.slice fa fn fc,.int .i64 fr]⟩,.int .i64 0]⟩∧FV dblG dblW F3 fa fn fc fr:=by
  have hv0:=hv
  rcases hv with ⟨s,xa,xn,xc,xr,rfl,rfl,h3,h4⟩ | ⟨_,_,L,h1,h2,h3⟩
  ·exact⟨_,_,_,_,rfl,E,hE,hv0⟩
  ·exfalso
   have:=packs_small dbl_small (by decide) (E:=E) h1 fun k hk=>(h2 k hk).good hgv (root_good hgv dblW)
   omega
 clear hv
 have hL3:=hL2.mono hF3
 refine zB7 ?_
 refine WT.allocT hT Z Z Z Z Z Z (fun i1 hi1=>?_)
 refine zB7 ?_
 refine AW.draw (ps:=[(1,0),(1,2)]) Z Z ?_
 skip
 refine WT.callF0 Tryz.func57 Z Z Z Z Z Z (doubling_spec _) (fun F4 v hF4 hv=>?_)
 obtain⟨ha,hc,rfl,hr4⟩:=hv
 refine zB7 ?_
 refine WT.callV Tryz.func18 Z Z Z Z Z Z (counting_spec _) (fun v hv=>?_)
 subst hv
 have hvs:=value_spec F4 (hL3.mono hF4) dblG hgv hr4 (by decide) hw2 (hf.mono hF4) (cntRf 58) (fun G _=>cntR_ok G ⟨_,Tryz.func58,rfl⟩ (one_spec G))
 skip
 refine WT.callV Tryz.func17 Z Z Z Z Z Z hvs (fun v hv=>?_)
 have hv1:v=.tuple ⟨[ci 1,.int .i64 0]⟩:=by
  obtain⟨E1,hE1,hv⟩:=hv
  obtain rfl:=ends_uniqT hE1 dbl_ends
  rcases hv with ⟨hst,_⟩ | ⟨hst,S,hK,hres⟩
  ·exact absurd hst (by decide)
  ·obtain rfl:=keys_uniq hK dbl_keys
   rw[dbl_root] at hres
   have h1:=value_cnt (own_leafy hgv dbl_ends dbl_keys hst (by decide)) (cntR_is _) (fun u _ hp=>Nat.lt_irrefl _ (dbl_path hp)) (show dblN.length≤150 by decide) (show 2<dblN.length by decide) hres
   have h2:min (nodeT dblN dblN.length 2) MAXC=1:=by rw[dbl_count];decide
   rw[show List.map (mkNode dblG dblW dblE dblS) dblS=dblN from rfl,h2] at h1
   exact h1
 clear hv
 subst hv1
 refine zB7 ?_
 refine⟨zrC,?_⟩
 refine zB7 ?_
 refine AW.draw (ps:=[(1,0),(1,2)]) Z Z ?_
 skip
 refine WT.callF0 Tryz.func57 Z Z Z Z Z Z (doubling_spec _) (fun F5 v hF5 hv=>?_)
 obtain⟨ka,kc,rfl,hr5⟩:=hv
 refine zB7 ?_
 refine WT.buildT hT Z Z Z Z Z Z Z Z Z Z Z Z Z Z (fun i23 hi23=>?_)
 refine WT.freezeAll 0 Z Z (fun F6 hF6 hB6=>?_)
 have hc6:Arr tNat F6 (some ⟨i23,0,none⟩) 2 1 dblC:=arr_ci (hB6 i23 _ me) rfl rfl
 have hF46:=(hF4.trans hF5).trans hF6
 have hls:=least_spec F6 (hL3.mono hF46) dblG hgv (hr5.mono hF6) (by decide) hw2 (hf.mono hF46) hc6 (by decide) rfl (fun E S hE hK _ k i y hy=>by
  obtain⟨rfl,rfl⟩:=dbl_only hE hK
  exact dbl_sm k i y hy)
 refine WT.callV Tryz.func33 Z Z Z Z Z Z hls (fun v hv=>?_)
 obtain rfl:=dbl_least hv
 refine zB7 ?_
 refine⟨zrC,?_⟩
 refine zB7 ?_
 exact AW.ret ⟨_,[],⟨_,_,rfl,rfl,rfl⟩,zsb,rfl,rfl⟩
theorem satp_spec(F:Frz){i M:Nat}(hi:F i=some (.cells false [ci M]))(hM:M≤10)(a b:Nat)(ha:a≤M)(hb:b≤M):Abs.Spec CC 23 [ci a,ci b,.pointer (some ⟨i,0,none⟩)] F [] fun _ v o=>o=[]∧v=ci (min (a+b) M):=by
 refine Abs.Spec.fn (n:=11) Tryz.func23 rfl rfl fun own=>?_
 refine zB4 ?_
 refine WT.know (v':=.int .i64 ((a+b:Nat):Int)) 8 Z (by congr 1) ?_
 refine WT.minT (x:=a+b) (y:=M) Z Z Z Z Z Z ?_
 refine zB4 ?_
 exact AW.ret ⟨_,[],⟨_,_,rfl,rfl,rfl⟩,zsb,rfl,rfl⟩
theorem satt_spec(F:Frz){i M:Nat}(hi:F i=some (.cells false [ci M]))(hM:M≤10)(a b:Nat)(ha:a≤M)(hb:b≤M):Abs.Spec CC 24 [ci a,ci b,.pointer (some ⟨i,0,none⟩)] F [] fun _ v o=>o=[]∧v=ci (min (a*b) M):=by
 have hmm:a*b≤10*10:=Nat.mul_le_mul zo zo
 refine Abs.Spec.fn (n:=11) Tryz.func24 rfl rfl fun own=>?_
 refine zB4 ?_
 refine WT.mulT Z Z Z Z Z Z (by rw[←Int.natCast_mul];omega) ?_
 refine zB4 ?_
 refine WT.know (v':=.int .i64 ((a*b:Nat):Int)) 8 Z (by congr 1) ?_
 refine WT.minT (x:=a*b) (y:=M) Z Z Z Z Z Z ?_
 refine zB4 ?_
 exact AW.ret ⟨_,[],⟨_,_,rfl,rfl,rfl⟩,zsb,rfl,rfl⟩
theorem sats_spec(F:Frz)(a b:Nat):Abs.Spec CC 25 [ci a,ci b] F [] fun _ v o=>o=[]∧v=.bool (decide (a=b)):=by
 refine Abs.Spec.fn (n:=8) Tryz.func25 rfl rfl fun own=>?_
 refine zB4 ?_
 refine AW.ret ⟨_,[],⟨_,_,rfl,rfl,rfl⟩,zsb,rfl,?_⟩
 show Value.bool ((a:Int)==(b:Int))=_
 congr 1
 by_cases h:a=b
 ·subst h;simp
 ·rw[decide_eq_false h]
  have:(a:Int)≠(b:Int):=by omega
  simpa using this
def satR(i M gr:Nat)(R:Nat→Nat):RingI:=⟨23,24,25,gr,[.pointer (some ⟨i,0,none⟩)],[.pointer (some ⟨i,0,none⟩)],[],[],fun a b=>min (a+b) M,fun a b=>min (a*b) M,R,M⟩
theorem satR_ok(F:Frz){i M gr:Nat}{R:Nat→Nat}(hi:F i=some (.cells false [ci M]))(hM:M≤10)(h1:1≤M)(hR:∀n,R n≤M)(h:HasF gr)(hs:∀n:Nat,Abs.Spec CC gr [ci n] F [] fun _ v o=>o=[]∧v=ci (R n)):RingOk F (satR i M gr R) where
 hp:=⟨_,Tryz.func23,rfl⟩
 ht:=⟨_,Tryz.func24,rfl⟩
 hs:=⟨_,Tryz.func25,rfl⟩
 hr:=h
 P:=fun a b ha hb=>⟨Nat.min_le_right _ _,satp_spec F hi hM a b ha hb⟩
 T:=fun a b ha hb=>⟨Nat.min_le_right _ _,satt_spec F hi hM a b ha hb⟩
 S:=fun a b=>sats_spec F a b
 R:=fun n=>⟨hR n,hs n⟩
 one:=h1
theorem satR_is{i M gr:Nat}{R:Nat→Nat}(h1:1≤M)(hR:∀n,R n≤M):IsSat (satR i M gr R) M R:=⟨rfl,rfl,rfl,rfl,hR,h1⟩
theorem mkring_spec(F:Frz)(M:Nat):Abs.Spec CC 22 [ci M] F [] fun F' v o=>o=[]∧∃i,F' i=some (.cells false [ci M])∧v=.agg ⟨(satR i M 0 fun _=>0).ring⟩:=by
 refine Abs.Spec.fn (n:=6) Tryz.func22 rfl rfl fun own=>?_
 refine AW.seq (AW.reg ?_)
 refine WT.boxT Z Z Z Z Z Z (fun i1 hi1=>?_)
 skip
 refine WT.allocT hT Z Z Z Z Z Z (fun i2 hi2=>?_)
 refine zB4 ?_
 refine AW.freezeAll 1 Z Z (fun F1 hF1 hB1=>?_)
 exact AW.ret ⟨_,[],⟨_,_,⟨_,rfl,fun G h0 s0=>loadA_cells (s0.has (p:=0) rfl me) (readT_ok hT rfl)⟩,rfl,rfl⟩,zsb,rfl,i1,hB1 i1 _ me,rfl⟩
theorem r5_spec(F:Frz)(n:Nat):Abs.Spec CC 29 [ci n] F [] fun _ v o=>o=[]∧v=ci (n % 3):=by
 refine Abs.Spec.fn (n:=5) Tryz.func29 rfl rfl fun own=>?_
 refine zB4 ?_
 refine WT.remT Z Z Z Z Z Z zo ?_
 refine zB4 ?_
 refine AW.ret ⟨_,[],⟨_,_,rfl,rfl,rfl⟩,zsb,rfl,?_⟩
 show Value.int .i64 _=_
 congr 1
theorem r6_spec(F:Frz)(n:Nat):Abs.Spec CC 30 [ci n] F [] fun _ v o=>o=[]∧v=ci (1+n % 2):=by
 refine Abs.Spec.fn (n:=6) Tryz.func30 rfl rfl fun own=>?_
 refine zB4 ?_
 refine WT.remT Z Z Z Z Z Z zo ?_
 refine WT.know (v':=.int .i64 ((n % 2:Nat):Int)) 4 Z (by congr 1) ?_
 refine zB4 ?_
 refine AW.ret ⟨_,[],⟨_,_,rfl,rfl,rfl⟩,zsb,rfl,?_⟩
 show Value.int .i64 _=_
 congr 1
theorem pairEq_spec(F:Frz)(a b c d:Nat):Abs.Spec CC 28 [.agg ⟨[ci a,ci b]⟩,.agg ⟨[ci c,ci d]⟩] F [] fun _ v o=>o=[]∧v=.bool (decide ((a,b)=(c,d))):=by
 refine Abs.Spec.fn (n:=8) Tryz.func28 rfl rfl fun own=>?_
 refine AW.seq (AW.reg ?_)
 refine WT.boxT Z Z Z Z Z Z (fun i2 hi2=>?_)
 refine WT.boxT Z Z Z Z Z Z (fun i3 hi3=>?_)
 refine zB4 ?_
 refine WT.eqA2 hT Z Z Z Z Z Z Z Z Z Z Z Z ?_
 refine zB4 ?_
 refine AW.ret ⟨_,[],⟨_,_,rfl,rfl,rfl⟩,zsb,rfl,?_⟩
 show Value.bool (((a:Int)==(c:Int))&&((b:Int)==(d:Int)))=_
 congr 1
 rw[Bool.eq_iff_iff]
 simp
 omega
def satG(i:Nat):List Value:=[ci 0,ci 1,.func (.func 23) ⟨[]⟩ ⟨[.pointer (some ⟨i,0,none⟩)]⟩,.func (.func 24) ⟨[]⟩ ⟨[.pointer (some ⟨i,0,none⟩)]⟩,.func (.func 25) ⟨[]⟩ ⟨[]⟩]
theorem pplus_spec(F:Frz){i j ja jb M N:Nat}(hi:F i=some (.cells false [ci M]))(hj:F j=some (.cells false [ci N]))(ha:F ja=some (.cells false (satG i)))(hb:F jb=some (.cells false (satG j)))(hM:M≤10)(hN:N≤10)(a b c d:Nat)(h1:a≤M)(h2:b≤N)(h3:c≤M)(h4:d≤N) :
  Abs.Spec CC 26 [.agg ⟨[ci a,ci b]⟩,.agg ⟨[ci c,ci d]⟩,.pointer (some ⟨ja,0,none⟩),.pointer (some ⟨jb,0,none⟩)] F [] fun _ v o=>o=[]∧v=.agg ⟨[ci (min (a+c) M),ci (min (b+d) N)]⟩:=by
 unfold satG at ha hb
 refine Abs.Spec.fn (n:=22) Tryz.func26 rfl rfl fun own=>?_
 refine AW.seq (AW.reg ?_)
 refine WT.boxT Z Z Z Z Z Z (fun i4 hi4=>?_)
 refine WT.boxT Z Z Z Z Z Z (fun i5 hi5=>?_)
 skip
 refine WT.allocT hT Z Z Z Z Z Z (fun i6 hi6=>?_)
 refine zB7 ?_
 refine AW.draw (ps:=[(8,6),(10,6),(12,6)]) Z Z ?_
 refine zB7 ?_
 refine WT.idxArr (j:=0) (s:=1) (len:=2) hT Z Z Z Z Z Z Z Z Z (by decide) ?_
 refine zB7 ?_
 refine WT.idxArr (j:=0) (s:=1) (len:=2) hT Z Z Z Z Z Z Z Z Z (by decide) ?_
 refine zB7 ?_
 refine WT.callC (first:=[]) (args:=[ci a,ci c]) (capt:=[.pointer (some ⟨i,0,none⟩)]) Tryz.func23 Z Z Z Z Z Z Z Z (satp_spec F hi hM a c h1 h3) (fun v hv=>?_)
 subst hv
 refine zB7 ?_
 refine WT.idxArr (j:=1) (s:=1) (len:=2) hT Z Z Z Z Z Z Z Z Z (by decide) ?_
 refine zB7 ?_
 refine WT.idxArr (j:=1) (s:=1) (len:=2) hT Z Z Z Z Z Z Z Z Z (by decide) ?_
 refine zB7 ?_
 refine WT.callC (first:=[]) (args:=[ci b,ci d]) (capt:=[.pointer (some ⟨j,0,none⟩)]) Tryz.func23 Z Z Z Z Z Z Z Z (satp_spec F hj hN b d h2 h4) (fun v hv=>?_)
 subst hv
 refine zB7 ?_
 refine⟨zrC,?_⟩
 skip
 exact AW.ret ⟨_,[],⟨_,_,⟨_,rfl,fun G h0 s0=>loadA_cells (s0.has (p:=0) rfl me) (readT_ok hT rfl)⟩,rfl,rfl⟩,zsb,rfl,rfl⟩
theorem ptimes_spec(F:Frz){i j ja jb M N:Nat}(hi:F i=some (.cells false [ci M]))(hj:F j=some (.cells false [ci N]))(ha:F ja=some (.cells false (satG i)))(hb:F jb=some (.cells false (satG j)))(hM:M≤10)(hN:N≤10)(a b c d:Nat)(h1:a≤M)(h2:b≤N)(h3:c≤M)(h4:d≤N) :
  Abs.Spec CC 27 [.agg ⟨[ci a,ci b]⟩,.agg ⟨[ci c,ci d]⟩,.pointer (some ⟨ja,0,none⟩),.pointer (some ⟨jb,0,none⟩)] F [] fun _ v o=>o=[]∧v=.agg ⟨[ci (min (a*c) M),ci (min (b*d) N)]⟩:=by
 unfold satG at ha hb
 refine Abs.Spec.fn (n:=22) Tryz.func27 rfl rfl fun own=>?_
 refine AW.seq (AW.reg ?_)
 refine WT.boxT Z Z Z Z Z Z (fun i4 hi4=>?_)
 refine WT.boxT Z Z Z Z Z Z (fun i5 hi5=>?_)
 skip
 refine WT.allocT hT Z Z Z Z Z Z (fun i6 hi6=>?_)
 refine zB7 ?_
 refine AW.draw (ps:=[(8,6),(10,6),(12,6)]) Z Z ?_
 refine zB7 ?_
 refine WT.idxArr (j:=0) (s:=1) (len:=2) hT Z Z Z Z Z Z Z Z Z (by decide) ?_
 refine zB7 ?_
 refine WT.idxArr (j:=0) (s:=1) (len:=2) hT Z Z Z Z Z Z Z Z Z (by decide) ?_
 refine zB7 ?_
 refine WT.callC (first:=[]) (args:=[ci a,ci c]) (capt:=[.pointer (some ⟨i,0,none⟩)]) Tryz.func24 Z Z Z Z Z Z Z Z (satt_spec F hi hM a c h1 h3) (fun v hv=>?_)
 subst hv
 refine zB7 ?_
 refine WT.idxArr (j:=1) (s:=1) (len:=2) hT Z Z Z Z Z Z Z Z Z (by decide) ?_
 refine zB7 ?_
 refine WT.idxArr (j:=1) (s:=1) (len:=2) hT Z Z Z Z Z Z Z Z Z (by decide) ?_
 refine zB7 ?_
 refine WT.callC (first:=[]) (args:=[ci b,ci d]) (capt:=[.pointer (some ⟨j,0,none⟩)]) Tryz.func24 Z Z Z Z Z Z Z Z (satt_spec F hj hN b d h2 h4) (fun v hv=>?_)
 subst hv
 refine zB7 ?_
 refine⟨zrC,?_⟩
 skip
 exact AW.ret ⟨_,[],⟨_,_,⟨_,rfl,fun G h0 s0=>loadA_cells (s0.has (p:=0) rfl me) (readT_ok hT rfl)⟩,rfl,rfl⟩,zsb,rfl,rfl⟩
theorem r7_spec(F:Frz)(n:Nat):Abs.Spec CC 32 [ci n] F [] fun _ v o=>o=[]∧v=.agg ⟨[ci (n % 3),ci (1+n % 2)]⟩:=by
 refine Abs.Spec.fn (n:=9) Tryz.func32 rfl rfl fun own=>?_
 refine AW.seq (AW.reg ?_)
 refine WT.allocT hT Z Z Z Z Z Z (fun i2 hi2=>?_)
 refine zB4 ?_
 refine WT.remT Z Z Z Z Z Z zo ?_
 refine WT.know (v':=.int .i64 ((n % 3:Nat):Int)) 4 Z (by congr 1) ?_
 refine zB4 ?_
 refine WT.remT Z Z Z Z Z Z zo ?_
 refine WT.know (v':=.int .i64 ((n % 2:Nat):Int)) 6 Z (by congr 1) ?_
 refine zB4 ?_
 refine AW.ret ⟨_,[],⟨_,_,⟨_,rfl,fun G h0 s0=>loadA_cells (s0.has (p:=0) Z me) (readT_ok hT rfl)⟩,rfl,rfl⟩,zsb,rfl,?_⟩
 congr 1
def pairR(i j ja jb M N gr:Nat):RingP:=⟨satR i M 29 fun n=>n % 3,satR j N 30 fun n=>1+n % 2,26,27,28,gr,[.pointer (some ⟨ja,0,none⟩),.pointer (some ⟨jb,0,none⟩)],[.pointer (some ⟨ja,0,none⟩),.pointer (some ⟨jb,0,none⟩)],[],[]⟩
theorem pairR_ok(F:Frz){i j ja jb M N:Nat}(hi:F i=some (.cells false [ci M]))(hj:F j=some (.cells false [ci N]))(ha:F ja=some (.cells false (satG i)))(hb:F jb=some (.cells false (satG j)))(hM:M≤10)(hN:N≤10)(hM2:2≤M)(hN2:2≤N):RingPOk F (pairR i j ja jb M N 32) where
 hp:=⟨_,Tryz.func26,rfl⟩
 ht:=⟨_,Tryz.func27,rfl⟩
 hs:=⟨_,Tryz.func28,rfl⟩
 hr:=⟨_,Tryz.func32,rfl⟩
 P:=fun a b c d h1 h2 h3 h4=>⟨Nat.min_le_right _ _,Nat.min_le_right _ _,pplus_spec F hi hj ha hb hM hN a b c d h1 h2 h3 h4⟩
 T:=fun a b c d h1 h2 h3 h4=>⟨Nat.min_le_right _ _,Nat.min_le_right _ _,ptimes_spec F hi hj ha hb hM hN a b c d h1 h2 h3 h4⟩
 S:=fun a b c d=>pairEq_spec F a b c d
 R:=fun n=>⟨by show n % 3≤M;omega,by show 1+n % 2≤N;omega,r7_spec F n⟩
 one:=⟨by show 1≤M;omega,by show 1≤N;omega⟩
theorem pair_same{i j ja jb M N gr:Nat}(hM:M≤10)(hN:N≤10)(hM2:2≤M)(hN2:2≤N){Ns:List Node}(hl:Nested Ns){root:Nat}(hroot:root<Ns.length){v1 v2 v3:Value}(h1:ValueRes (pairR i j ja jb M N gr).r1 Ns root v1)(h2:ValueRes (pairR i j ja jb M N gr).r2 Ns root v2)(h3:ValueResP (pairR i j ja jb M N gr) Ns root v3) :
  ∃x y:Nat,v1=.tuple ⟨[ci x,.int .i64 0]⟩∧v2=.tuple ⟨[ci y,.int .i64 0]⟩∧v3=.tuple ⟨[.agg ⟨[ci x,ci y]⟩,.int .i64 0]⟩:=by
 have i1:IsSat (pairR i j ja jb M N gr).r1 M (fun n=>n % 3):=satR_is zo (fun n=>by show n % 3≤M;omega)
 have i2:IsSat (pairR i j ja jb M N gr).r2 N (fun n=>1+n % 2):=satR_is zo (fun n=>by show 1+n % 2≤N;omega)
 refine⟨_,_,value_sat hM hl i1 hroot h1,value_sat hN hl i2 hroot h2,?_⟩
 rcases h3 with ⟨k,y,z,hk,e1,e2,hy,hz,rfl⟩ | ⟨hno,_⟩
 ·have e3:=valsM_same hM hl i1 e1
  have e4:=valsM_same hN hl i2 e2
  rw[←e3,←e4]
  unfold valAt
  rw[hy,hz]
  rfl
 ·exact absurd ⟨valsM_stop hM hl i1 (Nat.le_refl 60),valsM_stop hN hl i2 (Nat.le_refl 60)⟩ (hno 60 zo)
theorem semiPairs_law(F:Frz)(hL:Laid F){a b:Option Addr}{m n c d:Nat}{l w0:List Int}(hl:Arr tInt F a m c l)(hw0:Arr tInt F b n d w0)(hm:n≤9223372036854775807)(p0 q0:Int) :
  Abs.Spec CC 5 [.slice a m c,.slice b n d,.int .i64 p0,.int .i64 q0] F [] fun _ v o=>o=[]∧v=.bool true:=by
 refine Abs.Spec.fn (n:=96) Tryz.func5 rfl rfl fun own=>?_
 refine zB4 ?_
 refine WT.callF0 Tryz.func7 Z Z Z Z Z Z (made_spec _ hl hw0 hm 5 (by decide)) (fun F1 v hF1 hv=>?_)
 obtain⟨g,ga,gm,gc,wa,wn,wc,w,rfl,hg,hr,hw,hw1,hw2⟩:=hv
 have hL1:=hL.mono hF1
 have hgv:=hg.valid
 unfold gramCells
 refine zB4 ?_
 refine WT.allocT hT Z Z Z Z Z Z (fun i9 hi9=>?_)
 refine zB4 ?_
 refine WT.callF0 Tryz.func15 Z Z Z Z Z Z (forestOf_spec _ hL1 g hgv hr hw zo hw2) (fun F2 v hF2 hv=>?_)
 obtain⟨E,hE,hv⟩:=hv
 obtain⟨fa,fn,fc,fr,rfl,hf⟩:∃fa fn fc fr,v=.tuple ⟨[.agg ⟨[.slice fa fn fc,.int .i64 fr]⟩,.int .i64 0]⟩∧FV g w F2 fa fn fc fr:=by
  have hv0:=hv
  rcases hv with ⟨s,xa,xn,xc,xr,rfl,rfl,h3,h4⟩ | ⟨_,_,L,h1,h2,h3⟩
  ·exact⟨_,_,_,_,rfl,E,hE,hv0⟩
  ·exfalso
   have:=packs_small hg zo (E:=E) h1 fun k hk=>(h2 k hk).good hgv (root_good hgv w)
   omega
 clear hv
 have hL2:=hL1.mono hF2
 have hr2:=hr.mono hF2
 refine zB4 ?_
 refine WT.allocT hT Z Z Z Z Z Z (fun i10 hi10=>?_)
 refine zB4 ?_
 refine WT.callV Tryz.func21 Z Z Z Z Z Z (below_spec _ p0 9 zo zo) (fun v hv=>?_)
 subst hv
 have hp9:below p0 9<9:=below_lt p0 zo
 generalize below p0 9=kp at *
 refine zB4 ?_
 refine WT.know (v':=.int .i64 ((2+kp:Nat):Int)) 36 Z (by congr 1) ?_
 refine WT.callV Tryz.func21 Z Z Z Z Z Z (below_spec _ q0 9 zo zo) (fun v hv=>?_)
 subst hv
 have hq9:below q0 9<9:=below_lt q0 zo
 generalize below q0 9=kq at *
 refine zB4 ?_
 refine WT.know (v':=.int .i64 ((2+kq:Nat):Int)) 3 Z (by congr 1) ?_
 generalize hM:2+kp=M at *
 generalize hN:2+kq=N at *
 skip
 refine WT.callCF0 (first:=[]) (args:=[ci M]) (capt:=[]) Tryz.func22 Z Z Z Z Z Z Z Z (mkring_spec _ M) (fun F3 v hF3 hv=>?_)
 obtain⟨ia,hia,rfl⟩:=hv
 refine zB4 ?_
 refine WT.callCF0 (first:=[]) (args:=[ci N]) (capt:=[]) Tryz.func22 Z Z Z Z Z Z Z Z (mkring_spec _ N) (fun F4 v hF4 hv=>?_)
 obtain⟨ib,hib,rfl⟩:=hv
 have hia:=hF4 _ _ hia
 skip
 refine WT.allocT hT Z Z Z Z Z Z (fun i13 hi13=>?_)
 refine WT.allocT hT Z Z Z Z Z Z (fun i14 hi14=>?_)
 refine zB4 ?_
 refine WT.freezeAll 0 Z Z (fun F5 hF5 hB5=>?_)
 refine WT.freezeAll 1 Z Z (fun F6 hF6 hB6=>?_)
 have hF46:=hF5.trans hF6
 have hF26:=(hF3.trans hF4).trans hF46
 have h14:F6 i14=some (.cells false (satG ib)):=hF6 _ _ (hB5 i14 _ me)
 have h13:F6 i13=some (.cells false (satG ia)):=hB6 i13 _ me
 have hia:=hF46 _ _ hia
 have hib:=hF46 _ _ hib
 have hL6:=hL2.mono hF26
 have hr6:=hr2.mono hF26
 have hf6:=hf.mono hF26
 have hM2:2≤M:=by omega
 have hM10:M≤10:=by omega
 have hN2:2≤N:=by omega
 have hN10:N≤10:=by omega
 have hs1:=value_spec F6 hL6 g hgv hr6 zo hw2 hf6 (pairR ia ib i13 i14 M N 32).r1 (fun G hG=>satR_ok G (hG _ _ hia) hM10 zo (fun n=>by show n % 3≤M;omega) ⟨_,Tryz.func29,rfl⟩ (r5_spec G))
 have hs2:=value_spec F6 hL6 g hgv hr6 zo hw2 hf6 (pairR ia ib i13 i14 M N 32).r2 (fun G hG=>satR_ok G (hG _ _ hib) hN10 zo (fun n=>by show 1+n % 2≤N;omega) ⟨_,Tryz.func30,rfl⟩ (r6_spec G))
 have hs3:=value2_spec F6 hL6 g hgv hr6 zo hw2 hf6 (pairR ia ib i13 i14 M N 32) (fun G hG=>pairR_ok G (hG _ _ hia) (hG _ _ hib) (hG _ _ h13) (hG _ _ h14) hM10 hN10 hM2 hN2)
 unfold gramCells at hs1 hs2 hs3
 unfold satG at h13 h14
 refine WT.allocT hT Z Z Z Z Z Z (fun i15 hi15=>?_)
 refine zB7 ?_
 refine WT.callV Tryz.func17 Z Z Z Z Z Z hs1 (fun v1 hv1=>?_)
 obtain⟨E1,hE1,hv1⟩:=hv1
 obtain⟨x1,e1,rfl⟩:∃(x1:Nat) (e1:Int),v1=.tuple ⟨[ci x1,.int .i64 e1]⟩:=by
  rcases hv1 with ⟨_,rfl⟩ | ⟨_,S,_,⟨k,y,_,_,_,rfl⟩ | ⟨_,rfl⟩⟩
  ·exact⟨0,0,rfl⟩
  ·exact⟨_,_,rfl⟩
  ·exact⟨0,9,rfl⟩
 refine zB7 ?_
 refine WT.callV Tryz.func17 Z Z Z Z Z Z hs2 (fun v2 hv2=>?_)
 obtain⟨E2,hE2,hv2⟩:=hv2
 obtain⟨x2,e2,rfl⟩:∃(x2:Nat) (e2:Int),v2=.tuple ⟨[ci x2,.int .i64 e2]⟩:=by
  rcases hv2 with ⟨_,rfl⟩ | ⟨_,S,_,⟨k,y,_,_,_,rfl⟩ | ⟨_,rfl⟩⟩
  ·exact⟨0,0,rfl⟩
  ·exact⟨_,_,rfl⟩
  ·exact⟨0,9,rfl⟩
 refine zB7 ?_
 refine WT.callV Tryz.func31 Z Z Z Z Z Z hs3 (fun v3 hv3=>?_)
 obtain⟨E3,hE3,hv3⟩:=hv3
 obtain rfl:=ends_uniqT hE1 hE2
 obtain rfl:=ends_uniqT hE1 hE3
 obtain⟨x,y,q1,q2,rfl⟩:∃x y:Nat,Value.tuple ⟨[ci x1,.int .i64 e1]⟩=.tuple ⟨[ci x,.int .i64 0]⟩∧Value.tuple ⟨[ci x2,.int .i64 e2]⟩=.tuple ⟨[ci y,.int .i64 0]⟩∧v3=.tuple ⟨[.agg ⟨[ci x,ci y]⟩,.int .i64 0]⟩:=by
  rcases hv1 with ⟨hst,p1⟩ | ⟨hst,S1,hK1,hv1⟩<;>rcases hv2 with ⟨hst2,p2⟩ | ⟨hst2,S2,hK2,hv2⟩<;>rcases hv3 with ⟨hst3,p3⟩ | ⟨hst3,S3,hK3,hv3⟩<;>(first | (rw[hst] at hst2;exact Bool.noConfusion hst2) | (rw[hst] at hst3;exact Bool.noConfusion hst3) | skip)
  ·exact⟨0,0,p1,p2,p3⟩
  ·obtain rfl:=keys_uniq hK1 hK2
   obtain rfl:=keys_uniq hK1 hK3
   have hroot:place S1 (rootKey g w)<(S1.map (mkNode g w E1 S1)).length:=by
    rw[List.length_map];exact(gS (place_at hK1.first)).1
   exact pair_same hM10 hN10 hM2 hN2 (own_nested hgv hE1 hK1 hst hg.nons.2 hw1) hroot hv1 hv2 hv3
 cases q1
 cases q2
 refine zB7 ?_
 refine WT.allocT hT Z Z Z Z Z Z (fun i20 hi20=>?_)
 refine zB7 ?_
 refine WT.callV Tryz.func20 Z Z Z Z Z Z (values_spec _ hL6) (fun v hv=>?_)
 subst hv
 refine zB7 ?_
 refine WT.eqA2 hT Z Z Z Z Z Z Z Z Z Z Z Z ?_
 refine zB7 ?_
 refine AW.ret ⟨_,[],⟨_,_,rfl,rfl,rfl⟩,zsb,rfl,?_⟩
 show Value.bool ((x1:Int)==(x1:Int)&&(x2:Int)==(x2:Int))=_
 simp
end Go.Proofs.D