/-
  Walks: what functions of the program do, over the abstract machine.
-/
import Derived.Test.YtnbhiijpjbnfaaaDoorWk2
set_option linter.unusedVariables false
set_option maxRecDepth 20000
set_option maxHeartbeats 0
open Go Go.Abs Go.Proofs Go.Proofs.D
namespace Go.Proofs.D
structure PPl where
 ip:Nat
 a:Option Addr
 m:Nat
 c:Nat
 ra:Option Addr
 rn:Nat
 rc:Nat
 ca:Option Addr
 cn:Nat
 cc:Nat
 wa:Option Addr
 wn:Nat
 wc:Nat
def psC(g:Gram)(p:PPl)(i:Nat):List Value:=[.int .i64 g.terms,.int .i64 g.nons,.int .i64 g.start,.slice p.a p.m p.c,.slice p.ra p.rn p.rc,.slice p.ca p.cn p.cc,.slice p.wa p.wn p.wc,.int .i64 i]
def psB(g:Gram)(p:PPl)(i:Nat):List (Nat×Blk):=[(p.ip,.cells false (psC g p i))]
structure PEnv(F:Frz)(g:Gram)(p:PPl)(R:List (List Int))(w:List Nat):Prop where
 rules:Arr tRule F p.a p.m p.c g.rules
 tab:Arr (tList tInt) F p.ra p.rn p.rc R
 word:Arr tNat F p.wa p.wn p.wc w
theorem PEnv.mono{F G:Frz}{g:Gram}{p:PPl}{R:List (List Int)}{w:List Nat}(h:PEnv F g p R w)(hF:Frz.le F G):PEnv G g p R w:=⟨h.rules.mono hF,h.tab.mono hF,h.word.mono hF⟩
theorem pnext_spec(G:Frz)(g:Gram)(hg:Valid g){p:PPl}{R:List (List Int)}{w:List Nat}(hE:PEnv G g p R w)(hw:w.length≤2000){i:Nat}(hi:i≤w.length)(hp:G p.ip=some (.cells false (psC g p i))) :
  Abs.Spec CC 56 [.pointer (some ⟨p.ip,0,none⟩)] G [] fun _ v o=>o=[]∧v=.int .i64 (nextW g w i):=by
 have hwl:=hE.word.len;have hgt:=hg.range.terms;unfold psC at hp;refine Abs.Spec.fn (n:=28) Tryd.func56 rfl rfl fun own=>?_;refine zC4 ?_;refine AW.cond Z (fun he=>?_) (fun he=>?_)
 ·have he:i=w.length:=by simp at he;omega
  refine zC4 ?_;refine AW.ret ⟨_,[],⟨_,_,rfl,rfl,rfl⟩,zsb,rfl,?_⟩;unfold nextW;rw[List.getElem?_eq_none zo];rfl
 ·have he:i≠w.length:=by simp at he;omega
  refine zC4 ?_;refine WT.idxL hT hE.word Z Z Z Z Z Z Z Z Z zo (fun x hx b1 off ro cs lx hb1 hp1 hrel=>?_);obtain rfl:lx=_:=hrel;refine zC4 ?_;refine AW.ret ⟨_,[],⟨_,_,rfl,rfl,rfl⟩,zsb,rfl,?_⟩;rw[nextW_at hx];rfl
def symV(s:Sym):Value:=.agg ⟨[.bool s.term,.int .i64 s.n]⟩
def POk(g:Gram)(p:PPl)(R:List (List Int))(w:List Nat)(s:Sym)(i:Nat)(T:Tree)(j:Nat):Prop:=
 i≤w.length→SymOk g.terms g.nons s→∀F,PEnv F g p R w→Abs.Spec CC 30 [.pointer (some ⟨p.ip,0,none⟩),symV s] F [psB g p i] fun F' v o=>o=[psB g p j]∧∃cs,v=.agg ⟨cs⟩∧tTree.rel F' cs T
def PBad(g:Gram)(p:PPl)(R:List (List Int))(w:List Nat)(s:Sym)(i j:Nat):Prop:=
 i≤w.length→SymOk g.terms g.nons s→∀F,PEnv F g p R w→SpecPan CC 30 [.pointer (some ⟨p.ip,0,none⟩),symV s] F [psB g p i] fun F' o=>o=[psB g p j]
section
variable {g:Gram}{p:PPl}{R:List (List Int)}{w:List Nat}
theorem parse_leaf(hg:Valid g)(hw:w.length≤2000){t i:Nat}(h:w[i]?=some t):POk g p R w ⟨true,t⟩ i (.mk (-1) t []) (i+1):=by
 intro hi hs F hE;have hil:=(gS h).1;unfold symV psB;refine Abs.Spec.fn (n:=71) Tryd.func30 rfl rfl fun own=>?_;refine AW.seq (AW.reg ?_);refine WT.boxT Z Z Z Z Z Z (fun i3 hi3=>?_);refine WT.freezeAll 0 Z Z (fun F0 hF0 hB0=>?_);have hi3:=hB0 i3 _ me;have hE:=hE.mono hF0;refine WT.allocT hT Z Z Z Z Z Z (fun i4 hi4=>?_);refine zC4 ?_;refine AW.cond Z (fun _=>?_) (fun h=>(by cases h));refine zC4 ?_;refine AW.draw (ps:=[(3,1)]) Z Z ?_;refine zC4 ?_;refine WT.callLend 2 Tryd.func56 Z Z Z Z Z Z Z (fun G hG hBG=>pnext_spec G g hg (hE.mono hG) hw hi (hBG _ _ me)) (fun v hv=>?_);subst hv
 rw[nextW_at h];refine zC4 ?_;refine⟨zrC,?_⟩;refine AW.cond Z (fun h=>(by simp at h)) (fun _=>?_);unfold psC;refine zC4 ?_;refine WT.callF0 Tryd.func57 Z Z Z Z Z Z (leaf_spec _ t) (fun F2 v hF2 hv=>?_);obtain⟨cs,rfl,hrel⟩:=hv;obtain⟨za,zn,zc,rfl,_,_⟩:=tTree_cases hrel;refine zC4 ?_;exact AW.ret ⟨_,[psB g p (i+1)],⟨_,_,⟨_,rfl,fun G h0 s0=>loadA_cells (s0.has (p:=0) rfl me) (readT_ok hT rfl)⟩,rfl,rfl⟩,zsb,rfl,_,rfl,hrel⟩
theorem parse_other(hg:Valid g)(hw:w.length≤2000){t i:Nat}(h:¬w[i]?=some t):PBad g p R w ⟨true,t⟩ i i:=by
 intro hi hs F hE;have hst:t<g.terms:=by unfold SymOk at hs;rw[if_pos rfl] at hs;exact hs
 have hne:nextW g w i≠t:=by
  unfold nextW;cases hq:w[i]? with
  | none=>show g.terms≠t;omega
  | some x=>intro e;exact h (by rw[hq];exact congrArg some e)
 unfold symV psB;refine SpecPan.fn (n:=71) Tryd.func30 rfl rfl fun own=>?_;refine AW.seq (AW.reg ?_);refine WT.boxT Z Z Z Z Z Z (fun i3 hi3=>?_);refine WT.freezeAll 0 Z Z (fun F0 hF0 hB0=>?_);have hi3:=hB0 i3 _ me;have hE:=hE.mono hF0;refine WT.allocT hT Z Z Z Z Z Z (fun i4 hi4=>?_);refine zC4 ?_;refine AW.cond Z (fun _=>?_) (fun h=>(by cases h));refine zC4 ?_;refine AW.draw (ps:=[(3,1)]) Z Z ?_;refine zC4 ?_;refine WT.callLend 2 Tryd.func56 Z Z Z Z Z Z Z (fun G hG hBG=>pnext_spec G g hg (hE.mono hG) hw hi (hBG _ _ me)) (fun v hv=>?_);subst hv;generalize nextW g w i=q at hne;refine zC4 ?_
 refine⟨zrC,?_⟩;refine AW.cond Z (fun _=>?_) (fun h=>(by simp at h;omega));refine AW.panS [_,_] Z Z ?_;refine zC4 ?_;refine WT.ifaceT hT Z Z Z Z Z Z ?_;refine zC4 ?_;exact⟨rfl,rfl,[psB g p i],zsb,rfl⟩
def TabR(g:Gram)(tab:Nat→Nat→Option Nat)(R:List (List Int)):Prop:=R.length=g.nons∧∀n t,n<g.nons→t≤g.terms→∃row z,R[n]?=some row∧row.length=g.terms+1∧row[t]?=some z∧z=match tab n t with
 | none=>-1
 | some k=>(k:Int)
theorem nextW_le(hw2:∀t∈w,t<g.terms)(i:Nat):nextW g w i≤g.terms:=by
 unfold nextW;cases hq:w[i]? with
 | none=>exact Nat.le_refl _
 | some x=>exact Nat.le_of_lt (hw2 x (gM hq))
variable {tab:Nat→Nat→Option Nat}
theorem parse_none(hg:Valid g)(hw:w.length≤2000)(hw2:∀t∈w,t<g.terms)(hTR:TabR g tab R){n i:Nat}(h:tab n (nextW g w i)=none):PBad g p R w ⟨false,n⟩ i i:=by
 intro hi hs F hE;have hsn:n<g.nons:=by unfold SymOk at hs;rw[if_neg (by simp)] at hs;exact hs
 obtain⟨row,z,hrow,hrl,hz,hzv⟩:=hTR.2 n _ hsn (nextW_le hw2 i);rw[h] at hzv;simp only at hzv;subst hzv;have hnl:=nextW_le hw2 i;have hgt:=hg.range.terms;have hgn:=hg.range.nons;have hRl:=hE.tab.len;have hRl2:=hTR.1;unfold symV psB;refine SpecPan.fn (n:=71) Tryd.func30 rfl rfl fun own=>?_;refine AW.seq (AW.reg ?_);refine WT.boxT Z Z Z Z Z Z (fun i3 hi3=>?_);refine WT.freezeAll 0 Z Z (fun F0 hF0 hB0=>?_);have hi3:=hB0 i3 _ me;have hE:=hE.mono hF0;refine WT.allocT hT Z Z Z Z Z Z (fun i4 hi4=>?_);refine zC4 ?_;refine AW.cond Z (fun h=>(by cases h)) (fun _=>?_);refine zC4 ?_
 refine AW.draw (ps:=[(4,10),(4,14),(6,10),(6,14),(8,10),(8,14),(12,14)]) Z Z ?_;unfold psC;refine zC4 ?_;refine WT.idxL hT hE.tab Z Z Z Z Z Z Z Z Z (by dsimp only;omega) (fun row' hrow' b1 off ro cs lx hb1 hp1 hrel=>?_);obtain rfl:row'=row:=Option.some.inj (hrow'.symm.trans hrow);obtain⟨b2,n2,d2,rfl,hrow2⟩:=hrel;have hrl2:=hrow2.len;refine zC4 ?_;refine WT.callLend 2 Tryd.func56 Z Z Z Z Z Z Z (fun G hG hBG=>pnext_spec G g hg (hE.mono hG) hw hi (hBG _ _ me)) (fun v hv=>?_);subst hv;generalize nextW g w i=q at hz hnl
 refine WT.idxL hT hrow2 Z Z Z Z Z Z Z Z Z zo (fun z' hz' b3 off3 ro3 cs3 lx3 hb3 hp3 hrel3=>?_);obtain rfl:z'=-1:=Option.some.inj (hz'.symm.trans hz);obtain rfl:lx3=_:=hrel3;refine zC4 ?_;refine WT.allocT hT Z Z Z Z Z Z (fun i5 hi5=>?_);refine zC4 ?_;refine⟨zrC,?_⟩;refine zC4 ?_;refine AW.cond Z (fun _=>?_) (fun h=>(by simp at h));refine AW.panS [_,_] Z Z ?_;refine zC4 ?_;refine WT.ifaceT hT Z Z Z Z Z Z ?_;refine zC4 ?_;exact⟨rfl,rfl,[psB g p i],zsb,rfl⟩
structure KdS where
 ka:Option Addr
 kn:Nat
 kc:Nat
 KB:List (Nat×Blk)
 i:Nat
theorem opA_callF{C:Ctx}{k:Kno}{o:Oper}{f:FuncId}{fn:Func}{as_:Array Operand}{ts:Array TypeId}{args:List Value}(hf:C.func f=some fn)(hb:fn.body.isSome=true)(hop:o.op=.call ⟨.value (.func f),as_,ts⟩)(hv:vals (evK C k) as_.toList=some args)(h:Heap) :
  opA C (evK C k) h o.op=some (.call f args):=by
 rw[hop];simp only[opA,evK,hv,callA,hf,hb,cond_true];simp
theorem parse_node(hg:Valid g)(hw:w.length≤2000)(hw2:∀t∈w,t<g.terms)(hTR:TabR g tab R){n i k j:Nat}{r:Rule}{ts:List Tree}{pos:Nat→Nat}(h:tab n (nextW g w i)=some k)(hr:g.rules[k]?=some r)(hp0:pos 0=i)(hpn:pos r.right.length=j)(htl:ts.length=r.right.length)
  (hkid:∀q s T,r.right[q]?=some s→ts[q]?=some T→pos q≤w.length∧POk g p R w s (pos q) T (pos (q+1))):POk g p R w ⟨false,n⟩ i (.mk k 0 ts) j:=by
 intro hi hs F hE;have hsn:n<g.nons:=by unfold SymOk at hs;rw[if_neg (by simp)] at hs;exact hs
 obtain⟨row,z,hrow,hrl,hz,hzv⟩:=hTR.2 n _ hsn (nextW_le hw2 i);rw[h] at hzv;simp only at hzv;subst hzv;have hnl:=nextW_le hw2 i;have hgt:=hg.range.terms;have hkl:=(gS hr).1;have hgr:=hg.range.rules;have hgn:=hg.range.nons;have hRl:=hE.tab.len;have hRl2:=hTR.1;unfold symV psB;refine Abs.Spec.fn (n:=71) Tryd.func30 rfl rfl fun own=>?_;refine AW.seq (AW.reg ?_);refine WT.boxT Z Z Z Z Z Z (fun i3 hi3=>?_);refine WT.freezeAll 0 Z Z (fun F0 hF0 hB0=>?_);have hi3:=hB0 i3 _ me;have hE:=hE.mono hF0;refine WT.allocT hT Z Z Z Z Z Z (fun i4 hi4=>?_);refine zC4 ?_
 refine AW.cond Z (fun h=>(by cases h)) (fun _=>?_);refine zC4 ?_;refine AW.draw (ps:=[(4,10),(4,14),(6,10),(6,14),(8,10),(8,14),(12,14)]) Z Z ?_;unfold psC;refine zC4 ?_;refine WT.idxL hT hE.tab Z Z Z Z Z Z Z Z Z (by dsimp only;omega) (fun row' hrow' b1 off ro cs lx hb1 hp1 hrel=>?_);obtain rfl:row'=row:=Option.some.inj (hrow'.symm.trans hrow);obtain⟨b2,n2,d2,rfl,hrow2⟩:=hrel;have hrl2:=hrow2.len;refine zC4 ?_;refine WT.callLend 2 Tryd.func56 Z Z Z Z Z Z Z (fun G hG hBG=>pnext_spec G g hg (hE.mono hG) hw hi (hBG _ _ me)) (fun v hv=>?_);subst hv;generalize nextW g w i=q at hz hnl
 refine WT.idxL hT hrow2 Z Z Z Z Z Z Z Z Z zo (fun z' hz' b3 off3 ro3 cs3 lx3 hb3 hp3 hrel3=>?_);obtain rfl:z'=(k:Int):=Option.some.inj (hz'.symm.trans hz);obtain rfl:lx3=_:=hrel3;refine zC4 ?_;refine WT.allocT hT Z Z Z Z Z Z (fun i5 hi5=>?_);refine zC4 ?_;refine⟨zrC,?_⟩;refine zC4 ?_;refine AW.cond Z (fun h=>(by simp at h;omega)) (fun _=>?_);refine zC4 ?_;refine WT.idxL hT hE.rules Z Z Z Z Z Z Z Z Z zo (fun r' hr' b6 off6 ro6 cs6 lx6 hb6 hp6 hrel6=>?_);obtain rfl:r'=r:=Option.some.inj (hr'.symm.trans hr);obtain⟨b7,n7,d7,rfl,hr7⟩:=hrel6;have hr7l:=hr7.len;obtain⟨_,hr4,hrs⟩:=hg.right r' (gM hr)
 refine zC4 ?_;refine AW.range (S:=KdS) (fun _=>[]) (fun s=>[(i5,.cells false [.int .i64 k,.int .i64 0,.slice s.ka s.kn s.kc])]::s.KB::[(i4,.cells false [.int .i64 0,.int .i64 0,.slice none 0 0])]::[]::[(p.ip,.cells false [.int .i64 g.terms,.int .i64 g.nons,.int .i64 g.start,.slice p.a p.m p.c,.slice p.ra p.rn p.rc,.slice p.ca p.cn p.cc,.slice p.wa p.wn p.wc,.int .i64 (s.i:Nat)])]::own)
  (fun q s G=>s.i=pos q∧Bld tTree G s.ka s.kn s.kc s.KB (ts.take q)) n7 ⟨none,0,0,[],i⟩ Z Z Z Z Z Z Z Z Z zo rfl rfl (fun _=>rfl) (fun _=>rfl) sM zow ⟨hp0.symm,Bld.nil_ _ _⟩ ?_ ?_
 ·intro q s F5 hF5 hq hP;obtain⟨hsi,hb⟩:=hP;have hr8:=hr7.mono hF5;have hbl:=hb.len;rw[List.length_take] at hbl;refine zC4 ?_;refine WT.idxL hT hr8 Z Z Z Z Z Z Z Z Z zo (fun y hy b8 off8 ro8 cs8 lx8 hb8 hp8 hrel8=>?_);obtain rfl:lx8=_:=hrel8;have hyok:=hrs y (gM hy);refine zC4 ?_;refine WT.allocT hT Z Z Z Z Z Z (fun i7 hi7=>?_);refine zC4 ?_;refine AW.draw (ps:=[(1,4),(1,5)]) Z Z ?_;refine zC4 ?_;obtain⟨T,hT0⟩:∃T,ts[q]?=some T:=⟨_,gE zo⟩;obtain⟨hpl,hk⟩:=hkid q y T hy hT0;have hsp:=hk hpl hyok _ (hE.mono hF5);rw[←hsi] at hsp;unfold symV at hsp
  refine WT.call1F 5 Tryd.func30 Z Z Z Z Z Z Z (fun _=>rfl) (P:=fun F' v B'=>B'=psB g p (pos (q+1))∧∃cs,v=.agg ⟨cs⟩∧tTree.rel F' cs T) (hsp.mono fun F' v o _ h=>⟨_,h.1,rfl,h.2⟩) (fun F6 v B6 hF6 hv=>?_);obtain⟨rfl,cs,rfl,hrel⟩:=hv;unfold psB psC;obtain⟨tr,tu,tks⟩:=T;obtain⟨za,zn,zc,rfl,_,_⟩:=tTree_cases hrel;refine WT.buildT hT Z Z Z Z Z Z Z Z Z Z Z Z Z Z (fun i66 hi66=>?_);refine WT.appendT (R:=tTree) (ys:=[.mk tr tu tks]) hT 3 (hb.mono hF6) Z (fun _=>rfl) Z Z Z Z Z Z Z Z Z Z Z (fun h0 s0=>news_own hT s0 0 Z Z Z Z) (Cells.single (R:=tTree) hrel) Z (by decide) zom (fun a7 c7 B7 hB7=>?_)
  refine zC4 ?_;refine⟨zrC,?_⟩;refine⟨⟨a7,s.kn+1,c7,B7,pos (q+1)⟩,sM,zow,rfl,?_⟩;show Bld tTree F6 a7 (s.kn+1) c7 B7 (ts.take (q+1));rw[List.take_add_one,hT0];exact hB7
 ·intro s F5 hF5 hP;obtain⟨hsi,hb⟩:=hP;rw[hr7l,hpn] at hsi;rw[hr7l,←htl,List.take_length] at hb;refine AW.freezeAll 1 Z Z (fun F6 hF6 hB6=>?_);have hA:=hb.frozen hF6 hB6;refine zC4 ?_;subst hsi;exact AW.ret ⟨_,[[(p.ip,.cells false [.int .i64 g.terms,.int .i64 g.nons,.int .i64 g.start,.slice p.a p.m p.c,.slice p.ra p.rn p.rc,.slice p.ca p.cn p.cc,.slice p.wa p.wn p.wc,.int .i64 (s.i:Nat)])]],⟨_,_,⟨_,rfl,fun G h0 s0=>loadA_cells (s0.has (p:=2) rfl me) (readT_ok hT rfl)⟩,rfl,rfl⟩,zsb,rfl,_,rfl,tTree_mk hA zo⟩
theorem parse_bad(hg:Valid g)(hw:w.length≤2000)(hw2:∀t∈w,t<g.terms)(hTR:TabR g tab R){n i k j:Nat}{r:Rule}{ts:List Tree}{pos:Nat→Nat}(h:tab n (nextW g w i)=some k)(hr:g.rules[k]?=some r)(hp0:pos 0=i){q0:Nat}{s0:Sym}(hs0:r.right[q0]?=some s0)(htl:ts.length=q0)
  (hkid:∀q s T,r.right[q]?=some s→ts[q]?=some T→pos q≤w.length∧POk g p R w s (pos q) T (pos (q+1))) (hpq:pos q0≤w.length) (hbad:PBad g p R w s0 (pos q0) j):PBad g p R w ⟨false,n⟩ i j:=by
 intro hi hs F hE;have hsn:n<g.nons:=by unfold SymOk at hs;rw[if_neg (by simp)] at hs;exact hs
 obtain⟨row,z,hrow,hrl,hz,hzv⟩:=hTR.2 n _ hsn (nextW_le hw2 i);rw[h] at hzv;simp only at hzv;subst hzv;have hnl:=nextW_le hw2 i;have hgt:=hg.range.terms;have hkl:=(gS hr).1;have hgr:=hg.range.rules;have hgn:=hg.range.nons;have hRl:=hE.tab.len;have hRl2:=hTR.1;unfold symV psB;have hq0:=(gS hs0).1;refine SpecPan.fn (n:=71) Tryd.func30 rfl rfl fun own=>?_;refine AW.seq (AW.reg ?_);refine WT.boxT Z Z Z Z Z Z (fun i3 hi3=>?_);refine WT.freezeAll 0 Z Z (fun F0 hF0 hB0=>?_);have hi3:=hB0 i3 _ me;have hE:=hE.mono hF0;refine WT.allocT hT Z Z Z Z Z Z (fun i4 hi4=>?_);refine zC4 ?_
 refine AW.cond Z (fun h=>(by cases h)) (fun _=>?_);refine zC4 ?_;refine AW.draw (ps:=[(4,10),(4,14),(6,10),(6,14),(8,10),(8,14),(12,14)]) Z Z ?_;unfold psC;refine zC4 ?_;refine WT.idxL hT hE.tab Z Z Z Z Z Z Z Z Z (by dsimp only;omega) (fun row' hrow' b1 off ro cs lx hb1 hp1 hrel=>?_);obtain rfl:row'=row:=Option.some.inj (hrow'.symm.trans hrow);obtain⟨b2,n2,d2,rfl,hrow2⟩:=hrel;have hrl2:=hrow2.len;refine zC4 ?_;refine WT.callLend 2 Tryd.func56 Z Z Z Z Z Z Z (fun G hG hBG=>pnext_spec G g hg (hE.mono hG) hw hi (hBG _ _ me)) (fun v hv=>?_);subst hv;generalize nextW g w i=q at hz hnl
 refine WT.idxL hT hrow2 Z Z Z Z Z Z Z Z Z zo (fun z' hz' b3 off3 ro3 cs3 lx3 hb3 hp3 hrel3=>?_);obtain rfl:z'=(k:Int):=Option.some.inj (hz'.symm.trans hz);obtain rfl:lx3=_:=hrel3;refine zC4 ?_;refine WT.allocT hT Z Z Z Z Z Z (fun i5 hi5=>?_);refine zC4 ?_;refine⟨zrC,?_⟩;refine zC4 ?_;refine AW.cond Z (fun h=>(by simp at h;omega)) (fun _=>?_);refine zC4 ?_;refine WT.idxL hT hE.rules Z Z Z Z Z Z Z Z Z zo (fun r' hr' b6 off6 ro6 cs6 lx6 hb6 hp6 hrel6=>?_);obtain rfl:r'=r:=Option.some.inj (hr'.symm.trans hr);obtain⟨b7,n7,d7,rfl,hr7⟩:=hrel6;have hr7l:=hr7.len;obtain⟨_,hr4,hrs⟩:=hg.right r' (gM hr)
 refine zC4 ?_;refine AW.range (S:=KdS) (fun _=>[]) (fun s=>[(i5,.cells false [.int .i64 k,.int .i64 0,.slice s.ka s.kn s.kc])]::s.KB::[(i4,.cells false [.int .i64 0,.int .i64 0,.slice none 0 0])]::[]::[(p.ip,.cells false [.int .i64 g.terms,.int .i64 g.nons,.int .i64 g.start,.slice p.a p.m p.c,.slice p.ra p.rn p.rc,.slice p.ca p.cn p.cc,.slice p.wa p.wn p.wc,.int .i64 (s.i:Nat)])]::own)
  (fun q s G=>q≤q0∧s.i=pos q∧Bld tTree G s.ka s.kn s.kc s.KB (ts.take q)) n7 ⟨none,0,0,[],i⟩ Z Z Z Z Z Z Z Z Z zo rfl rfl (fun _=>rfl) (fun _=>rfl) sM zow ⟨Nat.zero_le _,hp0.symm,Bld.nil_ _ _⟩ ?_ ?_
 ·intro q s F5 hF5 hq hP;obtain⟨hqq,hsi,hb⟩:=hP;have hr8:=hr7.mono hF5;have hbl:=hb.len;rw[List.length_take] at hbl;refine zC4 ?_;refine WT.idxL hT hr8 Z Z Z Z Z Z Z Z Z zo (fun y hy b8 off8 ro8 cs8 lx8 hb8 hp8 hrel8=>?_);obtain rfl:lx8=_:=hrel8;have hyok:=hrs y (gM hy);refine zC4 ?_;refine WT.allocT hT Z Z Z Z Z Z (fun i7 hi7=>?_);refine zC4 ?_;by_cases e:q<q0
  ·refine AW.draw (ps:=[(1,4),(1,5)]) Z Z ?_;refine zC4 ?_;obtain⟨T,hT0⟩:∃T,ts[q]?=some T:=⟨_,gE zo⟩;obtain⟨hpl,hk⟩:=hkid q y T hy hT0;have hsp:=hk hpl hyok _ (hE.mono hF5);rw[←hsi] at hsp;unfold symV at hsp;refine WT.call1F 5 Tryd.func30 Z Z Z Z Z Z Z (fun _=>rfl) (P:=fun F' v B'=>B'=psB g p (pos (q+1))∧∃cs,v=.agg ⟨cs⟩∧tTree.rel F' cs T) (hsp.mono fun F' v o _ h=>⟨_,h.1,rfl,h.2⟩) (fun F6 v B6 hF6 hv=>?_);obtain⟨rfl,cs,rfl,hrel⟩:=hv;unfold psB psC;obtain⟨tr,tu,tks⟩:=T;obtain⟨za,zn,zc,rfl,_,_⟩:=tTree_cases hrel;refine WT.buildT hT Z Z Z Z Z Z Z Z Z Z Z Z Z Z (fun i66 hi66=>?_)
   refine WT.appendT (R:=tTree) (ys:=[.mk tr tu tks]) hT 3 (hb.mono hF6) Z (fun _=>rfl) Z Z Z Z Z Z Z Z Z Z Z (fun h0 s0=>news_own hT s0 0 Z Z Z Z) (Cells.single (R:=tTree) hrel) Z (by decide) zom (fun a7 c7 B7 hB7=>?_);refine zC4 ?_;refine⟨zrC,?_⟩;refine⟨⟨a7,s.kn+1,c7,B7,pos (q+1)⟩,sM,zow,by omega,rfl,?_⟩;show Bld tTree F6 a7 (s.kn+1) c7 B7 (ts.take (q+1));rw[List.take_add_one,hT0];exact hB7
  ·obtain rfl:q=q0:=by omega
   obtain rfl:y=s0:=Option.some.inj (hy.symm.trans hs0);have hsp:=hbad hpq hyok _ (hE.mono hF5);rw[←hsi] at hsp;unfold symV at hsp;refine AW.panD (ps:=[(1,4),(1,5)]) [_,_,_,_] Z Z Z Z ?_;refine zC4 ?_;refine⟨_,_,[psB g p s.i],_,_,[],rfl,rfl,opA_callF Tryd.func30 Z Z Z,hsp,perm_pick (p:=5) rfl,fun F6 oout hF6 hP=>?_⟩;subst hP
   show WT CC 71 _ _ ((65,.agg ⟨[.int .i64 0,.int .i64 0,.slice none 0 0]⟩)::_) _ ([psB g p j]++([(i7,.cells false [.bool y.term,.int .i64 y.n])]::[(i5,.cells false [.int .i64 k,.int .i64 0,.slice s.ka s.kn s.kc])]::s.KB::[(i4,.cells false [.int .i64 0,.int .i64 0,.slice none 0 0])]::[]::own)) _;refine WT.buildT hT Z Z Z Z Z Z Z Z Z Z Z Z Z Z (fun i66 hi66=>?_)
   refine WT.appendT (R:=tTree) (ys:=[.mk 0 0 []]) hT 4 (hb.mono hF6) Z (fun _=>rfl) Z Z Z Z Z Z Z Z Z Z Z (fun h0 s0=>news_own hT s0 0 Z Z Z Z) (Cells.single (R:=tTree) (tTree_mk (Arr.nil_ _ _) (by simp))) Z (by decide) zom (fun a7 c7 B7 hB7=>?_);refine zC4 ?_;refine⟨zrC,?_⟩;exact⟨[psB g p j],List.Sublist.cons_cons _ (show List.Sublist own ([(i7,.cells false [.bool y.term,.int .i64 y.n])]::[(i5,.cells false [.int .i64 k,.int .i64 0,.slice s.ka s.kn s.kc])]::s.KB::[(i4,.cells false [.int .i64 0,.int .i64 0,.slice none 0 0])]::[]::own) from zsb),rfl⟩
 ·intro s F5 hF5 hP;obtain⟨hqq,_⟩:=hP;omega
end
section
variable {g:Gram}{p:PPl}{R:List (List Int)}{w:List Nat}{tab:Nat→Nat→Option Nat}
def PRes(g:Gram)(p:PPl)(R:List (List Int))(w:List Nat)(s:Sym)(i j:Nat):Option Tree→Prop
 | some T=>POk g p R w s i T j
 | none=>PBad g p R w s i j
def KidR(g:Gram)(p:PPl)(R:List (List Int))(w:List Nat)(l:List Sym)(i j:Nat):Option (List Tree)→Prop
 | some ts=>∃pos:Nat→Nat,pos 0=i∧pos l.length=j∧ts.length=l.length∧∀q s T,l[q]?=some s→ts[q]?=some T→pos q≤w.length∧POk g p R w s (pos q) T (pos (q+1))
 | none=>∃(pos:Nat→Nat) (ts:List Tree) (q0:Nat) (s0:Sym),l[q0]?=some s0∧ts.length=q0∧pos 0=i∧(∀q s T,l[q]?=some s→ts[q]?=some T→pos q≤w.length∧POk g p R w s (pos q) T (pos (q+1)))∧pos q0≤w.length∧PBad g p R w s0 (pos q0) j
def shiftP(i:Nat)(pos:Nat→Nat):Nat→Nat
 | 0=>i
 | q+1=>pos q
theorem KidR.cons{s:Sym}{l:List Sym}{T:Tree}{i m j:Nat}{o:Option (List Tree)}(hi:i≤w.length)(h:POk g p R w s i T m)(h2:KidR g p R w l m j o):KidR g p R w (s::l) i j (o.map (T::·)):=by
 have step:∀(pos:Nat→Nat) (ts:List Tree),pos 0=m→(∀q s T,l[q]?=some s→ts[q]?=some T→pos q≤w.length∧POk g p R w s (pos q) T (pos (q+1)))→
   ∀q s' T',(s::l)[q]?=some s'→(T::ts)[q]?=some T'→shiftP i pos q≤w.length∧POk g p R w s' (shiftP i pos q) T' (shiftP i pos (q+1)):=by
  intro pos ts hm hk q s' T' h3 h4;cases q with
  | zero=>
   simp at h3 h4;subst h3 h4;exact⟨hi,by show POk g p R w s i T (pos 0);rw[hm];exact h⟩
  | succ q=>exact hk q s' T' (by simpa using h3) (by simpa using h4)
 cases o with
 | some ts=>
  obtain⟨pos,q1,q2,q3,q4⟩:=h2;exact⟨shiftP i pos,rfl,q2,by simp[q3],step pos ts q1 q4⟩
 | none=>
  obtain⟨pos,ts,q0,s0,q1,q2,q3,q4,q5,q6⟩:=h2;exact⟨shiftP i pos,T::ts,q0+1,s0,by simpa using q1,by simp[q2],rfl,step pos ts q3 q4,q5,q6⟩
mutual
theorem PR.walk(hg:Valid g)(ok:LLok g tab)(hw:w.length≤2000)(hw2:∀t∈w,t<g.terms)(hTR:TabR g tab R):∀{s:Sym} {i j:Nat} {o:Option Tree},PR g tab w s i o j→PRes g p R w s i j o
 | _,_,_,_,.leaf h=>parse_leaf hg hw h
 | _,_,_,_,.other h=>parse_other hg hw h
 | _,_,_,_,.none h=>parse_none hg hw hw2 hTR h
 | _,i,j,_,.node (ts:=ts) h hr h2=>fun hi=>by
  obtain⟨pos,q1,q2,q3,q4⟩:=PRL.walk hg ok hw hw2 hTR h2 hi;exact parse_node hg hw hw2 hTR h hr q1 q2 q3 q4 hi
 | _,i,j,_,.bad h hr h2=>fun hi=>by
  obtain⟨pos,ts,q0,s0,q1,q2,q3,q4,q5,q6⟩:=PRL.walk hg ok hw hw2 hTR h2 hi;exact parse_bad hg hw hw2 hTR h hr q3 q1 q2 q4 q5 q6 hi
theorem PRL.walk(hg:Valid g)(ok:LLok g tab)(hw:w.length≤2000)(hw2:∀t∈w,t<g.terms)(hTR:TabR g tab R):∀{l:List Sym} {i j:Nat} {o:Option (List Tree)},PRL g tab w l i o j→i≤w.length→KidR g p R w l i j o
 | _,i,_,_,.nil,_=>⟨fun _=>i,rfl,rfl,rfl,fun q s T h _=>by simp at h⟩
 | _,_,_,_,.cons (ts:=ts) h h2,hi=>KidR.cons (o:=some ts) hi (PR.walk hg ok hw hw2 hTR h) (PRL.walk hg ok hw hw2 hTR h2 (PR.le ok h hi).2)
 | _,i,_,_,.stop h,hi=>⟨fun _=>i,[],0,_,rfl,rfl,rfl,fun q s T _ h=>by simp at h,hi,PR.walk hg ok hw hw2 hTR h⟩
 | _,_,_,_,.later h h2,hi=>KidR.cons (o:=none) hi (PR.walk hg ok hw hw2 hTR h) (PRL.walk hg ok hw hw2 hTR h2 (PR.le ok h hi).2)
end
end
def ResOk(g:Gram)(w:List Nat)(F:Frz)(s:Sym)(i:Nat)(v:Value):Prop:=
 v=.agg ⟨[.pointer none,.int .i64 (-1)]⟩∨∃b ro cs t j,v=.agg ⟨[.pointer (some ⟨b,0,none⟩),.int .i64 (j:Nat)]⟩∧F b=some (.cells ro cs)∧tTree.rel F cs t∧TreeOf g w s t i j
theorem ResOk.mono{g:Gram}{w:List Nat}{F G:Frz}{s:Sym}{i:Nat}{v:Value}(h:ResOk g w F s i v)(hF:Frz.le F G):ResOk g w G s i v:=by
 rcases h with h | ⟨b,ro,cs,t,j,h1,h2,h3,h4⟩
 ·exact .inl h
 ·exact .inr ⟨b,ro,cs,t,j,h1,hF _ _ h2,tTree.mono _ _ _ _ hF h3,h4⟩
def MemoOk(g:Gram)(w:List Nat)(F:Frz)(es:Ents (Nat×Nat)):Prop:=∀n i v,Abs.look es (n,i)=some v→ResOk g w F ⟨false,n⟩ i v
theorem MemoOk.mono{g:Gram}{w:List Nat}{F G:Frz}{es:Ents (Nat×Nat)}(h:MemoOk g w F es)(hF:Frz.le F G):MemoOk g w G es:=fun n i v q=>(h n i v q).mono hF
structure PA where
 p:Nat
 im:Nat
 a:Option Addr
 m:Nat
 c:Nat
 b:Option Addr
 k:Nat
 d:Nat
structure ParserAt(F:Frz)(x:PA)(g:Gram)(w:List Nat):Prop where
 blk:∃ro,F x.p=some (.cells ro [.int .i64 g.terms,.int .i64 g.nons,.int .i64 g.start,.slice x.a x.m x.c,.slice x.b x.k x.d,.map (some x.im)])
 rules:Arr tRule F x.a x.m x.c g.rules
 word:Arr tNat F x.b x.k x.d w
theorem ParserAt.mono{F G:Frz}{x:PA}{g:Gram}{w:List Nat}(h:ParserAt F x g w)(hF:Frz.le F G):ParserAt G x g w:=
 ⟨let ⟨ro,q⟩:=h.blk;⟨ro,hF _ _ q⟩,h.rules.mono hF,h.word.mono hF⟩
def Memo(g:Gram)(w:List Nat)(x:PA)(F:Frz)(B:List (Nat×Blk)):Prop:=∃es,B=[(x.im,.map (entsV keyP es))]∧MemoOk g w F es
theorem Memo.mono{g:Gram}{w:List Nat}{x:PA}{F G:Frz}{B:List (Nat×Blk)}(h:Memo g w x F B)(hF:Frz.le F G):Memo g w x G B:=by
 obtain⟨es,e,h⟩:=h;exact⟨es,e,h.mono hF⟩
def meetQ{S:Type}(kn:S→Kno)(ow:S→Own)(P:S→Frz→Prop)(A:Ex→Kno→Frz→Own→Prop):Ex→Kno→Frz→Own→Prop
 | .normal,k',F',own'=>∃s,SubK (kn s) k'∧OwnLe (ow s) own'∧P s F'
 | x,k',F',own'=>A x k' F' own'
theorem joinT{C:Ctx}{n:Nat}{k:Kno}{F:Frz}{own:Own}{A:Ex→Kno→Frz→Own→Prop}{S:Type}(kn:S→Kno)(ow:S→Own)(P:S→Frz→Prop){a b:Code}(h1:AW C n a k F own (meetQ kn ow P A))
  (h2:∀s F',Frz.le F F'→P s F'→AW C n b (kn s) F' (ow s) A):AW C n a k F own (thenQ (fun k' F' own'=>AW C n b k' F' own' A) A):=by
 refine AW.mono h1 fun x k' F' own' hF hx=>?_;cases x with
 | normal=>
  obtain⟨s,q1,q2,q3⟩:=hx;exact AW.weaken q1 (AW.le q2 (h2 s F' hF q3))
 | exit id=>exact hx
 | ret=>exact hx
 | pan=>exact hx
theorem joinK{C:Ctx}{n:Nat}{k:Kno}{F:Frz}{own:Own}{A:Ex→Kno→Frz→Own→Prop}{S:Type}(chg:S→Kno)(ow:S→Own)(P:S→Frz→Prop){a b:Code}(h1:AW C n a k F own (joinQ chg k ow P A))
  (h2:∀s F',Frz.le F F'→P s F'→AW C n b (chg s++k) F' (ow s) A):AW C n a k F own (thenQ (fun k' F' own'=>AW C n b k' F' own' A) A):=
 joinT (fun s=>chg s++k) ow P h1 h2
theorem storeS{C:Ctx}{T:RT}(hT:rowsOk C T=true){n:Nat}{k:Kno}{F:Frz}{own:Own}{ops rest:List Oper}{o:Oper}{Q:Kno→Frz→Own→List Rec→Prop}(p q:Nat){B B':List (Nat×Blk)}{own':Own}{t:TypeId}{a x:Operand}{i off m:Nat}{cs:List Value}{v:Value}(hop:o.op=.store t a x)(hw:wantK ops k o=some true)(hd:o.dst=none)(ha:evK C k a=some (.pointer (some ⟨i,off,none⟩)))
  (hx:evK C k x=some v) (hp:own[p]?=some B) (hq:B[q]?=some (i,.cells false cs)) (hm:sizeT T t=some m) (hl:v.cells.toList.length=m) (h1:v.cells.toList.all one=true) (hlt:off+m≤cs.length)
  (hB:B.set q (i,.cells false (spliceL cs off v.cells.toList))=B') (ho:setO own p B'=some own')
  (h:WT C n ops rest k F own' (fun k2 F2 own2 rs=>Q k2 F2 own2 (⟨F,own,F,own',[i]⟩::rs))) :
  WT C n ops (o::rest) k F own Q:=by
 have e2:=setO_ok _ _ _ _ ho;subst hB;subst e2;exact WT.store (C:=C) (n:=n) (k:=k) (F:=F) (Q:=Q) (rest:=rest) (ops:=ops) p q hop hw ha hx hp hq (sizeT_ok hT hm) hl h1 hlt (by rw[hd];exact h)
structure PkI where
 ks:List Tree
 a:Option Addr
 c:Nat
 Bk:List (Nat×Blk)
 B:List (Nat×Blk)
 e:Int
 l:Nat
structure PO where
 q:Option Addr
 e:Int
 B:List (Nat×Blk)
theorem WT.assertNil{C:Ctx}{T:RT}{n:Nat}{k:Kno}{F:Frz}{own:Own}{ops rest:List Oper}{o:Oper}{Q:Kno→Frz→Own→List Rec→Prop}(hT:rowsOk C T=true){t tx:TypeId}{xo:Operand}{z:Value}{r:Row}{dst:Nat}(hop:o.op=.typeAssert xo tx t true)(hw:wantK ops k o=some true)(hdst:o.dst=some dst)(hn:Nat.blt dst n=true)
  (hx:evK C k xo=some .nilIface) (hr:rowOf T t=some r) (hz:zeroT T t=some z)
  (h:WT C n ops rest ((dst,.tuple ⟨[z,.bool false]⟩)::k) F own (fun k2 F2 own2 rs=>Q k2 F2 own2 (⟨F,own,F,own,[]⟩::rs))):WT C n ops (o::rest) k F own Q:=by
 refine WT.still hw (l:=[]) (by rw[hop];rfl) (fun h0 _=>?_) (by rw[hdst,putK_some hn];exact h);obtain⟨d,h1,h2⟩:=not_iface hT hr;rw[hop];simp only[opA,hx,typeAssertA,h1,h2,cond_false,cond_true,zeroT_ok hT hz];rfl
def zTree:List Value:=[.int .i64 0,.int .i64 0,.slice none 0 0]
theorem close_nil(F:Frz)(i9 i4 i5 i6:Nat):SpecClose CC .nilIface 29 [.pointer (some ⟨i9,0,none⟩),.pointer (some ⟨i4,0,none⟩),.pointer (some ⟨i5,0,none⟩),.pointer (some ⟨i6,0,none⟩)] F [] fun _ o=>o=[]:=by
 refine SpecClose.fn (n:=17) Tryd.func29 Z Z Z Z Z fun own=>?_;refine WT.assertNil (z:=.agg ⟨[]⟩) hT Z Z Z Z Z Z Z ?_;refine zC4 ?_;refine WT.allocT hT Z Z Z Z Z Z (fun i4 hi4=>?_);refine zC4 ?_;refine AW.cond Z (fun h=>(by cases h)) (fun _=>?_);refine zC4 ?_;exact⟨.inl rfl,[],zsb,rfl⟩
theorem close_pan(F:Frz)(g:Gram)(p:PPl)(j i9 i4 i5 i6:Nat):SpecClose CC (panV CC) 29 [.pointer (some ⟨i9,0,none⟩),.pointer (some ⟨i4,0,none⟩),.pointer (some ⟨i5,0,none⟩),.pointer (some ⟨i6,0,none⟩)] F
  [[(i9,.cells false [.pointer (some ⟨p.ip,0,none⟩)])],psB g p j,[(i4,.cells false zTree)],[(i5,.cells false [.int .i64 0])],[(i6,.cells false [.int .i64 0])]]
  fun _ o=>o=[[(i9,.cells false [.pointer (some ⟨p.ip,0,none⟩)])],psB g p j,[(i4,.cells false zTree)],[(i5,.cells false [.int .i64 j])],[(i6,.cells false [.int .i64 10])]]:=by
 unfold psB psC zTree;refine SpecClose.fn (n:=17) Tryd.func29 Z Z Z Z Z fun own=>?_;refine WT.assertT (v:=.agg ⟨[]⟩) hT Z Z Z Z Z Z ?_;refine zC4 ?_;refine WT.allocT hT Z Z Z Z Z Z (fun ia hia=>?_);refine zC4 ?_;refine AW.cond Z (fun _=>?_) (fun h=>(by cases h));refine zC7 ?_;exact⟨.inl rfl,[[(i9,.cells false [.pointer (some ⟨p.ip,0,none⟩)])],psB g p j,[(i4,.cells false zTree)],[(i5,.cells false [.int .i64 j])],[(i6,.cells false [.int .i64 10])]],zsb,rfl⟩
theorem tabR_of{g:Gram}{P:List (List Bool)}{R:List (List Int)}(hl:R.length=g.nons)(hr:∀n,n<g.nons→ROk g P n (g.terms+1) (R.getD n [])):TabR g (tabP g P) R:=by
 refine⟨hl,fun n t hn ht=>?_⟩;have hn2:n<R.length:=by omega
 obtain⟨h1,h2⟩:=hr n hn;rw[List.getD_eq_getElem?_getD,gE hn2] at h1 h2;have h3:=h2 t zo;simp only[Option.getD_some] at h1 h3;have ht2:t<(R[n]).length:=by omega
 rw[List.getD_eq_getElem?_getD,gE ht2] at h3;refine⟨R[n],(R[n])[t],gE hn2,h1,gE ht2,?_⟩;simp only[Option.getD_some] at h3;rw[h3];unfold tabP;rw[if_pos ⟨hn,ht⟩];cases candsF g P n t g.rules.length<;>rfl
def PAns(g:Gram)(w:List Nat)(F:Frz)(v:Value):Prop:=
 (∃T cs,v=.tuple ⟨[.agg ⟨cs⟩,.int .i64 0,.int .i64 0]⟩∧tTree.rel F cs T∧TreeOf g w ⟨false,g.start⟩ T 0 w.length)∨
 (∃j:Nat,v=.tuple ⟨[.agg ⟨zTree⟩,.int .i64 j,.int .i64 10]⟩∧¬∃T,TreeOf g w ⟨false,g.start⟩ T 0 w.length)
theorem close_fin{g:Gram}{w:List Nat}{p:PPl}{j i9 i4 i5 i6:Nat}{k:Kno}{F:Frz}{own own' fr:Own}(h4:lk k 4=some (.pointer (some ⟨i4,0,none⟩)))(h5:lk k 5=some (.pointer (some ⟨i5,0,none⟩)))(h6:lk k 6=some (.pointer (some ⟨i6,0,none⟩)))
  (hperm:own'.Perm ([[(i9,.cells false [.pointer (some ⟨p.ip,0,none⟩)])],psB g p j,[(i4,.cells false zTree)],[(i5,.cells false [.int .i64 0])],[(i6,.cells false [.int .i64 0])]]++fr)) (hfr:own.Sublist fr) (hno:¬∃T,TreeOf g w ⟨false,g.start⟩ T 0 w.length) :
  closeQ CC 29 [.pointer (some ⟨i9,0,none⟩),.pointer (some ⟨i4,0,none⟩),.pointer (some ⟨i5,0,none⟩),.pointer (some ⟨i6,0,none⟩)] Tryd.f10 own (fun F' v o=>o=[]∧PAns g w F' v) (panV CC) k F own':=by
 refine⟨_,fr,_,close_pan F g p j i9 i4 i5 i6,hperm,fun F3 oout hF hP=>?_⟩;subst hP;exact⟨_,[],⟨_,_,⟨_,h4,fun G h0 s0=>loadA_cells (s0.has (p:=2) rfl me) (readT_ok hT rfl)⟩,⟨_,_,⟨_,h5,fun G h0 s0=>loadA_cells (s0.has (p:=3) rfl me) (readT_ok hT rfl)⟩,
  ⟨_,_,⟨_,h6,fun G h0 s0=>loadA_cells (s0.has (p:=4) rfl me) (readT_ok hT rfl)⟩,rfl,rfl⟩,rfl⟩,rfl⟩,((((hfr.cons _).cons _).cons _).cons _).cons _,rfl,.inr ⟨j,rfl,hno⟩⟩
theorem close_good{g:Gram}{w:List Nat}{i9 i4 i5 i6:Nat}{k:Kno}{F:Frz}{own own':Own}{T:Tree}{tr:Int}{tu:Nat}{za:Option Addr}{zn zc:Nat}(h4:lk k 4=some (.pointer (some ⟨i4,0,none⟩)))(h5:lk k 5=some (.pointer (some ⟨i5,0,none⟩)))(h6:lk k 6=some (.pointer (some ⟨i6,0,none⟩)))
  {q4 q5 q6:Nat} (g4:own'[q4]?=some [(i4,.cells false [.int .i64 tr,.int .i64 tu,.slice za zn zc])]) (g5:own'[q5]?=some [(i5,.cells false [.int .i64 0])]) (g6:own'[q6]?=some [(i6,.cells false [.int .i64 0])]) (hfr:own.Sublist own')
  (hrel:tTree.rel F [.int .i64 tr,.int .i64 tu,.slice za zn zc] T) (hT0:TreeOf g w ⟨false,g.start⟩ T 0 w.length) :
  closeQ CC 29 [.pointer (some ⟨i9,0,none⟩),.pointer (some ⟨i4,0,none⟩),.pointer (some ⟨i5,0,none⟩),.pointer (some ⟨i6,0,none⟩)] Tryd.f10 own (fun F' v o=>o=[]∧PAns g w F' v) .nilIface k F own':=by
 refine⟨[],own',_,close_nil F i9 i4 i5 i6,List.Perm.refl _,fun F3 oout hF hP=>?_⟩;subst hP;exact⟨_,[],⟨_,_,⟨_,h4,fun G h0 s0=>loadA_cells (s0.has (p:=q4) g4 me) (readT_ok hT rfl)⟩,⟨_,_,⟨_,h5,fun G h0 s0=>loadA_cells (s0.has (p:=q5) g5 me) (readT_ok hT rfl)⟩,
  ⟨_,_,⟨_,h6,fun G h0 s0=>loadA_cells (s0.has (p:=q6) g6 me) (readT_ok hT rfl)⟩,rfl,rfl⟩,rfl⟩,rfl⟩,hfr,rfl,.inl ⟨T,_,rfl,tTree.mono _ _ _ _ hF hrel,hT0⟩⟩
theorem perm5{α:Type}(x0 x1 x2 x3 x4 x5 x6:α)(l:List α):(x0::x1::x2::x3::x4::x5::x6::l).Perm (x1::x2::x6::x5::x4::x0::x3::l):=by
 have p1:(x0::x1::x2::x3::x4::x5::x6::l).Perm (x1::x0::x2::x3::x4::x5::x6::l):=List.Perm.swap _ _ _;refine p1.trans (List.Perm.cons _ ?_);refine(List.Perm.swap x2 x0 _).trans (List.Perm.cons _ ?_);refine(perm_pick (p:=4) (x:=x6) rfl).trans (List.Perm.cons _ ?_);refine(perm_pick (p:=3) (x:=x5) rfl).trans (List.Perm.cons _ ?_);refine(perm_pick (p:=2) (x:=x4) rfl).trans (List.Perm.cons _ ?_);exact List.Perm.refl _
theorem perm4{α:Type}(x1 x2 x3 x4 x5 x6:α)(l:List α):(x2::x1::x3::x4::x5::x6::l).Perm (x1::x2::x6::x5::x4::x3::l):=by
 refine(List.Perm.swap x1 x2 _).trans (List.Perm.cons _ (List.Perm.cons _ ?_));refine(perm_pick (p:=3) (x:=x6) rfl).trans (List.Perm.cons _ ?_);refine(perm_pick (p:=2) (x:=x5) rfl).trans (List.Perm.cons _ ?_);refine(perm_pick (p:=1) (x:=x4) rfl).trans (List.Perm.cons _ ?_);exact List.Perm.refl _
theorem predParse_spec(F:Frz)(g:Gram)(hg:Valid g){a:Option Addr}{m c:Nat}(hr:Arr tRule F a m c g.rules){b:Option Addr}{n d:Nat}{w:List Nat}(hwA:Arr tNat F b n d w)(hw:w.length≤2000)(hw2:∀t∈w,t<g.terms)
  (hno:∀P,(∀i r,g.rules[i]?=some r→RowP g r (P.getD i []))→∀n t,n<g.nons→t≤g.terms→fewC g P n t) :
  Abs.Spec CC 10 [.agg ⟨gramCells g a m c⟩,.slice b n d] F [] fun F' v o=>o=[]∧PAns g w F' v:=by
 have hwl:=hwA.len;unfold gramCells;refine Spec.dfn (n:=53) Tryd.func10 rfl rfl fun own=>?_;refine DW.seq rfl (AW.reg ?_);refine WT.boxT Z Z Z Z Z Z (fun i2 hi2=>?_);refine WT.freezeAll 0 Z Z (fun F0 hF0 hB0=>?_);have hi2:=hB0 i2 _ me;have hr:=hr.mono hF0;have hwA:=hwA.mono hF0;refine WT.allocT hT Z Z Z Z Z Z (fun i4 hi4=>?_);refine WT.allocT hT Z Z Z Z Z Z (fun i5 hi5=>?_);refine WT.allocT hT Z Z Z Z Z Z (fun i6 hi6=>?_);refine WT.nil ?_;refine DW.seq rfl (AW.reg ?_);refine zC4 ?_;have hof:=predictOf_spec F0 g hg hr;unfold gramCells at hof
 refine WT.callF0 Tryd.func6 Z Z Z Z Z Z hof (fun F1 v hF1 hv=>?_);obtain⟨ra,rn,rc,R,ca,cn,cc,P,rfl,hRA,hRl,hRr,hcn,hcf,hPr⟩:=hv;have hi2:=hF1 _ _ hi2;have hr1:=hr.mono hF1;have hw1:=hwA.mono hF1;refine zC4 ?_;refine WT.allocT hT Z Z Z Z Z Z (fun i7 hi7=>?_);refine zC4 ?_;refine DW.seq rfl ?_;refine zC4 ?_;refine AW.cond Z (fun h=>(by cases h)) (fun _=>?_);refine zC4 ?_;refine DW.seq rfl ?_;refine zC4 ?_;have hgw:=gword_spec F1 g (a:=a) (m:=m) (c:=c) 2000 (by decide) hw1 zo;rw[wordErr_ok zo hw2] at hgw;unfold gramCells at hgw;refine WT.callV Tryd.func28 Z Z Z Z Z Z hgw (fun v hv=>?_);subst hv
 refine zC4 ?_;refine AW.cond Z (fun h=>(by cases h)) (fun _=>?_);refine zC4 ?_;refine DW.seq rfl ?_;refine zC4 ?_;have hcn0:cn=0:=hcn.2 (hno P hPr);refine AW.cond Z (fun h=>(by simp at h;omega)) (fun _=>?_);refine zC4 ?_;refine DW.seq rfl ?_;refine zC4 ?_;refine WT.boxT Z Z Z Z Z Z (fun ip hip=>?_);refine WT.allocT hT Z Z Z Z Z Z (fun i9 hi9=>?_);refine zC4 ?_;refine DW.defer rfl rfl ?_;refine zC4 ?_;refine⟨_,_,rfl,?_⟩;obtain⟨p,hp⟩:∃p:PPl,p=⟨ip,a,m,c,ra,rn,rc,ca,cn,cc,b,n,d⟩:=⟨_,rfl⟩;have hE:PEnv F1 g p R w:=by subst hp;exact⟨hr1,hRA,hw1⟩
 have hpi:p.ip=ip:=by rw[hp]
 have hpB:∀i,psB g p i=[(ip,.cells false [.int .i64 g.terms,.int .i64 g.nons,.int .i64 g.start,.slice a m c,.slice ra rn rc,.slice ca cn cc,.slice b n d,.int .i64 (i:Nat)])]:=fun i=>by rw[hp];rfl
 have ok:=llok_of hg hPr (hno P hPr);have hTR:=tabR_of hRl hRr;have hst:SymOk g.terms g.nons ⟨false,g.start⟩:=hg.range.start;obtain⟨o,j,hpr⟩:=pr_start (w:=w) hg ok;have hwk:=PR.walk (p:=p) hg ok hw hw2 hTR hpr;cases o with
 | some T=>
  have hsp:=hwk (Nat.zero_le _) hst F1 hE;have hTj:=PR.sound ok hpr;have hjl:=(PR.le ok hpr (Nat.zero_le _)).2;rw[hpB 0,hpi] at hsp;unfold symV at hsp;refine zC4 ?_;refine AW.draw (ps:=[(0,3),(0,5),(2,5)]) Z Z ?_;refine zC4 ?_;refine WT.callV Tryd.func31 Z Z Z Z Z Z (gN_spec _ _) (fun v hv=>?_);subst hv;refine WT.call1F 1 Tryd.func30 Z Z Z Z Z Z Z (fun _=>rfl) (P:=fun F' v B'=>B'=psB g p j∧∃cs,v=.agg ⟨cs⟩∧tTree.rel F' cs T) (hsp.mono fun F' v o _ h=>⟨_,h.1,rfl,h.2⟩) (fun F2 v B2 hF2 hv=>?_);obtain⟨rfl,cs,rfl,hrel⟩:=hv;have hi2:=hF2 _ _ hi2;rw[hpB j];obtain⟨tr,tu,tks⟩:=T
  obtain⟨za,zn,zc,rfl,_,_⟩:=tTree_cases hrel;refine WT.allocT hT Z Z Z Z Z Z (fun i10 hi10=>?_);refine zC4 ?_;refine⟨zrC,?_⟩;refine zC4 ?_;refine AW.cond Z (fun hlt=>?_) (fun hge=>?_)
  ·have hlt:j<w.length:=by simp at hlt;omega
   refine AW.panS [_,_] Z Z ?_;refine zC4 ?_;refine WT.ifaceT hT Z Z Z Z Z Z ?_;refine zC4 ?_;refine⟨rfl,rfl,?_⟩
   refine close_fin (p:=p) (j:=j) (fr:=[(i10,.cells false [.int .i64 tr,.int .i64 tu,.slice za zn zc])]::[(i7,.cells false [.slice ra rn rc,.slice ca cn cc])]::[]::own) Z Z Z ?_ zsb (fun ⟨T',hT'⟩=>by
    have:=(PR.same hpr (pr_whole ok hT')).2;omega)
   ·rw[hpB j,hpi];exact perm5 _ _ _ _ _ _ _ _
  ·have hje:j=w.length:=by simp at hge;omega
   refine zC7 ?_;exact AW.ret (close_good (q4:=6) (q5:=5) (q6:=4) Z Z Z Z Z Z zsb hrel (hje▸hTj))
 | none=>
  have hsp:=hwk (Nat.zero_le _) hst F1 hE;rw[hpB 0,hpi] at hsp;unfold symV at hsp;refine zC4 ?_;refine AW.panD (ps:=[(0,3),(0,5),(2,5)]) [_,_,_,_] Z Z Z Z ?_;refine zC4 ?_;refine WT.callV Tryd.func31 Z Z Z Z Z Z (gN_spec _ _) (fun v hv=>?_);subst hv;refine zC4 ?_;refine⟨_,_,[[(ip,.cells false [.int .i64 g.terms,.int .i64 g.nons,.int .i64 g.start,.slice a m c,.slice ra rn rc,.slice ca cn cc,.slice b n d,.int .i64 (0:Nat)])]],_,_,[],rfl,rfl,opA_callF Tryd.func30 Z Z Z,hsp,perm_pick (p:=1) rfl,fun F2 oout hF2 hP=>?_⟩;subst hP;have hi2:=hF2 _ _ hi2;rw[hpB j]
  show WT CC 53 _ _ ((42,.agg ⟨[.int .i64 0,.int .i64 0,.slice none 0 0]⟩)::_) _ ([(ip,.cells false [.int .i64 g.terms,.int .i64 g.nons,.int .i64 g.start,.slice a m c,.slice ra rn rc,.slice ca cn cc,.slice b n d,.int .i64 (j:Nat)])]::[(i9,.cells false [.pointer (some ⟨ip,0,none⟩)])]::[(i7,.cells false [.slice ra rn rc,.slice ca cn cc])]::[(i6,.cells false [.int .i64 0])]::[(i5,.cells false [.int .i64 0])]::[(i4,.cells false [.int .i64 0,.int .i64 0,.slice none 0 0])]::[]::own) _;refine WT.allocT hT Z Z Z Z Z Z (fun i10 hi10=>?_);refine zC4 ?_;refine⟨zrC,?_⟩
  refine close_fin (p:=p) (j:=j) (fr:=[(i7,.cells false [.slice ra rn rc,.slice ca cn cc])]::[]::own) Z Z Z ?_ zsb (fun ⟨T',hT'⟩=>by
    cases (PR.same hpr (pr_whole ok hT')).1)
  rw[hpB j,hpi];exact perm4 _ _ _ _ _ _ _
structure RS where
 xs:List Nat
 a:Option Addr
 c:Nat
 B:List (Nat×Blk)
mutual
theorem TreeOf.ends{g:Gram}{w:List Nat}:∀{t:Tree} {s s':Sym} {i j j':Nat},TreeOf g w s t i j→TreeOf g w s' t i j'→j=j'
 | .mk _ _ _,_,_,_,_,_,.leaf _,h=>by
  generalize hr:(-1:Int)=r at h;cases h with
  | leaf _=>rfl
  | node _ _=>omega
 | .mk _ _ ks,_,_,_,_,_,.node (k:=k) h h2,h'=>by
  generalize hr:(k:Int)=r at h';cases h' with
  | leaf _=>omega
  | node _ h3=>exact TreesOf.ends h2 h3
theorem TreesOf.ends{g:Gram}{w:List Nat}:∀{ts:List Tree} {l l':List Sym} {i j j':Nat},TreesOf g w l ts i j→TreesOf g w l' ts i j'→j=j'
 | [],_,_,_,_,_,.nil,h=>by cases h;rfl
 | t::ts,_,_,_,_,_,.cons h1 h2,h=>by
  cases h with
  | cons h3 h4=>
   obtain rfl:=TreeOf.ends h1 h3;exact TreesOf.ends h2 h4
end
mutual
theorem TreeOf.toDer{g:Gram}{w:List Nat}:∀{t:Tree} {s:Sym} {i j:Nat},TreeOf g w s t i j→Der g w s i j
 | .mk _ _ _,_,_,_,.leaf h=>.term h
 | .mk _ _ ks,_,_,_,.node h h2=>.non (gM h) (TreesOf.toDer h2)
theorem TreesOf.toDer{g:Gram}{w:List Nat}:∀{ts:List Tree} {l:List Sym} {i j:Nat},TreesOf g w l ts i j→Ders g w l i j
 | [],_,_,_,.nil=>.nil
 | t::ts,_,_,_,.cons h1 h2=>.cons (TreeOf.toDer h1) (TreesOf.toDer h2)
end
section
variable {g:Gram}{w:List Nat}
end
theorem few_of{g:Gram}{P P':List (List Bool)}(hP:∀i r,g.rules[i]?=some r→RowP g r (P.getD i []))(hP':∀i r,g.rules[i]?=some r→RowP g r (P'.getD i [])){n t:Nat}(h:fewC g P n t):fewC g P' n t:=by
 have:candsF g P' n t g.rules.length=candsF g P n t g.rules.length:=by
  unfold candsF;refine List.filter_congr fun i hi=>?_;have hr:=gE (List.mem_range.1 hi);unfold candB;rw[hr];congr 1;rw[Bool.eq_iff_iff,(hP _ _ hr).2,(hP' _ _ hr).2]
 unfold fewC at h ⊢;rw[this];exact h
def GoodS(g:Gram)(tab:Nat→Nat→Option Nat)(w:List Nat)(s:Sym)(i:Nat):Option (Tree×Nat)→Prop
 | some a=>∀T J,PR g tab w s i (some T) J→T=a.1∧J=a.2
 | none=>∀T J,¬PR g tab w s i (some T) J
def ResOkP(g:Gram)(tab:Nat→Nat→Option Nat)(w:List Nat)(F:Frz)(s:Sym)(i:Nat)(v:Value):Prop:=
 (v=.agg ⟨[.pointer none,.int .i64 (-1)]⟩∧GoodS g tab w s i none)∨∃b ro cs t j,v=.agg ⟨[.pointer (some ⟨b,0,none⟩),.int .i64 (j:Nat)]⟩∧F b=some (.cells ro cs)∧tTree.rel F cs t∧TreeOf g w s t i j∧GoodS g tab w s i (some (t,j))
theorem ResOkP.mono{g:Gram}{tab:Nat→Nat→Option Nat}{w:List Nat}{F G:Frz}{s:Sym}{i:Nat}{v:Value}(h:ResOkP g tab w F s i v)(hF:Frz.le F G):ResOkP g tab w G s i v:=by
 rcases h with h | ⟨b,ro,cs,t,j,h1,h2,h3,h4⟩
 ·exact .inl h
 ·exact .inr ⟨b,ro,cs,t,j,h1,hF _ _ h2,tTree.mono _ _ _ _ hF h3,h4⟩
theorem ResOkP.shape{g:Gram}{tab:Nat→Nat→Option Nat}{w:List Nat}{F:Frz}{s:Sym}{i:Nat}{v:Value}(h:ResOkP g tab w F s i v):∃(q:Option Addr) (e:Int),v=.agg ⟨[.pointer q,.int .i64 e]⟩:=by
 rcases h with h | ⟨b,ro,cs,t,j,h1,_⟩
 ·exact⟨_,_,h.1⟩
 ·exact⟨_,_,h1⟩
def MemoOkP(g:Gram)(tab:Nat→Nat→Option Nat)(w:List Nat)(F:Frz)(es:Ents (Nat×Nat)):Prop:=∀n i v,Abs.look es (n,i)=some v→ResOkP g tab w F ⟨false,n⟩ i v
theorem MemoOkP.mono{g:Gram}{tab:Nat→Nat→Option Nat}{w:List Nat}{F G:Frz}{es:Ents (Nat×Nat)}(h:MemoOkP g tab w F es)(hF:Frz.le F G):MemoOkP g tab w G es:=fun n i v q=>(h n i v q).mono hF
structure PAP where
 p:Nat
 im:Nat
 a:Option Addr
 m:Nat
 c:Nat
 b:Option Addr
 k:Nat
 d:Nat
structure ParserAtP(F:Frz)(x:PAP)(g:Gram)(w:List Nat):Prop where
 blk:∃ro,F x.p=some (.cells ro [.int .i64 g.terms,.int .i64 g.nons,.int .i64 g.start,.slice x.a x.m x.c,.slice x.b x.k x.d,.map (some x.im)])
 rules:Arr tRule F x.a x.m x.c g.rules
 word:Arr tNat F x.b x.k x.d w
theorem ParserAtP.mono{F G:Frz}{x:PAP}{g:Gram}{w:List Nat}(h:ParserAtP F x g w)(hF:Frz.le F G):ParserAtP G x g w:=
 ⟨let ⟨ro,q⟩:=h.blk;⟨ro,hF _ _ q⟩,h.rules.mono hF,h.word.mono hF⟩
def MemoP(g:Gram)(tab:Nat→Nat→Option Nat)(w:List Nat)(x:PAP)(F:Frz)(B:List (Nat×Blk)):Prop:=∃es,B=[(x.im,.map (entsV keyP es))]∧MemoOkP g tab w F es
theorem MemoP.mono{g:Gram}{tab:Nat→Nat→Option Nat}{w:List Nat}{x:PAP}{F G:Frz}{B:List (Nat×Blk)}(h:MemoP g tab w x F B)(hF:Frz.le F G):MemoP g tab w x G B:=by
 obtain⟨es,e,h⟩:=h;exact⟨es,e,h.mono hF⟩
def ParseOkP(g:Gram)(tab:Nat→Nat→Option Nat)(w:List Nat)(x:PAP)(n i:Nat):Prop:=∀(F:Frz) (B:List (Nat×Blk)),ParserAtP F x g w→MemoP g tab w x F B→
 Abs.Spec CC 34 [.pointer (some ⟨x.p,0,none⟩),.agg ⟨[.int .i64 n,.int .i64 i]⟩] F [B] fun F' v o=>∃B',o=[B']∧MemoP g tab w x F' B'∧ResOkP g tab w F' ⟨false,n⟩ i v
theorem symbolP_spec(g:Gram)(tab:Nat→Nat→Option Nat)(w:List Nat)(hw:w.length≤1000000)(x:PAP)(s:Sym)(i:Nat)(hi:i≤w.length)(hrec:s.term=false→ParseOkP g tab w x s.n i)(F:Frz)(B:List (Nat×Blk))(hx:ParserAtP F x g w)(hB:MemoP g tab w x F B) :
  Abs.Spec CC 62 [.pointer (some ⟨x.p,0,none⟩),.agg ⟨[.bool s.term,.int .i64 s.n]⟩,.int .i64 i] F [B] fun F' v o=>∃B',o=[B']∧MemoP g tab w x F' B'∧ResOkP g tab w F' s i v:=by
 obtain⟨⟨ro,hblk⟩,hr,hwd⟩:=hx;have hwl:=hwd.len;refine Abs.Spec.fn (n:=43) Tryd.func62 rfl rfl fun own=>?_;refine AW.seq (AW.reg ?_);refine WT.boxT Z Z Z Z Z Z (fun i4 hi4=>?_);refine WT.allocT hT Z Z Z Z Z Z (fun i6 hi6=>?_);refine zB4 ?_;refine AW.cond Z (fun h=>?_) (fun h=>?_)
 ·have h:s.term=false:=by simpa using h
  refine zB4 ?_;refine WT.call1F 2 Tryd.func34 Z Z Z Z Z Z Z (fun _=>rfl) (hrec h _ _ ⟨⟨ro,hblk⟩,hr,hwd⟩ hB) (fun F1 v B1 hF1 hv=>?_);obtain⟨hB1,hv⟩:=hv;obtain⟨q,e,rfl⟩:=hv.shape;refine zB4 ?_;refine AW.ret ⟨_,[_],⟨_,_,⟨_,rfl,fun G h0 s0=>loadA_cells (s0.has (p:=0) Z me) (readT_ok hT rfl)⟩,rfl,rfl⟩,zsb,_,rfl,hB1,?_⟩;have e2:(⟨false,s.n⟩:Sym)=s:=by cases s;simp only at h;rw[h]
  rw[e2] at hv;exact hv
 ·have h:s.term=true:=by simpa using h
  have es:(⟨true,s.n⟩:Sym)=s:=by cases s;simp only at h;rw[h]
  refine zB4 ?_;refine WT.split 24 Z (fun hc=>?_) (fun hc=>?_)
  ·have hc:i=x.k:=by simp at hc;omega
   refine zB4 ?_;refine AW.cond Z (fun _=>?_) (fun h=>(by cases h));refine zB4 ?_;exact AW.ret ⟨_,[_],⟨_,_,⟨_,rfl,fun G h0 s0=>loadA_cells (s0.has (p:=0) rfl me) (readT_ok hT rfl)⟩,rfl,rfl⟩,zsb,_,rfl,hB,.inl ⟨rfl,es▸fun T J h=>(by cases h with | leaf h=>have:=(gS h).1;omega)⟩⟩
  ·have hc:i≠x.k:=by simp at hc;omega
   refine zB4 ?_;refine WT.idxL hT hwd Z Z Z Z Z Z Z Z Z zo (fun y hy b off ro cs lx hb hp hrel=>?_);obtain rfl:lx=[.int .i64 y]:=hrel;refine zB4 ?_;refine AW.cond Z (fun h2=>?_) (fun h2=>?_)
   ·refine zB4 ?_;exact AW.ret ⟨_,[_],⟨_,_,⟨_,rfl,fun G h0 s0=>loadA_cells (s0.has (p:=0) rfl me) (readT_ok hT rfl)⟩,rfl,rfl⟩,zsb,_,rfl,hB,.inl ⟨rfl,es▸fun T J h=>(by cases h with | leaf h=>rw[hy] at h;have:=Option.some.inj h;simp at h2;omega)⟩⟩
   ·have h2:y=s.n:=by simp at h2;omega
    refine zB4 ?_;refine WT.callF0 Tryd.func57 Z Z Z Z Z Z (leaf_spec _ s.n) (fun F1 v hF1 hv=>?_);obtain⟨lc,rfl,hlc⟩:=hv;obtain⟨la,ln,lcc,rfl,hla,hlb⟩:=tTree_cases hlc;refine WT.allocT hT Z Z Z Z Z Z (fun i7 hi7=>?_);refine zB4 ?_;refine AW.freezeAll 0 Z Z (fun F2 hF2 hB2=>?_);have hi7:=hB2 i7 _ me;exact AW.ret ⟨_,[_],⟨_,_,⟨_,rfl,fun G h0 s0=>loadA_cells (s0.has (p:=1) rfl me) (readT_ok hT rfl)⟩,rfl,rfl⟩,zsb,_,rfl,(hB.mono hF1).mono hF2,.inr ⟨i7,_,_,_,i+1,rfl,hi7,tTree_mk (hla.mono hF2) hlb,es▸TreeOf.leaf (h2▸hy),es▸fun T J h=>(by cases h with | leaf h=>exact⟨rfl,rfl⟩)⟩⟩
def EmptyLast(g:Gram):Prop:=∀(i k:Nat) (r r':Rule),g.rules[i]?=some r→g.rules[k]?=some r'→NulL g r.right→i<k→r'.left≠r.left
section
variable {g:Gram}{tab:Nat→Nat→Option Nat}{w:List Nat}
def KidP(g:Gram)(tab:Nat→Nat→Option Nat)(w:List Nat)(l:List Sym)(i q:Nat)(tks:List Tree)(m:Nat):Prop:=∀ts J,PRL g tab w l i (some ts) J→∃ts2,ts=tks++ts2∧PRL g tab w (l.drop q) m (some ts2) J
def FailP(g:Gram)(tab:Nat→Nat→Option Nat)(w:List Nat)(l:List Sym)(i:Nat):Prop:=∀ts J,¬PRL g tab w l i (some ts) J
def NotYet(g:Gram)(tab:Nat→Nat→Option Nat)(w:List Nat)(n i j:Nat):Prop:=∀k r ts J,tab n (nextW g w i)=some k→g.rules[k]?=some r→PRL g tab w r.right i (some ts) J→j≤k
theorem KidP.zero(l:List Sym)(i:Nat):KidP g tab w l i 0 [] i:=fun ts J h=>⟨ts,rfl,by simpa using h⟩
theorem KidP.next{l:List Sym}{i q m j:Nat}{tks:List Tree}{y:Sym}{t:Tree}(h:KidP g tab w l i q tks m)(hy:l[q]?=some y)(hg:GoodS g tab w y m (some (t,j))):KidP g tab w l i (q+1) (tks++[t]) j:=by
 intro ts J hp;obtain⟨ts2,rfl,h2⟩:=h ts J hp;have hd:l.drop q=y::l.drop (q+1):=by
  obtain⟨h3,h4⟩:=gS hy;rw[←h4,List.getElem_cons_drop]
 rw[hd] at h2;cases h2 with
 | cons h3 h4=>
  obtain⟨rfl,rfl⟩:=hg _ _ h3;exact⟨_,by simp,h4⟩
theorem KidP.fail{l:List Sym}{i q m:Nat}{tks:List Tree}{y:Sym}(h:KidP g tab w l i q tks m)(hy:l[q]?=some y)(hg:GoodS g tab w y m none):FailP g tab w l i:=by
 intro ts J hp;obtain⟨ts2,rfl,h2⟩:=h ts J hp;have hd:l.drop q=y::l.drop (q+1):=by
  obtain⟨h3,h4⟩:=gS hy;rw[←h4,List.getElem_cons_drop]
 rw[hd] at h2;cases h2 with
 | cons h3 h4=>exact hg _ _ h3
theorem NotYet.skip{n i j:Nat}{r:Rule}(ok:LLok g tab)(h:NotYet g tab w n i j)(hr:g.rules[j]?=some r)(hn:r.left≠n):NotYet g tab w n i (j+1):=by
 intro k r' ts J h1 h2 h3;have h4:=h k r' ts J h1 h2 h3;rcases Nat.lt_or_eq_of_le h4 with h5 | rfl
 ·exact h5
 ·obtain⟨r2,q1,q2,_⟩:=ok.rule h1;rw[hr] at q1;obtain rfl:=Option.some.inj q1;exact absurd q2 hn
theorem NotYet.fail{n i j:Nat}{r:Rule}(h:NotYet g tab w n i j)(hr:g.rules[j]?=some r)(hf:FailP g tab w r.right i):NotYet g tab w n i (j+1):=by
 intro k r' ts J h1 h2 h3;have h4:=h k r' ts J h1 h2 h3;rcases Nat.lt_or_eq_of_le h4 with h5 | rfl
 ·exact h5
 ·rw[hr] at h2;obtain rfl:=Option.some.inj h2;exact absurd h3 (hf _ _)
theorem NotYet.none{n i j:Nat}(h:NotYet g tab w n i j)(hj:g.rules.length≤j):GoodS g tab w ⟨false,n⟩ i none:=by
 intro T J hp;cases hp with
 | node h1 h2 h3=>
  have:=h _ _ _ _ h1 h2 h3;have:=(gS h2).1;omega
theorem NotYet.take{n i j m:Nat}{r:Rule}{tks:List Tree}(hg:Valid g)(ok:LLok g tab)(hel:EmptyLast g)(h:NotYet g tab w n i j)(hr:g.rules[j]?=some r)(hn:r.left=n)(ht:TreesOf g w r.right tks i m)(hk:KidP g tab w r.right i r.right.length tks m) :
  GoodS g tab w ⟨false,n⟩ i (some (.mk j 0 tks,m)):=by
 intro T J hp;cases hp with
 | node h1 h2 h3=>
  rename_i k r' ts;have h4:=h _ _ _ _ h1 h2 h3;have hle:=(TreesOf.le ht).1;obtain⟨b1,b2⟩:=TreesOf.begin ht;have hkj:k=j:=by
   rcases Nat.lt_or_eq_of_le h4 with h5 | h5
   ·exfalso;by_cases e:i=m
    ·subst e;obtain⟨r2,q1,q2,_⟩:=ok.rule h1;exact hel j k r r2 hr q1 (b1 rfl) h5 (q2.trans hn.symm)
    ·obtain⟨c,q1,q2⟩:=b2 zo;have:=ok.only hr (.inl (by rw[nextW_at (g:=g) q1];exact q2:BegL g r.right (nextW g w i)));rw[hn,h1] at this;have:=Option.some.inj this;omega
   ·exact h5.symm
  subst hkj;rw[hr] at h2;obtain rfl:=Option.some.inj h2;obtain⟨ts2,rfl,h5⟩:=hk _ _ h3;rw[List.drop_length] at h5;cases h5 with
  | nil=>exact⟨by simp,rfl⟩
end
structure PkIP where
 ks:List Tree
 a:Option Addr
 c:Nat
 Bk:List (Nat×Blk)
 B:List (Nat×Blk)
 e:Int
 l:Nat
structure POP where
 q:Option Addr
 e:Int
 B:List (Nat×Blk)
theorem parseP_spec(g:Gram)(hg:Valid g){tab:Nat→Nat→Option Nat}(ok:LLok g tab)(hel:EmptyLast g)(w:List Nat)(hw:w.length≤1000000){M:List (List Bool)}{E:List Bool}{Fi:List (List Bool)}(hN:NoLoop g M E Fi)(x:PAP):∀(N n i:Nat),meas g M w.length n i<N→n<g.nons→i≤w.length→ParseOkP g tab w x n i
 | 0,n,i,h,_,_=>absurd h (Nat.not_lt_zero _)
 | N+1,n,i,hlt,hn,hi=>by
  intro F B hx ⟨es,hBe,hes⟩;subst hBe;obtain⟨⟨ro,hblk⟩,hr,hwd⟩:=id hx;have hwl:=hwd.len;have hrl:=hr.len;have hgr:=hg.range.rules;refine Abs.Spec.fn (n:=91) Tryd.func34 rfl rfl fun own=>?_;refine AW.seq (AW.reg ?_);refine WT.boxT Z Z Z Z Z Z (fun i3 hi3=>?_);refine WT.allocT hT Z Z Z Z Z Z (fun i4 hi4=>?_);refine zB4 ?_;refine AW.draw (ps:=[(3,9),(4,9),(5,9)]) Z Z ?_;refine zB4 ?_;refine WT.lookup2 keyP (key:=(n,i)) hT 2 Z Z Z Z Z Z Z me Z Z Z (fun v hv=>?_) (fun hno=>?_)
  ·have hv:=hes n i v hv;obtain⟨q,e,rfl⟩:=hv.shape;refine zB4 ?_;refine WT.allocT hT Z Z Z Z Z Z (fun i5 hi5=>?_);refine zB4 ?_;refine⟨zrC,?_⟩;refine zB4 ?_;refine AW.cond Z (fun _=>?_) (fun h=>(by cases h));refine zB4 ?_;exact AW.ret ⟨_,[_],⟨_,_,⟨_,rfl,fun G h0 s0=>loadA_cells (s0.has (p:=1) rfl me) (readT_ok hT rfl)⟩,rfl,rfl⟩,zsb,_,rfl,⟨es,rfl,hes⟩,hv⟩
  ·refine zB4 ?_;refine WT.allocT hT Z Z Z Z Z Z (fun i5 hi5=>?_);refine zB4 ?_;refine⟨zrC,?_⟩;refine zB4 ?_;refine AW.cond Z (fun h=>(by cases h)) (fun _=>?_);refine zB4 ?_;refine WT.allocT hT Z Z Z Z Z Z (fun i7 hi7=>?_);refine zB4 ?_;refine joinT (S:=POP) (fun _=>[(0,.pointer (some ⟨x.p,0,none⟩)),(3,.pointer (some ⟨i3,0,none⟩)),(4,.pointer (some ⟨i4,0,none⟩)),(7,.pointer (some ⟨i7,0,none⟩))]) (fun s=>[(i7,.cells false [.pointer s.q,.int .i64 s.e])]::[(i4,.cells false [.pointer none,.int .i64 0])]::[(i3,.cells false [.int .i64 n,.int .i64 i])]::s.B::own)
    (fun s G=>MemoP g tab w x G s.B∧ResOkP g tab w G ⟨false,n⟩ i (.agg ⟨[.pointer s.q,.int .i64 s.e]⟩)) ?_ (fun s F1 hF1 hP=>?_)
   ·refine AW.range (S:=List (Nat×Blk)) (fun _=>[]) (fun s=>[(i7,.cells false [.pointer none,.int .i64 (-1)])]::[(i4,.cells false [.pointer none,.int .i64 0])]::[(i3,.cells false [.int .i64 n,.int .i64 i])]::s::own)
     (fun j s G=>MemoP g tab w x G s∧NotYet g tab w n i j) x.m _
     Z Z Z Z Z Z Z Z Z zo rfl rfl (fun _=>rfl) (fun _=>rfl) sM (OwnLe.cons _ (OwnLe.skip _ oR)) ⟨⟨es,rfl,hes⟩,fun _ _ _ _ _ _ _=>Nat.zero_le _⟩ ?_ ?_
    ·intro j s F1 hF1 hj hP;obtain⟨hP,hny⟩:=hP;have hr1:=hr.mono hF1;have hblk1:=hF1 _ _ hblk;refine zB6 ?_;refine WT.idxL hT hr1 Z Z Z Z Z Z Z Z Z zo (fun r hrk b1 off ro1 cs lx hb hp1 hrel=>?_);obtain⟨b2,n2,d2,rfl,hr4⟩:=hrel;obtain⟨hrl,hrr,hrs⟩:=hg.right r (gM hrk);have hr4l:=hr4.len;refine zB6 ?_;refine WT.allocT hT Z Z Z Z Z Z (fun i9 hi9=>?_);refine zB6 ?_;refine AW.cond Z (fun h=>?_) (fun h=>?_)
     ·refine AW.exit ?_;exact⟨s,sM,OwnLe.skip _ oR,hP,hny.skip ok hrk (fun e=>by simp at h;omega)⟩
     ·have h0:r.left=n:=by simp at h;omega
      refine zB6 ?_;refine WT.boxT Z Z Z Z Z Z (fun i10 hi10=>?_);refine zB7 ?_;refine joinK (S:=PkIP) (fun t=>[(51,.int .i64 t.l),(11,.int .i64 t.e)]) (fun t=>t.Bk::[(i10,.cells false [.int .i64 j,.int .i64 0,.slice t.a t.ks.length t.c])]::[(i9,.cells false [.int .i64 r.left,.slice b2 n2 d2])]::[(i7,.cells false [.pointer none,.int .i64 (-1)])]::[(i4,.cells false [.pointer none,.int .i64 0])]::[(i3,.cells false [.int .i64 n,.int .i64 i])]::t.B::own)
       (fun t G=>MemoP g tab w x G t.B∧((t.e<0∧FailP g tab w r.right i)∨∃m:Nat,t.e=m∧Bld tTree G t.a t.ks.length t.c t.Bk t.ks∧TreesOf g w r.right t.ks i m∧KidP g tab w r.right i r.right.length t.ks m)) ?_ (fun t F2 hF2 hQ=>?_)
      ·refine AW.range (S:=PkIP) (fun t=>[(11,.int .i64 t.e)]) (fun t=>t.Bk::[(i10,.cells false [.int .i64 j,.int .i64 0,.slice t.a t.ks.length t.c])]::[(i9,.cells false [.int .i64 r.left,.slice b2 n2 d2])]::[(i7,.cells false [.pointer none,.int .i64 (-1)])]::[(i4,.cells false [.pointer none,.int .i64 0])]::[(i3,.cells false [.int .i64 n,.int .i64 i])]::t.B::own)
        (fun q t G=>MemoP g tab w x G t.B∧Bld tTree G t.a t.ks.length t.c t.Bk t.ks∧∃m:Nat,t.e=m∧TreesOf g w (r.right.take q) t.ks i m∧KidP g tab w r.right i q t.ks m) n2 ⟨[],none,0,[],s,i,0⟩
        Z Z Z Z Z Z Z Z Z zo rfl rfl (fun _=>rfl) (fun _=>rfl) sM (OwnLe.flat (List.Perm.refl _)) ⟨hP,Bld.nil_ _ _,i,rfl,by rw[List.take_zero];exact .nil,KidP.zero _ _⟩ ?_ ?_
       ·intro q t F2 hF2 hq hQ;obtain⟨tks,ta,tc,tBk,tB,te,tl⟩:=t;obtain⟨hm,hb,m,rfl,ht,hkp⟩:=hQ;have hr5:=hr4.mono hF2;have hx2:=(hx.mono hF1).mono hF2;refine zB9 ?_;refine WT.idxL hT hr5 Z Z Z Z Z Z Z Z Z zo (fun y hyq b3 off3 ro3 cs3 lx3 hb3 hp3 hrel3=>?_);obtain rfl:lx3=_:=hrel3;have hyok:=hrs y (gM hyq);have hmle:=ht.le;have hmw:=hmle.2 hi;refine zB9 ?_;refine WT.allocT hT Z Z Z Z Z Z (fun i13 hi13=>?_);refine zB9 ?_;refine WT.call1F 7 Tryd.func62 Z Z Z Z Z Z Z (fun _=>rfl) (symbolP_spec g tab w hw x y m hmw (fun hyt=>?_) _ _ hx2 hm) (fun F3 v B3 hF3 hv=>?_)
        ·have hyn:y.n<g.nons:=by rw[SymOk,if_neg (by simp[hyt])] at hyok;exact hyok
         have he:r.right=r.right.take q++⟨false,y.n⟩::r.right.drop (q+1):=by
          have h2:=gS hyq;obtain⟨h2,h3⟩:=h2;have:(⟨false,y.n⟩:Sym)=y:=by cases y;simp only at hyt;rw[hyt]
          rw[this,←h3,List.getElem_cons_drop,List.take_append_drop]
         have hlt2:=hN.next (gM hrk) he hyn ht hi
         rw[h0] at hlt2;exact parseP_spec g hg ok hel w hw hN x N y.n m zo hyn hmw
        ·obtain⟨hm3,hv⟩:=hv;obtain⟨vq,ve,rfl⟩:=hv.shape;refine WT.allocT hT Z Z Z Z Z Z (fun i14 hi14=>?_);refine zB9 ?_;rcases hv with ⟨hv,hgn⟩ | ⟨vb,vro,vcs,vt,vj,hve,hvb,hvt,hvo,hgs⟩
         ·obtain⟨rfl,rfl⟩:vq=none∧ve=-1:=by
           injection hv with h1;injection h1 with h1;injection h1 with h1 h2;injection h1 with h1;injection h2 with h2;injection h2 with h2 h3;exact⟨h1,h3⟩
          refine AW.cond Z (fun _=>?_) (fun h=>(by cases h));refine AW.exit ?_;exact⟨⟨tks,ta,tc,tBk,B3,-1,q⟩,sM,OwnLe.skip _ (OwnLe.skip _ oR),hm3,.inl ⟨show (-1:Int)<0 by decide,hkp.fail hyq hgn⟩⟩
         ·obtain⟨rfl,rfl⟩:vq=some ⟨vb,0,none⟩∧ve=(vj:Int):=by
           injection hve with h1;injection h1 with h1;injection h1 with h1 h2;injection h1 with h1;injection h2 with h2;injection h2 with h2 h3;exact⟨h1,h3⟩
          obtain⟨vr,vtt,vks⟩:=vt;obtain⟨va,vn,vc,rfl,hva,hvl⟩:=tTree_cases hvt;have hb3:=hb.mono hF3;have hbl:=hb3.len;have htl:=ht.len;have hks4:tks.length≤4:=by rw[htl,List.length_take];omega
          refine AW.cond Z (fun h=>?_) (fun _=>?_)
          ·exact absurd (of_decide_eq_true h) zo
          refine zB9 ?_;refine AW.draw (ps:=[(3,9),(5,9),(7,9),(8,9),(12,15),(15,12)]) Z Z ?_;refine zB9 ?_;refine WT.buildT hT Z Z Z Z Z Z Z Z Z Z Z Z Z Z (fun i72 hi72=>?_);refine WT.appendT (ys:=[Tree.mk 0 0 []]) hT 3 hb3 Z (fun _=>rfl) Z Z Z Z Z Z Z Z Z Z Z (fun h0 s0=>news_own hT s0 0 Z Z Z Z) (Cells.single (R:=tTree) (x:=Tree.mk 0 0 []) (tTree_mk (Arr.nil_ _ _) (by simp))) Z (by decide) ?_ (fun a3 c3 Bk3 hBk3=>?_)
          ·show (tks.length+1)*40≤_;omega
          obtain⟨ik,kcs,rfl,hc3,rfl,hkc⟩:=Bld.ne hBk3 (by simp);have hkl:=hkc.len;rw[List.length_append] at hkl;have hkl:kcs.length=(tks.length+1)*3:=hkl;refine WT.idxA (j:=tks.length) (s:=3) hT Z Z Z Z Z Z Z Z Z (Nat.lt_succ_self _) ?_;refine storeS hT 3 0 Z Z Z Z Z Z Z Z Z Z (by show 0+tks.length*3+3≤kcs.length;omega) rfl rfl ?_;refine zB9 ?_;refine⟨zrC,?_⟩;have hl1:(tks++[Tree.mk vr vtt vks]).length=tks.length+1:=by simp
          have hlast:=Bld.last hBk3 (y:=Tree.mk vr vtt vks) hvt;refine⟨⟨tks++[Tree.mk vr vtt vks],some ⟨ik,0,none⟩,c3,[(ik,.cells false (spliceL kcs (0+tks.length*3) [.int .i64 vr,.int .i64 vtt,.slice va vn vc]))],B3,vj,0⟩,SubK.of_map ?_,OwnLe.skip _ (OwnLe.skip _ (OwnLe.skip _ (OwnLe.flat ?_))),hm3,?_,vj,rfl,?_,hkp.next hyq hgs⟩
          ·rfl
          ·dsimp only;rw[hl1];exact List.Perm.refl _
          ·dsimp only;rw[hl1,Nat.zero_add];exact hlast
          ·rw[List.take_add_one,hyq];exact TreesOf.snoc hvo ht
       ·intro t F2 hF2 hQ;obtain⟨hm,hb,m,he,ht,hkp⟩:=hQ;exact⟨⟨t.ks,t.a,t.c,t.Bk,t.B,t.e,n2⟩,sM,OwnLe.refl _,hm,.inr ⟨m,he,hb,by rw[List.take_of_length_le zo] at ht;exact ht,by rw[hr4l] at hkp;exact hkp⟩⟩
      ·obtain⟨hm,hQ⟩:=hQ;refine zB9 ?_;refine AW.cond Z (fun h=>?_) (fun h=>?_)
       ·have h:0≤t.e:=by simpa using h
        rcases hQ with hQ | ⟨m,he,hb,ht,hkp⟩
        ·have:=hQ.1;omega
        obtain⟨tks,ta,tc,tBk,tB,te,tl⟩:=t;simp only at he hb ht hm hkp;subst he;refine AW.freezeAll 0 Z Z (fun F3 hF3 hB3=>?_);have hka:=hb.frozen hF3 hB3;refine AW.freezeAll 1 Z Z (fun F4 hF4 hB4=>?_);have hi10:=hB4 i10 _ me;refine zB9 ?_;refine AW.exit ?_;have htl:=ht.len;refine⟨⟨some ⟨i10,0,none⟩,m,tB⟩,sM,OwnLe.skip _ (OwnLe.skip _ (OwnLe.skip _ oR)),(hm.mono hF3).mono hF4,.inr ⟨i10,_,_,Tree.mk j 0 tks,m,rfl,hi10,tTree_mk (hka.mono hF4) zo,?_,hny.take hg ok hel hrk h0 ht hkp⟩⟩;have:=TreeOf.node hrk ht;rw[h0] at this;exact this
       ·have h:t.e<0:=by simpa using h
        refine zB9 ?_;rcases hQ with hQ | ⟨m,he,_⟩
        ·exact⟨t.B,sM,OwnLe.skip _ (OwnLe.skip _ (OwnLe.skip _ oR)),hm,hny.fail hrk hQ.2⟩
        ·omega
    ·intro s F1 hF1 hP;refine⟨⟨none,-1,s⟩,sM,OwnLe.refl _,hP.1,.inl ⟨rfl,hP.2.none zo⟩⟩
   ·obtain⟨hB1,hv⟩:=hP;obtain⟨es1,hB1e,hes1⟩:=hB1;have hblk1:=hF1 _ _ hblk;obtain⟨sq,se,sB⟩:=s;simp only at hB1e;subst hB1e;refine AW.seq (AW.draw (ps:=[]) Z Z ?_);refine zB4 ?_;refine WT.mapSet keyP (key:=(n,i)) hT 3 0 Z Z Z Z Z Z Z Z Z Z Z Z ?_;refine zB4 ?_;refine AW.ret ⟨_,[_],⟨_,_,⟨_,rfl,fun G h0 s0=>loadA_cells (s0.has (p:=1) Z me) (readT_ok hT rfl)⟩,rfl,rfl⟩,zsb,_,rfl,⟨_,rfl,fun n' i' v' hv'=>?_⟩,hv⟩;rw[look_mset] at hv';split at hv'
    ·rename_i e;injection e with e1 e2;subst e1;subst e2;obtain rfl:=Option.some.inj hv';exact hv
    ·exact hes1 n' i' v' hv'
def PackAns(g:Gram)(tab:Nat→Nat→Option Nat)(w:List Nat)(F:Frz)(v:Value):Prop:=∃(r:Int) (t:Nat) (ks:List Tree) (a:Option Addr) (n c:Nat) (j:Nat) (e:Int),v=.tuple ⟨[.agg ⟨[.int .i64 r,.int .i64 t,.slice a n c]⟩,.int .i64 j,.int .i64 e]⟩∧
 (e=9∨(e=10∧GoodS g tab w ⟨false,g.start⟩ 0 none)∨(e=0∧tTree.rel F [.int .i64 r,.int .i64 t,.slice a n c] (.mk r t ks)∧TreeOf g w ⟨false,g.start⟩ (.mk r t ks) 0 j∧j≤w.length∧GoodS g tab w ⟨false,g.start⟩ 0 (some (.mk r t ks,j))))
theorem packParseP_spec(F:Frz)(g:Gram)(hg:Valid g){tab:Nat→Nat→Option Nat}(ok:LLok g tab)(hel:EmptyLast g){a:Option Addr}{m c:Nat}(hr:Arr tRule F a m c g.rules){b:Option Addr}{n d:Nat}{w:List Nat}(hw:Arr tNat F b n d w)(hw1:w.length≤12)(hw2:∀t∈w,t<g.terms) :
  Abs.Spec CC 11 [.agg ⟨gramCells g a m c⟩,.slice b n d] F [] fun F' v o=>o=[]∧PackAns g tab w F' v:=by
 have hwl:=hw.len;have hst:=hg.range.start;unfold gramCells;refine Abs.Spec.fn (n:=48) Tryd.func11 rfl rfl fun own=>?_;refine AW.seq (AW.reg ?_);refine WT.boxT Z Z Z Z Z Z (fun i2 hi2=>?_);refine WT.allocT hT Z Z Z Z Z Z (fun i4 hi4=>?_);refine zB4 ?_;refine WT.callV Tryd.func32 Z Z Z Z Z Z (check_spec _ g hg.range hr) (fun v hv=>?_);rw[hg.no_err] at hv;subst hv;refine zB4 ?_;refine AW.cond Z (fun h=>(by cases h)) (fun _=>?_);refine zB4 ?_;refine WT.callV Tryd.func28 Z Z Z Z Z Z (gword_spec _ g 2000 (by decide) hw zo) (fun v hv=>?_);rw[wordErr_ok zo hw2] at hv;subst hv;refine zB4 ?_
 refine AW.cond Z (fun h=>(by cases h)) (fun _=>?_);refine zB4 ?_;refine WT.callF0 Tryd.func33 Z Z Z Z Z Z (loops_spec _ g hg hr) (fun F1 v hF1 hv=>?_);obtain⟨lb,rfl,hloop⟩:=hv;refine zB4 ?_;refine AW.cond Z (fun h=>?_) (fun h=>?_)
 ·refine zB4 ?_;exact AW.ret ⟨_,[],⟨_,_,⟨_,rfl,fun G h0 s0=>loadA_cells (s0.has (p:=0) rfl me) (readT_ok hT rfl)⟩,⟨_,_,rfl,⟨_,_,rfl,rfl,rfl⟩,rfl⟩,rfl⟩,zsb,rfl,0,0,[],none,0,0,0,9,rfl,.inl rfl⟩
 ·obtain⟨M,E,Fi,hN⟩:=hloop h;refine zB4 ?_;refine WT.makeMap Z Z Z Z (fun im him=>?_);refine zB4 ?_;refine WT.boxT Z Z Z Z Z Z (fun ip hip=>?_);refine WT.freezeAll 0 Z Z (fun F2 hF2 hB2=>?_);have hp:=hB2 ip _ me;refine zB4 ?_;refine WT.call1F 1 Tryd.func34 Z Z Z Z Z Z Z (fun _=>rfl) (parseP_spec g hg ok hel w zo hN ⟨ip,im,a,m,c,b,n,d⟩ _ g.start 0 (Nat.lt_succ_self _) hst (Nat.zero_le _) _ _ ⟨⟨_,hp⟩,(hr.mono hF1).mono hF2,(hw.mono hF1).mono hF2⟩ ⟨[],rfl,fun _ _ _ h=>by cases h⟩) (fun F3 v B3 hF3 hv=>?_);obtain⟨hm3,hv⟩:=hv;obtain⟨vq,ve,rfl⟩:=hv.shape
  refine WT.allocT hT Z Z Z Z Z Z (fun i10 hi10=>?_);refine zB4 ?_;rcases hv with ⟨hv,hgn⟩ | ⟨vb,vro,vcs,vt,vj,hve,hvb,hvt,hvo,hgs⟩
  ·obtain⟨rfl,rfl⟩:vq=none∧ve=-1:=by
    injection hv with h1;injection h1 with h1;injection h1 with h1 h2;injection h1 with h1;injection h2 with h2;injection h2 with h2 h3;exact⟨h1,h3⟩
   refine AW.cond Z (fun _=>?_) (fun h=>(by cases h));refine zB4 ?_;exact AW.ret ⟨_,[],⟨_,_,⟨_,rfl,fun G h0 s0=>loadA_cells (s0.has (p:=3) rfl me) (readT_ok hT rfl)⟩,⟨_,_,rfl,⟨_,_,rfl,rfl,rfl⟩,rfl⟩,rfl⟩,zsb,rfl,0,0,[],none,0,0,0,10,rfl,.inr (.inl ⟨rfl,hgn⟩)⟩
  ·obtain⟨rfl,rfl⟩:vq=some ⟨vb,0,none⟩∧ve=(vj:Int):=by
    injection hve with h1;injection h1 with h1;injection h1 with h1 h2;injection h1 with h1;injection h2 with h2;injection h2 with h2 h3;exact⟨h1,h3⟩
   obtain⟨vr,vtt,vks⟩:=vt;obtain⟨dd,hdd⟩:=id hvt;obtain⟨va,vn,vc,rfl,hva,hvl⟩:=tTree_cases hvt;refine AW.cond Z (fun h=>?_) (fun _=>?_)
   ·exact absurd (of_decide_eq_true h) zo
   refine zB4 ?_;refine AW.draw (ps:=[(6,4),(6,7)]) Z Z ?_;refine zB4 ?_;refine WT.callF0 Tryd.func35 Z Z Z Z Z Z (copyTree_spec dd _ _ _ hdd) (fun F4 v hF4 hv=>?_);obtain⟨ccs,rfl,hcc⟩:=hv;obtain⟨ca,cn,cc,rfl,hca,hcl⟩:=tTree_cases hcc;refine zB4 ?_;refine⟨zrC,?_⟩;exact AW.ret ⟨_,[],⟨_,_,⟨_,rfl,fun G h0 s0=>loadA_cells (s0.has (p:=3) rfl me) (readT_ok hT rfl)⟩,⟨_,_,rfl,⟨_,_,rfl,rfl,rfl⟩,rfl⟩,rfl⟩,zsb,rfl,vr,vtt,vks,ca,cn,cc,vj,0,rfl,.inr (.inr ⟨rfl,hcc,hvo,hvo.le.2 (Nat.zero_le _),hgs⟩)⟩
def nlOk(s:List Bool)(r:Rule):Bool:=!(r.right.any fun y=>y.term||!(s.getD y.n false))
def NlCl(s:List Bool)(r:Rule):Prop:=nlOk s r=true→s.getD r.left false=true
def NlInv(g:Gram)(j k:Nat)(s:List Bool):Prop:=s.length=g.nons∧((∀r∈g.rules,NlCl s r)∨j+1≤ones s∨(j≤ones s∧∀i r,i<k→g.rules[i]?=some r→NlCl s r))
def NlOut(g:Gram)(j:Nat)(s:List Bool):Prop:=s.length=g.nons∧((∀r∈g.rules,NlCl s r)∨j≤ones s)
theorem nl_set(s:List Bool)(i:Nat)(b:Bool):(s.map cBool.cell).set (0+i*1) (.bool b)=(s.set i b).map cBool.cell:=by
 rw[List.map_set,Nat.zero_add,Nat.mul_one];rfl
theorem set_self{s:List Bool}{i:Nat}{b:Bool}(h:s[i]?=some b):s.set i b=s:=by
 obtain⟨h1,h2⟩:=gS h;subst h2;exact List.set_getElem_self h1
theorem NlOut.enter{g:Gram}{j:Nat}{s:List Bool}(h:NlOut g j s):NlInv g j 0 s:=
 ⟨h.1,h.2.elim .inl fun h=>.inr (.inr ⟨h,fun i r hi=>by omega⟩)⟩
theorem NlInv.leave{g:Gram}{j k:Nat}{s:List Bool}(hk:k=g.rules.length)(h:NlInv g j k s):NlOut g (j+1) s:=by
 refine⟨h.1,?_⟩;rcases h.2 with h | h | ⟨_,h⟩
 ·exact .inl h
 ·exact .inr h
 ·refine .inl fun r hr=>?_;obtain⟨i,hi⟩:=List.mem_iff_getElem?.1 hr;exact h i r (by have:=(gS hi).1;omega) hi
theorem NlInv.yes{g:Gram}{j k:Nat}{s:List Bool}{r:Rule}(h:NlInv g j k s)(hk:g.rules[k]?=some r)(ht:s[r.left]?=some true):NlInv g j (k+1) s:=by
 refine⟨h.1,h.2.elim .inl fun h=>.inr (h.elim .inl fun h=>.inr ⟨h.1,fun i r' hi hr'=>?_⟩)⟩;rcases Nat.lt_or_eq_of_le (Nat.le_of_lt_succ hi) with hi | rfl
 ·exact h.2 i r' hi hr'
 ·rw[hk] at hr';obtain rfl:=Option.some.inj hr';intro _;rw[List.getD_eq_getElem?_getD,ht];rfl
theorem NlInv.no{g:Gram}{j k:Nat}{s:List Bool}{r:Rule}(h:NlInv g j k s)(hk:g.rules[k]?=some r)(ht:s[r.left]?=some false):NlInv g j (k+1) (s.set r.left (nlOk s r)):=by
 cases hb:nlOk s r with
 | false=>
  rw[set_self ht];refine⟨h.1,h.2.elim .inl fun h=>.inr (h.elim .inl fun h=>.inr ⟨h.1,fun i r' hi hr'=>?_⟩)⟩;rcases Nat.lt_or_eq_of_le (Nat.le_of_lt_succ hi) with hi | rfl
  ·exact h.2 i r' hi hr'
  ·rw[hk] at hr';obtain rfl:=Option.some.inj hr';intro e;rw[hb] at e;cases e
 | true=>
  have ho:=ones_set ht;refine⟨by rw[List.length_set];exact h.1,.inr (.inl ?_)⟩;rw[ho];rcases h.2 with h1 | h1 | ⟨h1,_⟩
  ·have:=h1 r (gM hk) hb;rw[List.getD_eq_getElem?_getD,ht] at this;cases this
  ·omega
  ·omega
theorem NlOut.closed{g:Gram}{s:List Bool}(hg:∀r∈g.rules,r.left<g.nons)(h:NlOut g g.nons s):∀r∈g.rules,NlCl s r:=by
 rcases h.2 with h1 | h1
 ·exact h1
 ·intro r hr _;have hl:=hg r hr;obtain⟨b,hb⟩:∃b,s[r.left]?=some b:=⟨_,gE (by rw[h.1];exact hl)⟩;cases b with
  | true=>rw[List.getD_eq_getElem?_getD,hb];rfl
  | false=>
   have h2:=ones_set hb;have h3:=ones_le (s.set r.left true);rw[List.length_set,h.1] at h3;omega
theorem nlOk_of{s:List Bool}{r:Rule}(h:∀y∈r.right,y.term=false∧s.getD y.n false=true):nlOk s r=true:=by
 unfold nlOk;rw[Bool.not_eq_true',List.any_eq_false];intro y hy;obtain⟨h1,h2⟩:=h y hy;rw[h1,h2];decide
theorem nl_nul{g:Gram}{s:List Bool}(hc:∀r∈g.rules,NlCl s r){n:Nat}(h:Nul g n):s.getD n false=true:=by
 induction h with
 | mk hr ht _ ih=>exact hc _ hr (nlOk_of fun y hy=>⟨ht y hy,ih y hy⟩)
theorem nl_nulL{g:Gram}{s:List Bool}(hc:∀r∈g.rules,NlCl s r){r:Rule}(h:NulL g r.right):nlOk s r=true:=nlOk_of fun y hy=>⟨(h y hy).1,nl_nul hc (h y hy).2⟩
theorem empt11_spec(F:Frz){ie:Nat}{ro:Bool}{ea:Option Addr}{en ec:Nat}{E:List Bool}(hi:F ie=some (.cells ro [.slice ea en ec]))(hE:Arr tBool F ea en ec E)(y:Sym)(hy:y.term=true∨y.n<E.length) :
  Abs.Spec CC 25 [.agg ⟨[.bool y.term,.int .i64 y.n]⟩,.pointer (some ⟨ie,0,none⟩)] F [] fun _ v o=>o=[]∧v=.bool (y.term||!(E.getD y.n false)):=by
 have hEl:=hE.len;refine Abs.Spec.fn (n:=14) Tryd.func25 rfl rfl fun own=>?_;refine AW.seq (AW.reg ?_);refine WT.boxT Z Z Z Z Z Z (fun i2 hi2=>?_);refine zB4 ?_;refine WT.split 6 Z (fun hty=>?_) (fun hty=>?_)
 ·have hty:y.term=true:=by simpa using hty
  refine zB4 ?_;refine AW.ret ⟨_,[],⟨_,_,rfl,rfl,rfl⟩,zsb,rfl,?_⟩;rw[hty];rfl
 ·have hty:y.term=false:=by simpa using hty
  have hyn:y.n<E.length:=by rcases hy with h | h;rw[hty] at h;cases h;exact h
  refine zB4 ?_;refine WT.idxL hT hE Z Z Z Z Z Z Z Z Z hyn (fun z hz b3 off3 ro3 cs3 lx3 hb3 hp3 hrel3=>?_);obtain rfl:lx3=_:=hrel3;refine zB4 ?_;refine AW.ret ⟨_,[],⟨_,_,rfl,rfl,rfl⟩,zsb,rfl,?_⟩;rw[hty,List.getD_eq_getElem?_getD,hz];rfl
theorem empt1_spec(F:Frz){ie:Nat}{ro:Bool}{ea:Option Addr}{en ec:Nat}{E:List Bool}(hi:F ie=some (.cells ro [.slice ea en ec]))(hE:Arr tBool F ea en ec E)(r:Rule){b:Option Addr}{n d:Nat}(hr:Arr tSym F b n d r.right)(hr4:n≤1000)(hy:∀y∈r.right,y.term=true∨y.n<E.length) :
  Abs.Spec CC 23 [.agg ⟨[.int .i64 r.left,.slice b n d]⟩,.pointer (some ⟨ie,0,none⟩)] F [] fun _ v o=>o=[]∧v=.bool (nlOk E r):=by
 refine Abs.Spec.fn (n:=9) Tryd.func23 rfl rfl fun own=>?_;refine AW.seq (AW.reg ?_);refine WT.boxT Z Z Z Z Z Z (fun i2 hi2=>?_);refine zB4 ?_;refine WT.callV Tryd.func24 Z Z Z Z Z Z (symAny_spec F hr zo (fun y=>y.term||!(E.getD y.n false)) (first:=[]) (capt:=[.pointer (some ⟨ie,0,none⟩)]) Tryd.func25 Z (fun y hm=>empt11_spec F hi hE y (hy y hm))) (fun v hv=>?_)
 subst hv;refine zB4 ?_;refine AW.ret ⟨_,[],⟨_,_,rfl,rfl,rfl⟩,zsb,rfl,rfl⟩
theorem empt2_spec(F:Frz){i8:Nat}{ro:Bool}{n:Nat}{rest:List Value}(hi:F i8=some (.cells ro (.int .i64 n::rest)))(y:Rule){b:Option Addr}{m c:Nat} :
  Abs.Spec CC 27 [.agg ⟨[.int .i64 y.left,.slice b m c]⟩,.pointer (some ⟨i8,0,none⟩)] F [] fun _ v o=>o=[]∧v=.bool (decide (y.left=n)):=by
 refine Abs.Spec.fn (n:=9) Tryd.func27 rfl rfl fun own=>?_;refine AW.seq (AW.reg ?_);refine WT.boxT Z Z Z Z Z Z (fun i2 hi2=>?_);refine zB4 ?_;refine AW.ret ⟨_,[],⟨_,_,rfl,rfl,rfl⟩,zsb,rfl,?_⟩;exact congrArg Value.bool (decide_eq_decide.2 Int.ofNat_inj)
theorem emptyLast_spec(F:Frz)(g:Gram)(hg:Valid g){a:Option Addr}{m c:Nat}(hr:Arr tRule F a m c g.rules) :
  Abs.Spec CC 9 [.agg ⟨gramCells g a m c⟩] F [] fun _ v o=>o=[]∧∃b,v=.bool b∧(b=true→EmptyLast g):=by
 have hrl:=hr.len;have hgr:=hg.range.rules;have hgn:=hg.range.nons;unfold gramCells;refine Abs.Spec.fn (n:=61) Tryd.func9 rfl rfl fun own=>?_;refine AW.seq (AW.reg ?_);refine WT.boxT Z Z Z Z Z Z (fun i1 hi1=>?_);refine zC4 ?_;refine WT.makeT (l:=g.nons) hT Z Z Z Z Z Z Z Z Z Z Z Z zom (fun io hio=>?_);rw[cap_eq,if_neg (show ¬g.nons=0 by omega)];refine WT.allocT hT Z Z Z Z Z Z (fun i3 hi3=>?_);refine zC4 ?_;have hys:∀s:List Bool,s.length=g.nons→∀r∈g.rules,∀y∈r.right,y.term=true∨y.n<s.length:=fun s hs r hrm y hy=>by
  have:=(hg.right r hrm).2.2 y hy;obtain⟨t,q⟩:=y;cases t with
  | true=>exact .inl rfl
  | false=>exact .inr (by rw[hs];exact this)
 have ispec:∀(G:Frz) (s:List Bool) (r:Rule) (b:Option Addr) (n d:Nat),s.length=g.nons→r∈g.rules→Arr tSym G b n d r.right→Abs.Spec CC 23 ([]++[.agg ⟨[.int .i64 r.left,.slice b n d]⟩]++[.pointer (some ⟨i3,0,none⟩)]) G [[(i3,.cells false [.slice (some ⟨io,0,none⟩) g.nons 1]),(io,.cells false (s.map cBool.cell))]] fun F' v o=>∃B',o=[B']∧v=.bool (nlOk s r)∧B'=[(i3,.cells false [.slice (some ⟨io,0,none⟩) g.nons 1]),(io,.cells false (s.map cBool.cell))]:=fun G s r b n d hs hrm hrr=>by
  have h1:=Spec.lendB (C:=CC) (f:=23) (args:=[.agg ⟨[.int .i64 r.left,.slice b n d]⟩,.pointer (some ⟨i3,0,none⟩)]) (F:=G) (oin:=[]) (P:=fun v o=>o=[]∧v=.bool (nlOk s r)) (B:=[(i3,.cells false [.slice (some ⟨io,0,none⟩) g.nons 1]),(io,.cells false (s.map cBool.cell))]) (fun G2 hG hBG=>empt1_spec G2 (hBG i3 _ me) (by
   have:=arr_of_cells (K:=cBool) (R:=tBool) (F:=G2) (id:=io) (row:=s) (c:=if s.length=0 then 0 else 1) (ro:=false) rfl (fun _ _=>rfl) rfl (hBG io _ (by simp));rw[hs,if_neg zo] at this;exact this) r (hrr.mono hG) (by rw[hrr.len];have:=(hg.right r hrm).2.1;omega) (hys s hs r hrm))
  refine h1.mono fun F' v o _ h=>?_;obtain⟨o',rfl,rfl,hv⟩:=h;exact⟨_,rfl,hv,rfl⟩
 refine AW.range (S:=List Bool) (fun _=>[]) (fun s=>[(i3,.cells false [.slice (some ⟨io,0,none⟩) g.nons 1]),(io,.cells false (s.map cBool.cell))]::[(i1,.cells false [.int .i64 g.terms,.int .i64 g.nons,.int .i64 g.start,.slice a m c])]::own) (fun j s G=>NlOut g j s) g.nons (List.replicate g.nons false)
  Z Z Z Z Z Z Z Z Z zo rfl rfl (fun _=>rfl) (fun _=>rfl) sM (by rw[List.map_replicate];exact OwnLe.flat (List.Perm.refl _)) ⟨by simp,.inr (Nat.zero_le _)⟩ ?_ ?_
 ·intro j s F1 hF1 hj hP;have hr1:=hr.mono hF1;refine zC4 ?_;refine AW.range (S:=List Bool) (fun _=>[]) (fun s=>[(i3,.cells false [.slice (some ⟨io,0,none⟩) g.nons 1]),(io,.cells false (s.map cBool.cell))]::[(i1,.cells false [.int .i64 g.terms,.int .i64 g.nons,.int .i64 g.start,.slice a m c])]::own) (fun k s G=>NlInv g j k s) m s
   Z Z Z Z Z Z Z Z Z zo rfl rfl (fun _=>rfl) (fun _=>rfl) sM oR hP.enter ?_ ?_
  ·intro k s F2 hF2 hk hP;have hsl:=hP.1;have hr2:=hr1.mono hF2;refine zC4 ?_;refine WT.idxL hT hr2 Z Z Z Z Z Z Z Z Z zo (fun r hrk b1 off1 ro1 cs1 lx1 hb1 hp1 hrel1=>?_);obtain⟨ra,rn,rc,rfl,hright⟩:=hrel1;have hrm:=gM hrk;obtain⟨hrlt,hr4,hrsy⟩:=hg.right r hrm;have hrnl:=hright.len;obtain⟨b,hb⟩:∃b,s[r.left]?=some b:=⟨_,gE zo⟩;have hcell:(s.map cBool.cell)[0+r.left*1]?=some (.bool b):=by rw[Nat.zero_add,Nat.mul_one,List.getElem?_map,hb];rfl
   refine zC4 ?_;refine WT.allocT hT Z Z Z Z Z Z (fun i5 hi5=>?_);refine zC4 ?_;refine AW.draw (ps:=[(0,11),(2,11)]) Z Z ?_;refine zC4 ?_;refine WT.idxA (j:=r.left) (s:=1) hT Z Z Z Z Z Z Z Z Z hrlt ?_;refine WT.loadAt hT 1 Z Z Z Z Z Z (List.mem_cons_of_mem _ me) Z Z hcell ?_;cases b with
   | true=>
    refine zC4 ?_;refine WT.idxA (j:=r.left) (s:=1) hT Z Z Z Z Z Z Z Z Z hrlt ?_;refine WT.storeAt hT 1 1 Z Z Z Z Z Z Z Z Z Z (by rw[List.length_map];omega) Z Z ?_;refine zC4 ?_;refine⟨(by repeat (first | exact trivial | refine recs_pair rfl rfl (by first | exact keep0 | exact kp 1 1 me me | exact kp 0 0 me me) ?_)),?_⟩
    refine⟨s,sM,?_,hP.yes hrk hb⟩;rw[nl_set,set_self hb];exact zow
   | false=>
    refine zC4 ?_;refine WT.callC1F 1 Tryd.func23 Z Z Z Z Z Z Z Z Z (fun _=>rfl) (ispec F2 s r _ _ _ hsl hrm hright) (fun F3 x B3 hF3 hx3=>?_);obtain⟨rfl,rfl⟩:=hx3;refine zC4 ?_;refine WT.idxA (j:=r.left) (s:=1) hT Z Z Z Z Z Z Z Z Z hrlt ?_;refine WT.storeAt hT 1 1 Z Z Z Z Z Z Z Z Z Z (by rw[List.length_map];omega) Z Z ?_;refine zC4 ?_;refine⟨(by repeat (first | exact trivial | refine recs_pair rfl rfl (by first | exact keep0 | exact kp 1 1 me me | exact kp 0 0 me me) ?_)),?_⟩
    refine⟨s.set r.left (nlOk s r),sM,?_,hP.no hrk hb⟩;rw[nl_set];exact zow
  ·intro s F2 hF2 hP;exact⟨s,sM,zow,hP.leave hrl⟩
 ·intro s F1 hF1 hP;have hr1:=hr.mono hF1;have hsl:=hP.1;have hcl:=hP.closed fun r hrm=>(hg.right r hrm).1;refine zC4 ?_;refine AW.range (S:=Unit) (fun _=>[]) (fun _=>[(i3,.cells false [.slice (some ⟨io,0,none⟩) g.nons 1]),(io,.cells false (s.map cBool.cell))]::[(i1,.cells false [.int .i64 g.terms,.int .i64 g.nons,.int .i64 g.start,.slice a m c])]::own) (fun j _ G=>∀(i k:Nat) (r r':Rule),i<j→g.rules[i]?=some r→g.rules[k]?=some r'→NulL g r.right→i<k→r'.left≠r.left) m ()
   Z Z Z Z Z Z Z Z Z zo rfl rfl (fun _=>rfl) (fun _=>rfl) sM oR (fun i k r r' h=>by omega) ?_ ?_
  ·intro j _ F2 hF2 hj hP;have hr2:=hr1.mono hF2;refine zC4 ?_;refine WT.idxL hT hr2 Z Z Z Z Z Z Z Z Z zo (fun r hrk b1 off1 ro1 cs1 lx1 hb1 hp1 hrel1=>?_);obtain⟨ra,rn,rc,rfl,hright⟩:=hrel1;have hrm:=gM hrk;refine zC4 ?_;refine WT.allocT hT Z Z Z Z Z Z (fun i8 hi8=>?_);refine zC4 ?_;refine WT.callC1F 1 Tryd.func23 Z Z Z Z Z Z Z Z Z (fun _=>rfl) (ispec F2 s r _ _ _ hsl hrm hright) (fun F3 x B3 hF3 hx3=>?_);obtain⟨rfl,rfl⟩:=hx3;have hr3:=hr2.mono hF3
   have nxt:(NulL g r.right→∀k r',g.rules[k]?=some r'→j<k→r'.left≠r.left)→∀(i k:Nat) (r r':Rule),i<j+1→g.rules[i]?=some r→g.rules[k]?=some r'→NulL g r.right→i<k→r'.left≠r.left:=fun h i k r1 r1' h1 h2 h3 h4 h5=>by
    rcases Nat.lt_or_eq_of_le (Nat.le_of_lt_succ h1) with h6 | rfl
    ·exact hP i k r1 r1' h6 h2 h3 h4 h5
    ·rw[hrk] at h2;obtain rfl:=Option.some.inj h2;exact h h4 k r1' h3 h5
   refine zC4 ?_;refine WT.split 51 Z (fun h1=>?_) (fun h1=>?_)
   ·refine zC4 ?_;obtain⟨a',c',hs,ha'⟩:=hr3.slice (C:=CC) (lo:=j+1) (hi:=m) zo (Nat.le_refl _) hT (t:=23) Z Z Z (some (.int .i64 ((j+1:Nat):Int))) none (by simp[boundA];omega) rfl;refine WT.slice Z Z Z Z Z Z Z Z hs ?_;refine zC4 ?_;refine WT.callLend 0 Tryd.func26 Z Z Z Z Z Z Z (fun G hG hBG=>ruleAny_spec G (ha'.mono hG) zo (fun y=>decide (y.left=r.left)) (first:=[]) (capt:=[.pointer (some ⟨i8,0,none⟩)]) Tryd.func27 Z (fun y hy b n d hb=>empt2_spec G (hBG i8 _ me) y)) (fun v hv=>?_)
    subst hv;rw[List.take_of_length_le zo];refine zC4 ?_;refine AW.cond Z (fun h=>?_) (fun h=>?_)
    ·refine zC4 ?_;exact AW.ret ⟨_,[],⟨_,_,rfl,rfl,rfl⟩,zsb,rfl,_,rfl,fun h=>by cases h⟩
    ·refine zC4 ?_;refine⟨(),sM,zow,nxt fun _ k r' hk hlt e=>?_⟩;have h2:=List.any_eq_false.1 h r' (by
      refine gM (i:=k-(j+1)) ?_;rw[List.getElem?_drop,show j+1+(k-(j+1))=k by omega];exact hk)
     simp[e] at h2
   ·refine zC4 ?_;refine AW.cond Z (fun h=>(by cases h)) (fun _=>?_);refine zC4 ?_;refine⟨(),sM,zow,nxt fun hn=>?_⟩;rw[nl_nulL hcl hn] at h1;cases h1
  ·intro _ F2 hF2 hP;refine zC4 ?_;refine AW.ret ⟨_,[],⟨_,_,rfl,rfl,rfl⟩,zsb,rfl,_,rfl,fun _ i k r r' h1 h2 h3 h4=>hP i k r r' (by have:=(gS h1).1;omega) h1 h2 h3 h4⟩
theorem treeEqF_spec(F:Frz){a b:Option Addr}{m c d:Nat}{xs:List Tree}(hx:Arr tTree F a m c xs)(hy:Arr tTree F b m d xs)(hm:m≤1000000)
  (hcmp:∀G lx ly (x:Tree),x∈xs→tTree.rel G lx x→tTree.rel G ly x→Abs.Spec CC 12 [.agg ⟨lx⟩,.agg ⟨ly⟩] G [] fun _ v o=>o=[]∧v=.bool true) :
  Abs.Spec CC 36 [.slice a m c,.slice b m d,.func (.func 12) ⟨[]⟩ ⟨[]⟩] F [] fun _ v o=>o=[]∧v=.bool true:=by
 refine Abs.Spec.fn (n:=32) Tryd.func36 rfl rfl fun own=>?_;have hxlen:=hx.len;refine zB4 ?_;refine AW.cond Z (fun h=>(by exfalso;simp at h)) (fun _=>?_);refine zB4 ?_;refine AW.range (S:=Unit) (fun _=>[]) (fun _=>own) (fun j _ G=>True) m () Z Z Z Z Z Z Z Z Z zo Z Z (fun _=>rfl) (fun _=>rfl) sM oR trivial ?_ ?_
 ·intro j _ F1 hF1 hj hP;have hx1:=hx.mono hF1;have hy1:=hy.mono hF1;refine zB4 ?_;refine WT.idxL hT hx1 Z Z Z Z Z Z Z Z Z zo (fun x hxj b1 off ro cs lx hb hp1 hrel=>?_);have hrelx:=hrel;obtain⟨xr,xt,xks⟩:=x;obtain⟨xa,xn,xc,rfl,_⟩:=tTree_cases hrel;refine zB4 ?_;refine WT.allocT hT Z Z Z Z Z Z (fun i8 hi8=>?_);refine zB4 ?_;refine WT.idxL hT hy1 Z Z Z Z Z Z Z Z Z zo (fun y hyj b2 off2 ro2 cs2 ly hb2 hp2 hrel=>?_);obtain rfl:y=.mk xr xt xks:=by rw[hxj] at hyj;exact(Option.some.inj hyj).symm
  have hrely:=hrel;obtain⟨ya,yn,yc,rfl,_⟩:=tTree_cases hrel;refine zB4 ?_;refine WT.allocT hT Z Z Z Z Z Z (fun i9 hi9=>?_);refine zB4 ?_;refine WT.callC Tryd.func12 Z Z Z Z Z Z Z Z (hcmp _ _ _ _ (gM hxj) hrelx hrely) (fun v hv=>?_);subst hv;refine zB4 ?_;refine AW.cond Z (fun h=>(by cases h)) (fun _=>?_);refine zB4 ?_;exact⟨(),sM,OwnLe.skip _ (OwnLe.skip _ oR),trivial⟩
 ·intro _ F1 hF1 hP;refine zB4 ?_;exact AW.ret ⟨_,[],⟨_,_,rfl,rfl,rfl⟩,zsb,rfl,rfl⟩
theorem sameTree_spec:∀(N:Nat) (F:Frz) (lx ly:List Value) (x:Tree),x.pre.length<N→tTree.rel F lx x→tTree.rel F ly x→Abs.Spec CC 12 [.agg ⟨lx⟩,.agg ⟨ly⟩] F [] fun _ v o=>o=[]∧v=.bool true
 | 0,_,_,_,_,h,_,_=>by omega
 | N+1,F,lx,ly,.mk r t ks,hN,hx,hy=>by
  obtain⟨xa,xn,xc,rfl,hxa,hkb⟩:=tTree_cases hx;obtain⟨ya,yn,yc,rfl,hya,_⟩:=tTree_cases hy;obtain rfl:yn=xn:=by rw[hxa.len,hya.len]
  have hxl:=hxa.len;have hpe:(Tree.mk r t ks).pre.length=(preL ks).length+1:=rfl;refine Abs.Spec.fn (n:=24) Tryd.func12 rfl rfl fun own=>?_;refine AW.seq (AW.reg ?_);refine WT.boxT Z Z Z Z Z Z (fun i2 hi2=>?_);refine WT.boxT Z Z Z Z Z Z (fun i3 hi3=>?_);refine zB4 ?_;refine WT.know (v':=.bool true) 10 Z (by congr 1;simp) ?_;refine zB4 ?_;refine WT.know (v':=.bool true) 17 Z (by congr 1;simp) ?_;refine zB4 ?_;refine WT.callV Tryd.func36 Z Z Z Z Z Z (treeEqF_spec _ hxa hya zo (fun G lx ly x hm h1 h2=>sameTree_spec N G lx ly x (by have:=preL_mem hm;omega) h1 h2)) (fun v hv=>?_);subst hv
  refine zB4 ?_;exact AW.ret ⟨_,[],⟨_,_,rfl,rfl,rfl⟩,zsb,rfl,rfl⟩
theorem packratPredicts_law(F:Frz)(hLd:Laid F){a b:Option Addr}{m n c d:Nat}{l w0:List Int}(hl:Arr tInt F a m c l)(hw0:Arr tInt F b n d w0)(hm:n≤9223372036854775807) :
  Abs.Spec CC 3 [.slice a m c,.slice b n d] F [] fun _ v o=>o=[]∧v=.bool true:=by
 refine Abs.Spec.fn (n:=87) Tryd.func3 rfl rfl fun own=>?_;refine zB4 ?_;refine WT.callF0 Tryd.func5 Z Z Z Z Z Z (made_spec _ hl hw0 hm 10 (by decide)) (fun F1 v hF1 hv=>?_);obtain⟨g,ga,gm,gc,wa,wn,wc,w,rfl,hg,hr,hw,hw1,hw2⟩:=hv;have hL1:=hLd.mono hF1;have hgv:=hg.valid;have hgt:=hg.terms;have hwl:=hw.len;unfold gramCells;refine zC4 ?_;refine WT.allocT hT Z Z Z Z Z Z (fun i5 hi5=>?_);refine zC4 ?_;have hof:=predictOf_spec F1 g hgv hr;unfold gramCells at hof;refine WT.callF0 Tryd.func6 Z Z Z Z Z Z hof (fun F2 v hF2 hv=>?_);obtain⟨ra,rn,rc,R,ca,cn,cc,P,rfl,_,_,_,hcn,hcf,hPr⟩:=hv
 have hL2:=hL1.mono hF2;have hr2:=hr.mono hF2;have hw3:=hw.mono hF2;refine zC4 ?_;refine WT.allocT hT Z Z Z Z Z Z (fun i6 hi6=>?_);refine zC4 ?_;refine WT.callV Tryd.func7 Z Z Z Z Z Z (Abs.Spec.fact Z hL2) (fun v hv=>?_);subst hv;refine zC4 ?_;refine WT.callV Tryd.func8 Z Z Z Z Z Z (Abs.Spec.fact Z hL2) (fun v hv=>?_);subst hv;refine zC4 ?_;by_cases e:cn=0
 ·have hno:=hcn.1 e;subst e;have hnoA:∀P',(∀i r,g.rules[i]?=some r→RowP g r (P'.getD i []))→∀n t,n<g.nons→t≤g.terms→fewC g P' n t:=fun P' hP' n t h1 h2=>few_of hPr hP' (hno n t h1 h2);have ok:=llok_of hgv hPr hno;refine zC4 ?_;have hem:=emptyLast_spec F2 g hgv hr2;unfold gramCells at hem;refine WT.callV Tryd.func9 Z Z Z Z Z Z hem (fun v hv=>?_);obtain⟨bl,rfl,hbl⟩:=hv;cases bl with
  | false=>
   refine zC4 ?_;refine AW.cond Z (fun _=>?_) (fun h=>(by cases h));refine zC4 ?_;refine WT.callV Tryd.func7 Z Z Z Z Z Z (Abs.Spec.fact Z hL2) (fun v hv=>?_);subst hv;refine zC4 ?_;refine WT.callV Tryd.func8 Z Z Z Z Z Z (Abs.Spec.fact Z hL2) (fun v hv=>?_);subst hv;refine zC4 ?_;exact AW.ret ⟨_,[],⟨_,_,rfl,rfl,rfl⟩,zsb,rfl,rfl⟩
  | true=>
   have hel:=hbl rfl;refine zC4 ?_;refine AW.cond Z (fun h=>(by cases h)) (fun _=>?_);refine zC4 ?_;have hpp:=predParse_spec F2 g hgv hr2 hw3 zo hw2 hnoA;unfold gramCells at hpp;refine WT.callF0 Tryd.func10 Z Z Z Z Z Z hpp (fun F4 v hF4 hv=>?_);have hL5:=hL2.mono hF4;have hr5:=hr2.mono hF4;have hw5:=hw3.mono hF4;obtain⟨lr,lt,la3,ln3,lc3,at1,e1,rfl,hcase⟩:∃r t a n c at1 e1,v=.tuple ⟨[.agg ⟨[.int .i64 r,.int .i64 t,.slice a n c]⟩,.int .i64 at1,.int .i64 e1]⟩∧
     ((e1=0∧∃X,TreeOf g w ⟨false,g.start⟩ X 0 w.length∧tTree.rel F4 [.int .i64 r,.int .i64 t,.slice a n c] X)∨e1=10):=by
    rcases hv with ⟨T,cs,rfl,hrel,hT0⟩ | ⟨j,rfl,hno⟩
    ·obtain⟨r,u,ks⟩:=T;obtain⟨za,zn,zc,rfl,_,_⟩:=tTree_cases hrel;exact⟨_,_,_,_,_,_,_,rfl,.inl ⟨rfl,_,hT0,hrel⟩⟩
    ·exact⟨_,_,_,_,_,_,_,rfl,.inr rfl⟩
   refine zC4 ?_;refine WT.allocT hT Z Z Z Z Z Z (fun i8 hi8=>?_);refine zC4 ?_;have hpk:=packParseP_spec F4 g hgv ok hel hr5 hw5 zo hw2;unfold gramCells at hpk;refine WT.callF0 Tryd.func11 Z Z Z Z Z Z hpk (fun F5 v hF5 hv=>?_);obtain⟨kr,kt,kks,ka,kn,kc,kj,ke,rfl,hk⟩:=hv;refine zC4 ?_;refine WT.allocT hT Z Z Z Z Z Z (fun i11 hi11=>?_);refine zC4 ?_;rcases hcase with ⟨rfl,X,hX,hrel⟩ | rfl
   ·have hPX:=pr_whole ok hX;rcases hk with rfl | ⟨rfl,hk⟩ | ⟨rfl,hk1,hk2,hk3,hk4⟩
    ·refine zC4 ?_;refine AW.cond Z (fun _=>?_) (fun h=>(by cases h));refine zC4 ?_;exact AW.ret ⟨_,[],⟨_,_,rfl,rfl,rfl⟩,zsb,rfl,rfl⟩
    ·exact absurd hPX (hk _ _)
    ·obtain⟨rfl,h2⟩:=hk4 _ _ hPX;have h2:w.length=kj:=h2;have h3:kj=wn:=by omega
     subst h3;refine zC4 ?_;refine AW.cond Z (fun h=>(by cases h)) (fun _=>?_);refine zC4 ?_;refine WT.split 82 Z (fun _=>?_) (fun h=>(by simp at h));refine zC4 ?_;refine WT.callV Tryd.func12 Z Z Z Z Z Z (sameTree_spec _ F5 _ _ _ (Nat.lt_succ_self _) (tTree.mono _ _ _ _ hF5 hrel) hk1) (fun v hv=>?_);subst hv;refine zC4 ?_;exact AW.ret ⟨_,[],⟨_,_,rfl,rfl,rfl⟩,zsb,rfl,rfl⟩
   ·refine zC4 ?_;refine AW.cond Z (fun _=>?_) (fun h=>(by cases h));refine zC4 ?_;exact AW.ret ⟨_,[],⟨_,_,rfl,rfl,rfl⟩,zsb,rfl,rfl⟩
 ·skip
  have hcp:decide ((cn:Int) > 0)=true:=by simp;try omega
  refine WT.know (v':=.bool true) 41 Z (congrArg Value.bool hcp) ?_;refine zC4 ?_;refine AW.cond Z (fun _=>?_) (fun h=>(by simp at h));refine zC4 ?_;refine WT.callV Tryd.func7 Z Z Z Z Z Z (Abs.Spec.fact Z hL2) (fun v hv=>?_);subst hv;refine zC4 ?_;refine WT.callV Tryd.func8 Z Z Z Z Z Z (Abs.Spec.fact Z hL2) (fun v hv=>?_);subst hv;refine zC4 ?_;exact AW.ret ⟨_,[],⟨_,_,rfl,rfl,rfl⟩,zsb,rfl,rfl⟩
end Go.Proofs.D