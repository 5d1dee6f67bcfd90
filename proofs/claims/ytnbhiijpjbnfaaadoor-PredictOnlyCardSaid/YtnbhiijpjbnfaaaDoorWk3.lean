/-
  Walks: what functions of the program do, over the abstract machine.
-/
import Derived.Test.YtnbhiijpjbnfaaaDoorWk2
set_option linter.unusedVariables false
set_option maxRecDepth 20000
set_option maxHeartbeats 0
open Go Go.Abs Go.Proofs Go.Proofs.D
namespace Go.Proofs.D
structure PPl where
 ip:Nat
 a:Option Addr
 m:Nat
 c:Nat
 ra:Option Addr
 rn:Nat
 rc:Nat
 ca:Option Addr
 cn:Nat
 cc:Nat
 wa:Option Addr
 wn:Nat
 wc:Nat
def psC(g:Gram)(p:PPl)(i:Nat):List Value:=[.int .i64 g.terms,.int .i64 g.nons,.int .i64 g.start,.slice p.a p.m p.c,.slice p.ra p.rn p.rc,.slice p.ca p.cn p.cc,.slice p.wa p.wn p.wc,.int .i64 i]
def psB(g:Gram)(p:PPl)(i:Nat):List (Nat×Blk):=[(p.ip,.cells false (psC g p i))]
structure PEnv(F:Frz)(g:Gram)(p:PPl)(R:List (List Int))(w:List Nat):Prop where
 rules:Arr tRule F p.a p.m p.c g.rules
 tab:Arr (tList tInt) F p.ra p.rn p.rc R
 word:Arr tNat F p.wa p.wn p.wc w
theorem PEnv.mono{F G:Frz}{g:Gram}{p:PPl}{R:List (List Int)}{w:List Nat}(h:PEnv F g p R w)(hF:Frz.le F G):PEnv G g p R w:=⟨h.rules.mono hF,h.tab.mono hF,h.word.mono hF⟩
theorem pnext_spec(G:Frz)(g:Gram)(hg:Valid g){p:PPl}{R:List (List Int)}{w:List Nat}(hE:PEnv G g p R w)(hw:w.length≤2000){i:Nat}(hi:i≤w.length)(hp:G p.ip=some (.cells false (psC g p i))) :
  Abs.Spec CC 56 [.pointer (some ⟨p.ip,0,none⟩)] G [] fun _ v o=>o=[]∧v=.int .i64 (nextW g w i):=by
 have hwl:=hE.word.len;have hgt:=hg.range.terms;unfold psC at hp;refine Abs.Spec.fn (n:=28) Tryd.func56 rfl rfl fun own=>?_;refine zC4 ?_;refine AW.cond Z (fun he=>?_) (fun he=>?_)
 ·have he:i=w.length:=by simp at he;omega
  refine zC4 ?_;refine AW.ret ⟨_,[],⟨_,_,rfl,rfl,rfl⟩,zsb,rfl,?_⟩;unfold nextW;rw[List.getElem?_eq_none zo];rfl
 ·have he:i≠w.length:=by simp at he;omega
  refine zC4 ?_;refine WT.idxL hT hE.word Z Z Z Z Z Z Z Z Z zo (fun x hx b1 off ro cs lx hb1 hp1 hrel=>?_);obtain rfl:lx=_:=hrel;refine zC4 ?_;refine AW.ret ⟨_,[],⟨_,_,rfl,rfl,rfl⟩,zsb,rfl,?_⟩;rw[nextW_at hx];rfl
def symV(s:Sym):Value:=.agg ⟨[.bool s.term,.int .i64 s.n]⟩
def POk(g:Gram)(p:PPl)(R:List (List Int))(w:List Nat)(s:Sym)(i:Nat)(T:Tree)(j:Nat):Prop:=
 i≤w.length→SymOk g.terms g.nons s→∀F,PEnv F g p R w→Abs.Spec CC 30 [.pointer (some ⟨p.ip,0,none⟩),symV s] F [psB g p i] fun F' v o=>o=[psB g p j]∧∃cs,v=.agg ⟨cs⟩∧tTree.rel F' cs T
def PBad(g:Gram)(p:PPl)(R:List (List Int))(w:List Nat)(s:Sym)(i j:Nat):Prop:=
 i≤w.length→SymOk g.terms g.nons s→∀F,PEnv F g p R w→SpecPan CC 30 [.pointer (some ⟨p.ip,0,none⟩),symV s] F [psB g p i] fun F' o=>o=[psB g p j]
section
variable {g:Gram}{p:PPl}{R:List (List Int)}{w:List Nat}
theorem parse_leaf(hg:Valid g)(hw:w.length≤2000){t i:Nat}(h:w[i]?=some t):POk g p R w ⟨true,t⟩ i (.mk (-1) t []) (i+1):=by
 intro hi hs F hE;have hil:=(gS h).1;unfold symV psB;refine Abs.Spec.fn (n:=71) Tryd.func30 rfl rfl fun own=>?_;refine AW.seq (AW.reg ?_);refine WT.boxT Z Z Z Z Z Z (fun i3 hi3=>?_);refine WT.freezeAll 0 Z Z (fun F0 hF0 hB0=>?_);have hi3:=hB0 i3 _ me;have hE:=hE.mono hF0;refine WT.allocT hT Z Z Z Z Z Z (fun i4 hi4=>?_);refine zC4 ?_;refine AW.cond Z (fun _=>?_) (fun h=>(by cases h));refine zC4 ?_;refine AW.draw (ps:=[(3,1)]) Z Z ?_;refine zC4 ?_;refine WT.callLend 2 Tryd.func56 Z Z Z Z Z Z Z (fun G hG hBG=>pnext_spec G g hg (hE.mono hG) hw hi (hBG _ _ me)) (fun v hv=>?_);subst hv
 rw[nextW_at h];refine zC4 ?_;refine⟨zrC,?_⟩;refine AW.cond Z (fun h=>(by simp at h)) (fun _=>?_);unfold psC;refine zC4 ?_;refine WT.callF0 Tryd.func57 Z Z Z Z Z Z (leaf_spec _ t) (fun F2 v hF2 hv=>?_);obtain⟨cs,rfl,hrel⟩:=hv;obtain⟨za,zn,zc,rfl,_,_⟩:=tTree_cases hrel;refine zC4 ?_;exact AW.ret ⟨_,[psB g p (i+1)],⟨_,_,⟨_,rfl,fun G h0 s0=>loadA_cells (s0.has (p:=0) rfl me) (readT_ok hT rfl)⟩,rfl,rfl⟩,zsb,rfl,_,rfl,hrel⟩
theorem parse_other(hg:Valid g)(hw:w.length≤2000){t i:Nat}(h:¬w[i]?=some t):PBad g p R w ⟨true,t⟩ i i:=by
 intro hi hs F hE;have hst:t<g.terms:=by unfold SymOk at hs;rw[if_pos rfl] at hs;exact hs
 have hne:nextW g w i≠t:=by
  unfold nextW;cases hq:w[i]? with
  | none=>show g.terms≠t;omega
  | some x=>intro e;exact h (by rw[hq];exact congrArg some e)
 unfold symV psB;refine SpecPan.fn (n:=71) Tryd.func30 rfl rfl fun own=>?_;refine AW.seq (AW.reg ?_);refine WT.boxT Z Z Z Z Z Z (fun i3 hi3=>?_);refine WT.freezeAll 0 Z Z (fun F0 hF0 hB0=>?_);have hi3:=hB0 i3 _ me;have hE:=hE.mono hF0;refine WT.allocT hT Z Z Z Z Z Z (fun i4 hi4=>?_);refine zC4 ?_;refine AW.cond Z (fun _=>?_) (fun h=>(by cases h));refine zC4 ?_;refine AW.draw (ps:=[(3,1)]) Z Z ?_;refine zC4 ?_;refine WT.callLend 2 Tryd.func56 Z Z Z Z Z Z Z (fun G hG hBG=>pnext_spec G g hg (hE.mono hG) hw hi (hBG _ _ me)) (fun v hv=>?_);subst hv;generalize nextW g w i=q at hne;refine zC4 ?_
 refine⟨zrC,?_⟩;refine AW.cond Z (fun _=>?_) (fun h=>(by simp at h;omega));refine AW.panS [_,_] Z Z ?_;refine zC4 ?_;refine WT.ifaceT hT Z Z Z Z Z Z ?_;refine zC4 ?_;exact⟨rfl,rfl,[psB g p i],zsb,rfl⟩
def TabR(g:Gram)(tab:Nat→Nat→Option Nat)(R:List (List Int)):Prop:=R.length=g.nons∧∀n t,n<g.nons→t≤g.terms→∃row z,R[n]?=some row∧row.length=g.terms+1∧row[t]?=some z∧z=match tab n t with
 | none=>-1
 | some k=>(k:Int)
theorem nextW_le(hw2:∀t∈w,t<g.terms)(i:Nat):nextW g w i≤g.terms:=by
 unfold nextW;cases hq:w[i]? with
 | none=>exact Nat.le_refl _
 | some x=>exact Nat.le_of_lt (hw2 x (gM hq))
variable {tab:Nat→Nat→Option Nat}
theorem parse_none(hg:Valid g)(hw:w.length≤2000)(hw2:∀t∈w,t<g.terms)(hTR:TabR g tab R){n i:Nat}(h:tab n (nextW g w i)=none):PBad g p R w ⟨false,n⟩ i i:=by
 intro hi hs F hE;have hsn:n<g.nons:=by unfold SymOk at hs;rw[if_neg (by simp)] at hs;exact hs
 obtain⟨row,z,hrow,hrl,hz,hzv⟩:=hTR.2 n _ hsn (nextW_le hw2 i);rw[h] at hzv;simp only at hzv;subst hzv;have hnl:=nextW_le hw2 i;have hgt:=hg.range.terms;have hgn:=hg.range.nons;have hRl:=hE.tab.len;have hRl2:=hTR.1;unfold symV psB;refine SpecPan.fn (n:=71) Tryd.func30 rfl rfl fun own=>?_;refine AW.seq (AW.reg ?_);refine WT.boxT Z Z Z Z Z Z (fun i3 hi3=>?_);refine WT.freezeAll 0 Z Z (fun F0 hF0 hB0=>?_);have hi3:=hB0 i3 _ me;have hE:=hE.mono hF0;refine WT.allocT hT Z Z Z Z Z Z (fun i4 hi4=>?_);refine zC4 ?_;refine AW.cond Z (fun h=>(by cases h)) (fun _=>?_);refine zC4 ?_
 refine AW.draw (ps:=[(4,10),(4,14),(6,10),(6,14),(8,10),(8,14),(12,14)]) Z Z ?_;unfold psC;refine zC4 ?_;refine WT.idxL hT hE.tab Z Z Z Z Z Z Z Z Z (by dsimp only;omega) (fun row' hrow' b1 off ro cs lx hb1 hp1 hrel=>?_);obtain rfl:row'=row:=Option.some.inj (hrow'.symm.trans hrow);obtain⟨b2,n2,d2,rfl,hrow2⟩:=hrel;have hrl2:=hrow2.len;refine zC4 ?_;refine WT.callLend 2 Tryd.func56 Z Z Z Z Z Z Z (fun G hG hBG=>pnext_spec G g hg (hE.mono hG) hw hi (hBG _ _ me)) (fun v hv=>?_);subst hv;generalize nextW g w i=q at hz hnl
 refine WT.idxL hT hrow2 Z Z Z Z Z Z Z Z Z zo (fun z' hz' b3 off3 ro3 cs3 lx3 hb3 hp3 hrel3=>?_);obtain rfl:z'=-1:=Option.some.inj (hz'.symm.trans hz);obtain rfl:lx3=_:=hrel3;refine zC4 ?_;refine WT.allocT hT Z Z Z Z Z Z (fun i5 hi5=>?_);refine zC4 ?_;refine⟨zrC,?_⟩;refine zC4 ?_;refine AW.cond Z (fun _=>?_) (fun h=>(by simp at h));refine AW.panS [_,_] Z Z ?_;refine zC4 ?_;refine WT.ifaceT hT Z Z Z Z Z Z ?_;refine zC4 ?_;exact⟨rfl,rfl,[psB g p i],zsb,rfl⟩
structure KdS where
 ka:Option Addr
 kn:Nat
 kc:Nat
 KB:List (Nat×Blk)
 i:Nat
theorem opA_callF{C:Ctx}{k:Kno}{o:Oper}{f:FuncId}{fn:Func}{as_:Array Operand}{ts:Array TypeId}{args:List Value}(hf:C.func f=some fn)(hb:fn.body.isSome=true)(hop:o.op=.call ⟨.value (.func f),as_,ts⟩)(hv:vals (evK C k) as_.toList=some args)(h:Heap) :
  opA C (evK C k) h o.op=some (.call f args):=by
 rw[hop];simp only[opA,evK,hv,callA,hf,hb,cond_true];simp
theorem parse_node(hg:Valid g)(hw:w.length≤2000)(hw2:∀t∈w,t<g.terms)(hTR:TabR g tab R){n i k j:Nat}{r:Rule}{ts:List Tree}{pos:Nat→Nat}(h:tab n (nextW g w i)=some k)(hr:g.rules[k]?=some r)(hp0:pos 0=i)(hpn:pos r.right.length=j)(htl:ts.length=r.right.length)
  (hkid:∀q s T,r.right[q]?=some s→ts[q]?=some T→pos q≤w.length∧POk g p R w s (pos q) T (pos (q+1))):POk g p R w ⟨false,n⟩ i (.mk k 0 ts) j:=by
 intro hi hs F hE;have hsn:n<g.nons:=by unfold SymOk at hs;rw[if_neg (by simp)] at hs;exact hs
 obtain⟨row,z,hrow,hrl,hz,hzv⟩:=hTR.2 n _ hsn (nextW_le hw2 i);rw[h] at hzv;simp only at hzv;subst hzv;have hnl:=nextW_le hw2 i;have hgt:=hg.range.terms;have hkl:=(gS hr).1;have hgr:=hg.range.rules;have hgn:=hg.range.nons;have hRl:=hE.tab.len;have hRl2:=hTR.1;unfold symV psB;refine Abs.Spec.fn (n:=71) Tryd.func30 rfl rfl fun own=>?_;refine AW.seq (AW.reg ?_);refine WT.boxT Z Z Z Z Z Z (fun i3 hi3=>?_);refine WT.freezeAll 0 Z Z (fun F0 hF0 hB0=>?_);have hi3:=hB0 i3 _ me;have hE:=hE.mono hF0;refine WT.allocT hT Z Z Z Z Z Z (fun i4 hi4=>?_);refine zC4 ?_
 refine AW.cond Z (fun h=>(by cases h)) (fun _=>?_);refine zC4 ?_;refine AW.draw (ps:=[(4,10),(4,14),(6,10),(6,14),(8,10),(8,14),(12,14)]) Z Z ?_;unfold psC;refine zC4 ?_;refine WT.idxL hT hE.tab Z Z Z Z Z Z Z Z Z (by dsimp only;omega) (fun row' hrow' b1 off ro cs lx hb1 hp1 hrel=>?_);obtain rfl:row'=row:=Option.some.inj (hrow'.symm.trans hrow);obtain⟨b2,n2,d2,rfl,hrow2⟩:=hrel;have hrl2:=hrow2.len;refine zC4 ?_;refine WT.callLend 2 Tryd.func56 Z Z Z Z Z Z Z (fun G hG hBG=>pnext_spec G g hg (hE.mono hG) hw hi (hBG _ _ me)) (fun v hv=>?_);subst hv;generalize nextW g w i=q at hz hnl
 refine WT.idxL hT hrow2 Z Z Z Z Z Z Z Z Z zo (fun z' hz' b3 off3 ro3 cs3 lx3 hb3 hp3 hrel3=>?_);obtain rfl:z'=(k:Int):=Option.some.inj (hz'.symm.trans hz);obtain rfl:lx3=_:=hrel3;refine zC4 ?_;refine WT.allocT hT Z Z Z Z Z Z (fun i5 hi5=>?_);refine zC4 ?_;refine⟨zrC,?_⟩;refine zC4 ?_;refine AW.cond Z (fun h=>(by simp at h;omega)) (fun _=>?_);refine zC4 ?_;refine WT.idxL hT hE.rules Z Z Z Z Z Z Z Z Z zo (fun r' hr' b6 off6 ro6 cs6 lx6 hb6 hp6 hrel6=>?_);obtain rfl:r'=r:=Option.some.inj (hr'.symm.trans hr);obtain⟨b7,n7,d7,rfl,hr7⟩:=hrel6;have hr7l:=hr7.len;obtain⟨_,hr4,hrs⟩:=hg.right r' (gM hr)
 refine zC4 ?_;refine AW.range (S:=KdS) (fun _=>[]) (fun s=>[(i5,.cells false [.int .i64 k,.int .i64 0,.slice s.ka s.kn s.kc])]::s.KB::[(i4,.cells false [.int .i64 0,.int .i64 0,.slice none 0 0])]::[]::[(p.ip,.cells false [.int .i64 g.terms,.int .i64 g.nons,.int .i64 g.start,.slice p.a p.m p.c,.slice p.ra p.rn p.rc,.slice p.ca p.cn p.cc,.slice p.wa p.wn p.wc,.int .i64 (s.i:Nat)])]::own)
  (fun q s G=>s.i=pos q∧Bld tTree G s.ka s.kn s.kc s.KB (ts.take q)) n7 ⟨none,0,0,[],i⟩ Z Z Z Z Z Z Z Z Z zo rfl rfl (fun _=>rfl) (fun _=>rfl) sM zow ⟨hp0.symm,Bld.nil_ _ _⟩ ?_ ?_
 ·intro q s F5 hF5 hq hP;obtain⟨hsi,hb⟩:=hP;have hr8:=hr7.mono hF5;have hbl:=hb.len;rw[List.length_take] at hbl;refine zC4 ?_;refine WT.idxL hT hr8 Z Z Z Z Z Z Z Z Z zo (fun y hy b8 off8 ro8 cs8 lx8 hb8 hp8 hrel8=>?_);obtain rfl:lx8=_:=hrel8;have hyok:=hrs y (gM hy);refine zC4 ?_;refine WT.allocT hT Z Z Z Z Z Z (fun i7 hi7=>?_);refine zC4 ?_;refine AW.draw (ps:=[(1,4),(1,5)]) Z Z ?_;refine zC4 ?_;obtain⟨T,hT0⟩:∃T,ts[q]?=some T:=⟨_,gE zo⟩;obtain⟨hpl,hk⟩:=hkid q y T hy hT0;have hsp:=hk hpl hyok _ (hE.mono hF5);rw[←hsi] at hsp;unfold symV at hsp
  refine WT.call1F 5 Tryd.func30 Z Z Z Z Z Z Z (fun _=>rfl) (P:=fun F' v B'=>B'=psB g p (pos (q+1))∧∃cs,v=.agg ⟨cs⟩∧tTree.rel F' cs T) (hsp.mono fun F' v o _ h=>⟨_,h.1,rfl,h.2⟩) (fun F6 v B6 hF6 hv=>?_);obtain⟨rfl,cs,rfl,hrel⟩:=hv;unfold psB psC;obtain⟨tr,tu,tks⟩:=T;obtain⟨za,zn,zc,rfl,_,_⟩:=tTree_cases hrel;refine WT.buildT hT Z Z Z Z Z Z Z Z Z Z Z Z Z Z (fun i66 hi66=>?_);refine WT.appendT (R:=tTree) (ys:=[.mk tr tu tks]) hT 3 (hb.mono hF6) Z (fun _=>rfl) Z Z Z Z Z Z Z Z Z Z Z (fun h0 s0=>news_own hT s0 0 Z Z Z Z) (Cells.single (R:=tTree) hrel) Z (by decide) zom (fun a7 c7 B7 hB7=>?_)
  refine zC4 ?_;refine⟨zrC,?_⟩;refine⟨⟨a7,s.kn+1,c7,B7,pos (q+1)⟩,sM,zow,rfl,?_⟩;show Bld tTree F6 a7 (s.kn+1) c7 B7 (ts.take (q+1));rw[List.take_add_one,hT0];exact hB7
 ·intro s F5 hF5 hP;obtain⟨hsi,hb⟩:=hP;rw[hr7l,hpn] at hsi;rw[hr7l,←htl,List.take_length] at hb;refine AW.freezeAll 1 Z Z (fun F6 hF6 hB6=>?_);have hA:=hb.frozen hF6 hB6;refine zC4 ?_;subst hsi;exact AW.ret ⟨_,[[(p.ip,.cells false [.int .i64 g.terms,.int .i64 g.nons,.int .i64 g.start,.slice p.a p.m p.c,.slice p.ra p.rn p.rc,.slice p.ca p.cn p.cc,.slice p.wa p.wn p.wc,.int .i64 (s.i:Nat)])]],⟨_,_,⟨_,rfl,fun G h0 s0=>loadA_cells (s0.has (p:=2) rfl me) (readT_ok hT rfl)⟩,rfl,rfl⟩,zsb,rfl,_,rfl,tTree_mk hA zo⟩
theorem parse_bad(hg:Valid g)(hw:w.length≤2000)(hw2:∀t∈w,t<g.terms)(hTR:TabR g tab R){n i k j:Nat}{r:Rule}{ts:List Tree}{pos:Nat→Nat}(h:tab n (nextW g w i)=some k)(hr:g.rules[k]?=some r)(hp0:pos 0=i){q0:Nat}{s0:Sym}(hs0:r.right[q0]?=some s0)(htl:ts.length=q0)
  (hkid:∀q s T,r.right[q]?=some s→ts[q]?=some T→pos q≤w.length∧POk g p R w s (pos q) T (pos (q+1))) (hpq:pos q0≤w.length) (hbad:PBad g p R w s0 (pos q0) j):PBad g p R w ⟨false,n⟩ i j:=by
 intro hi hs F hE;have hsn:n<g.nons:=by unfold SymOk at hs;rw[if_neg (by simp)] at hs;exact hs
 obtain⟨row,z,hrow,hrl,hz,hzv⟩:=hTR.2 n _ hsn (nextW_le hw2 i);rw[h] at hzv;simp only at hzv;subst hzv;have hnl:=nextW_le hw2 i;have hgt:=hg.range.terms;have hkl:=(gS hr).1;have hgr:=hg.range.rules;have hgn:=hg.range.nons;have hRl:=hE.tab.len;have hRl2:=hTR.1;unfold symV psB;have hq0:=(gS hs0).1;refine SpecPan.fn (n:=71) Tryd.func30 rfl rfl fun own=>?_;refine AW.seq (AW.reg ?_);refine WT.boxT Z Z Z Z Z Z (fun i3 hi3=>?_);refine WT.freezeAll 0 Z Z (fun F0 hF0 hB0=>?_);have hi3:=hB0 i3 _ me;have hE:=hE.mono hF0;refine WT.allocT hT Z Z Z Z Z Z (fun i4 hi4=>?_);refine zC4 ?_
 refine AW.cond Z (fun h=>(by cases h)) (fun _=>?_);refine zC4 ?_;refine AW.draw (ps:=[(4,10),(4,14),(6,10),(6,14),(8,10),(8,14),(12,14)]) Z Z ?_;unfold psC;refine zC4 ?_;refine WT.idxL hT hE.tab Z Z Z Z Z Z Z Z Z (by dsimp only;omega) (fun row' hrow' b1 off ro cs lx hb1 hp1 hrel=>?_);obtain rfl:row'=row:=Option.some.inj (hrow'.symm.trans hrow);obtain⟨b2,n2,d2,rfl,hrow2⟩:=hrel;have hrl2:=hrow2.len;refine zC4 ?_;refine WT.callLend 2 Tryd.func56 Z Z Z Z Z Z Z (fun G hG hBG=>pnext_spec G g hg (hE.mono hG) hw hi (hBG _ _ me)) (fun v hv=>?_);subst hv;generalize nextW g w i=q at hz hnl
 refine WT.idxL hT hrow2 Z Z Z Z Z Z Z Z Z zo (fun z' hz' b3 off3 ro3 cs3 lx3 hb3 hp3 hrel3=>?_);obtain rfl:z'=(k:Int):=Option.some.inj (hz'.symm.trans hz);obtain rfl:lx3=_:=hrel3;refine zC4 ?_;refine WT.allocT hT Z Z Z Z Z Z (fun i5 hi5=>?_);refine zC4 ?_;refine⟨zrC,?_⟩;refine zC4 ?_;refine AW.cond Z (fun h=>(by simp at h;omega)) (fun _=>?_);refine zC4 ?_;refine WT.idxL hT hE.rules Z Z Z Z Z Z Z Z Z zo (fun r' hr' b6 off6 ro6 cs6 lx6 hb6 hp6 hrel6=>?_);obtain rfl:r'=r:=Option.some.inj (hr'.symm.trans hr);obtain⟨b7,n7,d7,rfl,hr7⟩:=hrel6;have hr7l:=hr7.len;obtain⟨_,hr4,hrs⟩:=hg.right r' (gM hr)
 refine zC4 ?_;refine AW.range (S:=KdS) (fun _=>[]) (fun s=>[(i5,.cells false [.int .i64 k,.int .i64 0,.slice s.ka s.kn s.kc])]::s.KB::[(i4,.cells false [.int .i64 0,.int .i64 0,.slice none 0 0])]::[]::[(p.ip,.cells false [.int .i64 g.terms,.int .i64 g.nons,.int .i64 g.start,.slice p.a p.m p.c,.slice p.ra p.rn p.rc,.slice p.ca p.cn p.cc,.slice p.wa p.wn p.wc,.int .i64 (s.i:Nat)])]::own)
  (fun q s G=>q≤q0∧s.i=pos q∧Bld tTree G s.ka s.kn s.kc s.KB (ts.take q)) n7 ⟨none,0,0,[],i⟩ Z Z Z Z Z Z Z Z Z zo rfl rfl (fun _=>rfl) (fun _=>rfl) sM zow ⟨Nat.zero_le _,hp0.symm,Bld.nil_ _ _⟩ ?_ ?_
 ·intro q s F5 hF5 hq hP;obtain⟨hqq,hsi,hb⟩:=hP;have hr8:=hr7.mono hF5;have hbl:=hb.len;rw[List.length_take] at hbl;refine zC4 ?_;refine WT.idxL hT hr8 Z Z Z Z Z Z Z Z Z zo (fun y hy b8 off8 ro8 cs8 lx8 hb8 hp8 hrel8=>?_);obtain rfl:lx8=_:=hrel8;have hyok:=hrs y (gM hy);refine zC4 ?_;refine WT.allocT hT Z Z Z Z Z Z (fun i7 hi7=>?_);refine zC4 ?_;by_cases e:q<q0
  ·refine AW.draw (ps:=[(1,4),(1,5)]) Z Z ?_;refine zC4 ?_;obtain⟨T,hT0⟩:∃T,ts[q]?=some T:=⟨_,gE zo⟩;obtain⟨hpl,hk⟩:=hkid q y T hy hT0;have hsp:=hk hpl hyok _ (hE.mono hF5);rw[←hsi] at hsp;unfold symV at hsp;refine WT.call1F 5 Tryd.func30 Z Z Z Z Z Z Z (fun _=>rfl) (P:=fun F' v B'=>B'=psB g p (pos (q+1))∧∃cs,v=.agg ⟨cs⟩∧tTree.rel F' cs T) (hsp.mono fun F' v o _ h=>⟨_,h.1,rfl,h.2⟩) (fun F6 v B6 hF6 hv=>?_);obtain⟨rfl,cs,rfl,hrel⟩:=hv;unfold psB psC;obtain⟨tr,tu,tks⟩:=T;obtain⟨za,zn,zc,rfl,_,_⟩:=tTree_cases hrel;refine WT.buildT hT Z Z Z Z Z Z Z Z Z Z Z Z Z Z (fun i66 hi66=>?_)
   refine WT.appendT (R:=tTree) (ys:=[.mk tr tu tks]) hT 3 (hb.mono hF6) Z (fun _=>rfl) Z Z Z Z Z Z Z Z Z Z Z (fun h0 s0=>news_own hT s0 0 Z Z Z Z) (Cells.single (R:=tTree) hrel) Z (by decide) zom (fun a7 c7 B7 hB7=>?_);refine zC4 ?_;refine⟨zrC,?_⟩;refine⟨⟨a7,s.kn+1,c7,B7,pos (q+1)⟩,sM,zow,by omega,rfl,?_⟩;show Bld tTree F6 a7 (s.kn+1) c7 B7 (ts.take (q+1));rw[List.take_add_one,hT0];exact hB7
  ·obtain rfl:q=q0:=by omega
   obtain rfl:y=s0:=Option.some.inj (hy.symm.trans hs0);have hsp:=hbad hpq hyok _ (hE.mono hF5);rw[←hsi] at hsp;unfold symV at hsp;refine AW.panD (ps:=[(1,4),(1,5)]) [_,_,_,_] Z Z Z Z ?_;refine zC4 ?_;refine⟨_,_,[psB g p s.i],_,_,[],rfl,rfl,opA_callF Tryd.func30 Z Z Z,hsp,perm_pick (p:=5) rfl,fun F6 oout hF6 hP=>?_⟩;subst hP
   show WT CC 71 _ _ ((65,.agg ⟨[.int .i64 0,.int .i64 0,.slice none 0 0]⟩)::_) _ ([psB g p j]++([(i7,.cells false [.bool y.term,.int .i64 y.n])]::[(i5,.cells false [.int .i64 k,.int .i64 0,.slice s.ka s.kn s.kc])]::s.KB::[(i4,.cells false [.int .i64 0,.int .i64 0,.slice none 0 0])]::[]::own)) _;refine WT.buildT hT Z Z Z Z Z Z Z Z Z Z Z Z Z Z (fun i66 hi66=>?_)
   refine WT.appendT (R:=tTree) (ys:=[.mk 0 0 []]) hT 4 (hb.mono hF6) Z (fun _=>rfl) Z Z Z Z Z Z Z Z Z Z Z (fun h0 s0=>news_own hT s0 0 Z Z Z Z) (Cells.single (R:=tTree) (tTree_mk (Arr.nil_ _ _) (by simp))) Z (by decide) zom (fun a7 c7 B7 hB7=>?_);refine zC4 ?_;refine⟨zrC,?_⟩;exact⟨[psB g p j],List.Sublist.cons_cons _ (show List.Sublist own ([(i7,.cells false [.bool y.term,.int .i64 y.n])]::[(i5,.cells false [.int .i64 k,.int .i64 0,.slice s.ka s.kn s.kc])]::s.KB::[(i4,.cells false [.int .i64 0,.int .i64 0,.slice none 0 0])]::[]::own) from zsb),rfl⟩
 ·intro s F5 hF5 hP;obtain⟨hqq,_⟩:=hP;omega
end
section
variable {g:Gram}{p:PPl}{R:List (List Int)}{w:List Nat}{tab:Nat→Nat→Option Nat}
def PRes(g:Gram)(p:PPl)(R:List (List Int))(w:List Nat)(s:Sym)(i j:Nat):Option Tree→Prop
 | some T=>POk g p R w s i T j
 | none=>PBad g p R w s i j
def KidR(g:Gram)(p:PPl)(R:List (List Int))(w:List Nat)(l:List Sym)(i j:Nat):Option (List Tree)→Prop
 | some ts=>∃pos:Nat→Nat,pos 0=i∧pos l.length=j∧ts.length=l.length∧∀q s T,l[q]?=some s→ts[q]?=some T→pos q≤w.length∧POk g p R w s (pos q) T (pos (q+1))
 | none=>∃(pos:Nat→Nat) (ts:List Tree) (q0:Nat) (s0:Sym),l[q0]?=some s0∧ts.length=q0∧pos 0=i∧(∀q s T,l[q]?=some s→ts[q]?=some T→pos q≤w.length∧POk g p R w s (pos q) T (pos (q+1)))∧pos q0≤w.length∧PBad g p R w s0 (pos q0) j
def shiftP(i:Nat)(pos:Nat→Nat):Nat→Nat
 | 0=>i
 | q+1=>pos q
theorem KidR.cons{s:Sym}{l:List Sym}{T:Tree}{i m j:Nat}{o:Option (List Tree)}(hi:i≤w.length)(h:POk g p R w s i T m)(h2:KidR g p R w l m j o):KidR g p R w (s::l) i j (o.map (T::·)):=by
 have step:∀(pos:Nat→Nat) (ts:List Tree),pos 0=m→(∀q s T,l[q]?=some s→ts[q]?=some T→pos q≤w.length∧POk g p R w s (pos q) T (pos (q+1)))→
   ∀q s' T',(s::l)[q]?=some s'→(T::ts)[q]?=some T'→shiftP i pos q≤w.length∧POk g p R w s' (shiftP i pos q) T' (shiftP i pos (q+1)):=by
  intro pos ts hm hk q s' T' h3 h4;cases q with
  | zero=>
   simp at h3 h4;subst h3 h4;exact⟨hi,by show POk g p R w s i T (pos 0);rw[hm];exact h⟩
  | succ q=>exact hk q s' T' (by simpa using h3) (by simpa using h4)
 cases o with
 | some ts=>
  obtain⟨pos,q1,q2,q3,q4⟩:=h2;exact⟨shiftP i pos,rfl,q2,by simp[q3],step pos ts q1 q4⟩
 | none=>
  obtain⟨pos,ts,q0,s0,q1,q2,q3,q4,q5,q6⟩:=h2;exact⟨shiftP i pos,T::ts,q0+1,s0,by simpa using q1,by simp[q2],rfl,step pos ts q3 q4,q5,q6⟩
mutual
theorem PR.walk(hg:Valid g)(ok:LLok g tab)(hw:w.length≤2000)(hw2:∀t∈w,t<g.terms)(hTR:TabR g tab R):∀{s:Sym} {i j:Nat} {o:Option Tree},PR g tab w s i o j→PRes g p R w s i j o
 | _,_,_,_,.leaf h=>parse_leaf hg hw h
 | _,_,_,_,.other h=>parse_other hg hw h
 | _,_,_,_,.none h=>parse_none hg hw hw2 hTR h
 | _,i,j,_,.node (ts:=ts) h hr h2=>fun hi=>by
  obtain⟨pos,q1,q2,q3,q4⟩:=PRL.walk hg ok hw hw2 hTR h2 hi;exact parse_node hg hw hw2 hTR h hr q1 q2 q3 q4 hi
 | _,i,j,_,.bad h hr h2=>fun hi=>by
  obtain⟨pos,ts,q0,s0,q1,q2,q3,q4,q5,q6⟩:=PRL.walk hg ok hw hw2 hTR h2 hi;exact parse_bad hg hw hw2 hTR h hr q3 q1 q2 q4 q5 q6 hi
theorem PRL.walk(hg:Valid g)(ok:LLok g tab)(hw:w.length≤2000)(hw2:∀t∈w,t<g.terms)(hTR:TabR g tab R):∀{l:List Sym} {i j:Nat} {o:Option (List Tree)},PRL g tab w l i o j→i≤w.length→KidR g p R w l i j o
 | _,i,_,_,.nil,_=>⟨fun _=>i,rfl,rfl,rfl,fun q s T h _=>by simp at h⟩
 | _,_,_,_,.cons (ts:=ts) h h2,hi=>KidR.cons (o:=some ts) hi (PR.walk hg ok hw hw2 hTR h) (PRL.walk hg ok hw hw2 hTR h2 (PR.le ok h hi).2)
 | _,i,_,_,.stop h,hi=>⟨fun _=>i,[],0,_,rfl,rfl,rfl,fun q s T _ h=>by simp at h,hi,PR.walk hg ok hw hw2 hTR h⟩
 | _,_,_,_,.later h h2,hi=>KidR.cons (o:=none) hi (PR.walk hg ok hw hw2 hTR h) (PRL.walk hg ok hw hw2 hTR h2 (PR.le ok h hi).2)
end
end
def ResOk(g:Gram)(w:List Nat)(F:Frz)(s:Sym)(i:Nat)(v:Value):Prop:=
 v=.agg ⟨[.pointer none,.int .i64 (-1)]⟩∨∃b ro cs t j,v=.agg ⟨[.pointer (some ⟨b,0,none⟩),.int .i64 (j:Nat)]⟩∧F b=some (.cells ro cs)∧tTree.rel F cs t∧TreeOf g w s t i j
theorem ResOk.mono{g:Gram}{w:List Nat}{F G:Frz}{s:Sym}{i:Nat}{v:Value}(h:ResOk g w F s i v)(hF:Frz.le F G):ResOk g w G s i v:=by
 rcases h with h | ⟨b,ro,cs,t,j,h1,h2,h3,h4⟩
 ·exact .inl h
 ·exact .inr ⟨b,ro,cs,t,j,h1,hF _ _ h2,tTree.mono _ _ _ _ hF h3,h4⟩
def MemoOk(g:Gram)(w:List Nat)(F:Frz)(es:Ents (Nat×Nat)):Prop:=∀n i v,Abs.look es (n,i)=some v→ResOk g w F ⟨false,n⟩ i v
theorem MemoOk.mono{g:Gram}{w:List Nat}{F G:Frz}{es:Ents (Nat×Nat)}(h:MemoOk g w F es)(hF:Frz.le F G):MemoOk g w G es:=fun n i v q=>(h n i v q).mono hF
structure PA where
 p:Nat
 im:Nat
 a:Option Addr
 m:Nat
 c:Nat
 b:Option Addr
 k:Nat
 d:Nat
structure ParserAt(F:Frz)(x:PA)(g:Gram)(w:List Nat):Prop where
 blk:∃ro,F x.p=some (.cells ro [.int .i64 g.terms,.int .i64 g.nons,.int .i64 g.start,.slice x.a x.m x.c,.slice x.b x.k x.d,.map (some x.im)])
 rules:Arr tRule F x.a x.m x.c g.rules
 word:Arr tNat F x.b x.k x.d w
theorem ParserAt.mono{F G:Frz}{x:PA}{g:Gram}{w:List Nat}(h:ParserAt F x g w)(hF:Frz.le F G):ParserAt G x g w:=
 ⟨let ⟨ro,q⟩:=h.blk;⟨ro,hF _ _ q⟩,h.rules.mono hF,h.word.mono hF⟩
def Memo(g:Gram)(w:List Nat)(x:PA)(F:Frz)(B:List (Nat×Blk)):Prop:=∃es,B=[(x.im,.map (entsV keyP es))]∧MemoOk g w F es
theorem Memo.mono{g:Gram}{w:List Nat}{x:PA}{F G:Frz}{B:List (Nat×Blk)}(h:Memo g w x F B)(hF:Frz.le F G):Memo g w x G B:=by
 obtain⟨es,e,h⟩:=h;exact⟨es,e,h.mono hF⟩
structure PkI where
 ks:List Tree
 a:Option Addr
 c:Nat
 Bk:List (Nat×Blk)
 B:List (Nat×Blk)
 e:Int
 l:Nat
structure PO where
 q:Option Addr
 e:Int
 B:List (Nat×Blk)
theorem WT.assertNil{C:Ctx}{T:RT}{n:Nat}{k:Kno}{F:Frz}{own:Own}{ops rest:List Oper}{o:Oper}{Q:Kno→Frz→Own→List Rec→Prop}(hT:rowsOk C T=true){t tx:TypeId}{xo:Operand}{z:Value}{r:Row}{dst:Nat}(hop:o.op=.typeAssert xo tx t true)(hw:wantK ops k o=some true)(hdst:o.dst=some dst)(hn:Nat.blt dst n=true)
  (hx:evK C k xo=some .nilIface) (hr:rowOf T t=some r) (hz:zeroT T t=some z)
  (h:WT C n ops rest ((dst,.tuple ⟨[z,.bool false]⟩)::k) F own (fun k2 F2 own2 rs=>Q k2 F2 own2 (⟨F,own,F,own,[]⟩::rs))):WT C n ops (o::rest) k F own Q:=by
 refine WT.still hw (l:=[]) (by rw[hop];rfl) (fun h0 _=>?_) (by rw[hdst,putK_some hn];exact h);obtain⟨d,h1,h2⟩:=not_iface hT hr;rw[hop];simp only[opA,hx,typeAssertA,h1,h2,cond_false,cond_true,zeroT_ok hT hz];rfl
def zTree:List Value:=[.int .i64 0,.int .i64 0,.slice none 0 0]
theorem close_nil(F:Frz)(i9 i4 i5 i6:Nat):SpecClose CC .nilIface 29 [.pointer (some ⟨i9,0,none⟩),.pointer (some ⟨i4,0,none⟩),.pointer (some ⟨i5,0,none⟩),.pointer (some ⟨i6,0,none⟩)] F [] fun _ o=>o=[]:=by
 refine SpecClose.fn (n:=17) Tryd.func29 Z Z Z Z Z fun own=>?_;refine WT.assertNil (z:=.agg ⟨[]⟩) hT Z Z Z Z Z Z Z ?_;refine zC4 ?_;refine WT.allocT hT Z Z Z Z Z Z (fun i4 hi4=>?_);refine zC4 ?_;refine AW.cond Z (fun h=>(by cases h)) (fun _=>?_);refine zC4 ?_;exact⟨.inl rfl,[],zsb,rfl⟩
theorem close_pan(F:Frz)(g:Gram)(p:PPl)(j i9 i4 i5 i6:Nat):SpecClose CC (panV CC) 29 [.pointer (some ⟨i9,0,none⟩),.pointer (some ⟨i4,0,none⟩),.pointer (some ⟨i5,0,none⟩),.pointer (some ⟨i6,0,none⟩)] F
  [[(i9,.cells false [.pointer (some ⟨p.ip,0,none⟩)])],psB g p j,[(i4,.cells false zTree)],[(i5,.cells false [.int .i64 0])],[(i6,.cells false [.int .i64 0])]]
  fun _ o=>o=[[(i9,.cells false [.pointer (some ⟨p.ip,0,none⟩)])],psB g p j,[(i4,.cells false zTree)],[(i5,.cells false [.int .i64 j])],[(i6,.cells false [.int .i64 10])]]:=by
 unfold psB psC zTree;refine SpecClose.fn (n:=17) Tryd.func29 Z Z Z Z Z fun own=>?_;refine WT.assertT (v:=.agg ⟨[]⟩) hT Z Z Z Z Z Z ?_;refine zC4 ?_;refine WT.allocT hT Z Z Z Z Z Z (fun ia hia=>?_);refine zC4 ?_;refine AW.cond Z (fun _=>?_) (fun h=>(by cases h));refine zC7 ?_;exact⟨.inl rfl,[[(i9,.cells false [.pointer (some ⟨p.ip,0,none⟩)])],psB g p j,[(i4,.cells false zTree)],[(i5,.cells false [.int .i64 j])],[(i6,.cells false [.int .i64 10])]],zsb,rfl⟩
theorem tabR_of{g:Gram}{P:List (List Bool)}{R:List (List Int)}(hl:R.length=g.nons)(hr:∀n,n<g.nons→ROk g P n (g.terms+1) (R.getD n [])):TabR g (tabP g P) R:=by
 refine⟨hl,fun n t hn ht=>?_⟩;have hn2:n<R.length:=by omega
 obtain⟨h1,h2⟩:=hr n hn;rw[List.getD_eq_getElem?_getD,gE hn2] at h1 h2;have h3:=h2 t zo;simp only[Option.getD_some] at h1 h3;have ht2:t<(R[n]).length:=by omega
 rw[List.getD_eq_getElem?_getD,gE ht2] at h3;refine⟨R[n],(R[n])[t],gE hn2,h1,gE ht2,?_⟩;simp only[Option.getD_some] at h3;rw[h3];unfold tabP;rw[if_pos ⟨hn,ht⟩];cases candsF g P n t g.rules.length<;>rfl
def PAns(g:Gram)(w:List Nat)(F:Frz)(v:Value):Prop:=
 (∃T cs,v=.tuple ⟨[.agg ⟨cs⟩,.int .i64 0,.int .i64 0]⟩∧tTree.rel F cs T∧TreeOf g w ⟨false,g.start⟩ T 0 w.length)∨
 (∃j:Nat,v=.tuple ⟨[.agg ⟨zTree⟩,.int .i64 j,.int .i64 10]⟩∧¬∃T,TreeOf g w ⟨false,g.start⟩ T 0 w.length)
theorem close_fin{g:Gram}{w:List Nat}{p:PPl}{j i9 i4 i5 i6:Nat}{k:Kno}{F:Frz}{own own' fr:Own}(h4:lk k 4=some (.pointer (some ⟨i4,0,none⟩)))(h5:lk k 5=some (.pointer (some ⟨i5,0,none⟩)))(h6:lk k 6=some (.pointer (some ⟨i6,0,none⟩)))
  (hperm:own'.Perm ([[(i9,.cells false [.pointer (some ⟨p.ip,0,none⟩)])],psB g p j,[(i4,.cells false zTree)],[(i5,.cells false [.int .i64 0])],[(i6,.cells false [.int .i64 0])]]++fr)) (hfr:own.Sublist fr) (hno:¬∃T,TreeOf g w ⟨false,g.start⟩ T 0 w.length) :
  closeQ CC 29 [.pointer (some ⟨i9,0,none⟩),.pointer (some ⟨i4,0,none⟩),.pointer (some ⟨i5,0,none⟩),.pointer (some ⟨i6,0,none⟩)] Tryd.f10 own (fun F' v o=>o=[]∧PAns g w F' v) (panV CC) k F own':=by
 refine⟨_,fr,_,close_pan F g p j i9 i4 i5 i6,hperm,fun F3 oout hF hP=>?_⟩;subst hP;exact⟨_,[],⟨_,_,⟨_,h4,fun G h0 s0=>loadA_cells (s0.has (p:=2) rfl me) (readT_ok hT rfl)⟩,⟨_,_,⟨_,h5,fun G h0 s0=>loadA_cells (s0.has (p:=3) rfl me) (readT_ok hT rfl)⟩,
  ⟨_,_,⟨_,h6,fun G h0 s0=>loadA_cells (s0.has (p:=4) rfl me) (readT_ok hT rfl)⟩,rfl,rfl⟩,rfl⟩,rfl⟩,((((hfr.cons _).cons _).cons _).cons _).cons _,rfl,.inr ⟨j,rfl,hno⟩⟩
theorem close_good{g:Gram}{w:List Nat}{i9 i4 i5 i6:Nat}{k:Kno}{F:Frz}{own own':Own}{T:Tree}{tr:Int}{tu:Nat}{za:Option Addr}{zn zc:Nat}(h4:lk k 4=some (.pointer (some ⟨i4,0,none⟩)))(h5:lk k 5=some (.pointer (some ⟨i5,0,none⟩)))(h6:lk k 6=some (.pointer (some ⟨i6,0,none⟩)))
  {q4 q5 q6:Nat} (g4:own'[q4]?=some [(i4,.cells false [.int .i64 tr,.int .i64 tu,.slice za zn zc])]) (g5:own'[q5]?=some [(i5,.cells false [.int .i64 0])]) (g6:own'[q6]?=some [(i6,.cells false [.int .i64 0])]) (hfr:own.Sublist own')
  (hrel:tTree.rel F [.int .i64 tr,.int .i64 tu,.slice za zn zc] T) (hT0:TreeOf g w ⟨false,g.start⟩ T 0 w.length) :
  closeQ CC 29 [.pointer (some ⟨i9,0,none⟩),.pointer (some ⟨i4,0,none⟩),.pointer (some ⟨i5,0,none⟩),.pointer (some ⟨i6,0,none⟩)] Tryd.f10 own (fun F' v o=>o=[]∧PAns g w F' v) .nilIface k F own':=by
 refine⟨[],own',_,close_nil F i9 i4 i5 i6,List.Perm.refl _,fun F3 oout hF hP=>?_⟩;subst hP;exact⟨_,[],⟨_,_,⟨_,h4,fun G h0 s0=>loadA_cells (s0.has (p:=q4) g4 me) (readT_ok hT rfl)⟩,⟨_,_,⟨_,h5,fun G h0 s0=>loadA_cells (s0.has (p:=q5) g5 me) (readT_ok hT rfl)⟩,
  ⟨_,_,⟨_,h6,fun G h0 s0=>loadA_cells (s0.has (p:=q6) g6 me) (readT_ok hT rfl)⟩,rfl,rfl⟩,rfl⟩,rfl⟩,hfr,rfl,.inl ⟨T,_,rfl,tTree.mono _ _ _ _ hF hrel,hT0⟩⟩
theorem perm5{α:Type}(x0 x1 x2 x3 x4 x5 x6:α)(l:List α):(x0::x1::x2::x3::x4::x5::x6::l).Perm (x1::x2::x6::x5::x4::x0::x3::l):=by
 have p1:(x0::x1::x2::x3::x4::x5::x6::l).Perm (x1::x0::x2::x3::x4::x5::x6::l):=List.Perm.swap _ _ _;refine p1.trans (List.Perm.cons _ ?_);refine(List.Perm.swap x2 x0 _).trans (List.Perm.cons _ ?_);refine(perm_pick (p:=4) (x:=x6) rfl).trans (List.Perm.cons _ ?_);refine(perm_pick (p:=3) (x:=x5) rfl).trans (List.Perm.cons _ ?_);refine(perm_pick (p:=2) (x:=x4) rfl).trans (List.Perm.cons _ ?_);exact List.Perm.refl _
theorem perm4{α:Type}(x1 x2 x3 x4 x5 x6:α)(l:List α):(x2::x1::x3::x4::x5::x6::l).Perm (x1::x2::x6::x5::x4::x3::l):=by
 refine(List.Perm.swap x1 x2 _).trans (List.Perm.cons _ (List.Perm.cons _ ?_));refine(perm_pick (p:=3) (x:=x6) rfl).trans (List.Perm.cons _ ?_);refine(perm_pick (p:=2) (x:=x5) rfl).trans (List.Perm.cons _ ?_);refine(perm_pick (p:=1) (x:=x4) rfl).trans (List.Perm.cons _ ?_);exact List.Perm.refl _
theorem predParse_spec(F:Frz)(g:Gram)(hg:Valid g){a:Option Addr}{m c:Nat}(hr:Arr tRule F a m c g.rules){b:Option Addr}{n d:Nat}{w:List Nat}(hwA:Arr tNat F b n d w)(hw:w.length≤2000)(hw2:∀t∈w,t<g.terms)
  (hno:∀P,(∀i r,g.rules[i]?=some r→RowP g r (P.getD i []))→∀n t,n<g.nons→t≤g.terms→fewC g P n t) :
  Abs.Spec CC 10 [.agg ⟨gramCells g a m c⟩,.slice b n d] F [] fun F' v o=>o=[]∧PAns g w F' v:=by
 have hwl:=hwA.len;unfold gramCells;refine Spec.dfn (n:=53) Tryd.func10 rfl rfl fun own=>?_;refine DW.seq rfl (AW.reg ?_);refine WT.boxT Z Z Z Z Z Z (fun i2 hi2=>?_);refine WT.freezeAll 0 Z Z (fun F0 hF0 hB0=>?_);have hi2:=hB0 i2 _ me;have hr:=hr.mono hF0;have hwA:=hwA.mono hF0;refine WT.allocT hT Z Z Z Z Z Z (fun i4 hi4=>?_);refine WT.allocT hT Z Z Z Z Z Z (fun i5 hi5=>?_);refine WT.allocT hT Z Z Z Z Z Z (fun i6 hi6=>?_);refine WT.nil ?_;refine DW.seq rfl (AW.reg ?_);refine zC4 ?_;have hof:=predictOf_spec F0 g hg hr;unfold gramCells at hof
 refine WT.callF0 Tryd.func6 Z Z Z Z Z Z hof (fun F1 v hF1 hv=>?_);obtain⟨ra,rn,rc,R,ca,cn,cc,P,rfl,hRA,hRl,hRr,hcn,hcf,hPr⟩:=hv;have hi2:=hF1 _ _ hi2;have hr1:=hr.mono hF1;have hw1:=hwA.mono hF1;refine zC4 ?_;refine WT.allocT hT Z Z Z Z Z Z (fun i7 hi7=>?_);refine zC4 ?_;refine DW.seq rfl ?_;refine zC4 ?_;refine AW.cond Z (fun h=>(by cases h)) (fun _=>?_);refine zC4 ?_;refine DW.seq rfl ?_;refine zC4 ?_;have hgw:=gword_spec F1 g (a:=a) (m:=m) (c:=c) 2000 (by decide) hw1 zo;rw[wordErr_ok zo hw2] at hgw;unfold gramCells at hgw;refine WT.callV Tryd.func28 Z Z Z Z Z Z hgw (fun v hv=>?_);subst hv
 refine zC4 ?_;refine AW.cond Z (fun h=>(by cases h)) (fun _=>?_);refine zC4 ?_;refine DW.seq rfl ?_;refine zC4 ?_;have hcn0:cn=0:=hcn.2 (hno P hPr);refine AW.cond Z (fun h=>(by simp at h;omega)) (fun _=>?_);refine zC4 ?_;refine DW.seq rfl ?_;refine zC4 ?_;refine WT.boxT Z Z Z Z Z Z (fun ip hip=>?_);refine WT.allocT hT Z Z Z Z Z Z (fun i9 hi9=>?_);refine zC4 ?_;refine DW.defer rfl rfl ?_;refine zC4 ?_;refine⟨_,_,rfl,?_⟩;obtain⟨p,hp⟩:∃p:PPl,p=⟨ip,a,m,c,ra,rn,rc,ca,cn,cc,b,n,d⟩:=⟨_,rfl⟩;have hE:PEnv F1 g p R w:=by subst hp;exact⟨hr1,hRA,hw1⟩
 have hpi:p.ip=ip:=by rw[hp]
 have hpB:∀i,psB g p i=[(ip,.cells false [.int .i64 g.terms,.int .i64 g.nons,.int .i64 g.start,.slice a m c,.slice ra rn rc,.slice ca cn cc,.slice b n d,.int .i64 (i:Nat)])]:=fun i=>by rw[hp];rfl
 have ok:=llok_of hg hPr (hno P hPr);have hTR:=tabR_of hRl hRr;have hst:SymOk g.terms g.nons ⟨false,g.start⟩:=hg.range.start;obtain⟨o,j,hpr⟩:=pr_start (w:=w) hg ok;have hwk:=PR.walk (p:=p) hg ok hw hw2 hTR hpr;cases o with
 | some T=>
  have hsp:=hwk (Nat.zero_le _) hst F1 hE;have hTj:=PR.sound ok hpr;have hjl:=(PR.le ok hpr (Nat.zero_le _)).2;rw[hpB 0,hpi] at hsp;unfold symV at hsp;refine zC4 ?_;refine AW.draw (ps:=[(0,3),(0,5),(2,5)]) Z Z ?_;refine zC4 ?_;refine WT.callV Tryd.func31 Z Z Z Z Z Z (gN_spec _ _) (fun v hv=>?_);subst hv;refine WT.call1F 1 Tryd.func30 Z Z Z Z Z Z Z (fun _=>rfl) (P:=fun F' v B'=>B'=psB g p j∧∃cs,v=.agg ⟨cs⟩∧tTree.rel F' cs T) (hsp.mono fun F' v o _ h=>⟨_,h.1,rfl,h.2⟩) (fun F2 v B2 hF2 hv=>?_);obtain⟨rfl,cs,rfl,hrel⟩:=hv;have hi2:=hF2 _ _ hi2;rw[hpB j];obtain⟨tr,tu,tks⟩:=T
  obtain⟨za,zn,zc,rfl,_,_⟩:=tTree_cases hrel;refine WT.allocT hT Z Z Z Z Z Z (fun i10 hi10=>?_);refine zC4 ?_;refine⟨zrC,?_⟩;refine zC4 ?_;refine AW.cond Z (fun hlt=>?_) (fun hge=>?_)
  ·have hlt:j<w.length:=by simp at hlt;omega
   refine AW.panS [_,_] Z Z ?_;refine zC4 ?_;refine WT.ifaceT hT Z Z Z Z Z Z ?_;refine zC4 ?_;refine⟨rfl,rfl,?_⟩
   refine close_fin (p:=p) (j:=j) (fr:=[(i10,.cells false [.int .i64 tr,.int .i64 tu,.slice za zn zc])]::[(i7,.cells false [.slice ra rn rc,.slice ca cn cc])]::[]::own) Z Z Z ?_ zsb (fun ⟨T',hT'⟩=>by
    have:=(PR.same hpr (pr_whole ok hT')).2;omega)
   ·rw[hpB j,hpi];exact perm5 _ _ _ _ _ _ _ _
  ·have hje:j=w.length:=by simp at hge;omega
   refine zC7 ?_;exact AW.ret (close_good (q4:=6) (q5:=5) (q6:=4) Z Z Z Z Z Z zsb hrel (hje▸hTj))
 | none=>
  have hsp:=hwk (Nat.zero_le _) hst F1 hE;rw[hpB 0,hpi] at hsp;unfold symV at hsp;refine zC4 ?_;refine AW.panD (ps:=[(0,3),(0,5),(2,5)]) [_,_,_,_] Z Z Z Z ?_;refine zC4 ?_;refine WT.callV Tryd.func31 Z Z Z Z Z Z (gN_spec _ _) (fun v hv=>?_);subst hv;refine zC4 ?_;refine⟨_,_,[[(ip,.cells false [.int .i64 g.terms,.int .i64 g.nons,.int .i64 g.start,.slice a m c,.slice ra rn rc,.slice ca cn cc,.slice b n d,.int .i64 (0:Nat)])]],_,_,[],rfl,rfl,opA_callF Tryd.func30 Z Z Z,hsp,perm_pick (p:=1) rfl,fun F2 oout hF2 hP=>?_⟩;subst hP;have hi2:=hF2 _ _ hi2;rw[hpB j]
  show WT CC 53 _ _ ((42,.agg ⟨[.int .i64 0,.int .i64 0,.slice none 0 0]⟩)::_) _ ([(ip,.cells false [.int .i64 g.terms,.int .i64 g.nons,.int .i64 g.start,.slice a m c,.slice ra rn rc,.slice ca cn cc,.slice b n d,.int .i64 (j:Nat)])]::[(i9,.cells false [.pointer (some ⟨ip,0,none⟩)])]::[(i7,.cells false [.slice ra rn rc,.slice ca cn cc])]::[(i6,.cells false [.int .i64 0])]::[(i5,.cells false [.int .i64 0])]::[(i4,.cells false [.int .i64 0,.int .i64 0,.slice none 0 0])]::[]::own) _;refine WT.allocT hT Z Z Z Z Z Z (fun i10 hi10=>?_);refine zC4 ?_;refine⟨zrC,?_⟩
  refine close_fin (p:=p) (j:=j) (fr:=[(i7,.cells false [.slice ra rn rc,.slice ca cn cc])]::[]::own) Z Z Z ?_ zsb (fun ⟨T',hT'⟩=>by
    cases (PR.same hpr (pr_whole ok hT')).1)
  rw[hpB j,hpi];exact perm4 _ _ _ _ _ _ _
theorem partL_ok{cs:List Value}{off n:Nat}{l:List Value}(h:partL cs off n=some l):l=(cs.drop off).take n∧l.length=n:=by
 unfold partL at h;cases e:(((cs.drop off).take n).length==n) with
 | false=>simp only[e,cond_false] at h;cases h
 | true=>
  simp only[e,cond_true] at h;obtain rfl:=Option.some.inj h;exact⟨rfl,eq_of_beq e⟩
theorem partL_app{cs:List Value}{off n m:Nat}{l1 l2:List Value}(h1:partL cs off n=some l1)(h2:partL cs (off+n) m=some l2):partL cs off (n+m)=some (l1++l2):=by
 obtain⟨e1,k1⟩:=partL_ok h1;obtain⟨e2,k2⟩:=partL_ok h2;have e:(cs.drop off).take (n+m)=l1++l2:=by rw[List.take_add,List.drop_drop,←e1,←e2]
 unfold partL;simp only[e];have:((l1++l2).length==n+m)=true:=by simp[k1,k2]
 rw[this];rfl
theorem arr_part{α:Type}{R:Ty α}{F:Frz}{a:Option Addr}{n c:Nat}{xs:List α}(hx:Arr R F a n c xs)(hn:0<n) :
  ∃b off ro cs ds,a=some ⟨b,off,none⟩∧F b=some (.cells ro cs)∧partL cs off (n*R.size)=some ds∧Cells R F ds xs:=by
 have hl:=hx.len;obtain⟨x0,h0⟩:∃x,xs[0]?=some x:=⟨_,gE zo⟩;obtain⟨b,off,ro,cs,l,h1,h2,h3,h4⟩:=hx.el 0 x0 h0;have main:∀k,k≤xs.length→0<k→∃ds,partL cs off (k*R.size)=some ds∧Cells R F ds (xs.take k):=by
  intro k
  induction k with
  | zero=>intro _ h;omega
  | succ k ih=>
   intro hk _;obtain⟨y,hy⟩:∃x,xs[k]?=some x:=⟨_,gE zo⟩;obtain⟨b',off',ro',cs',l',g1,g2,g3,g4⟩:=hx.el k y hy;rw[h1] at g1;injection g1 with g1;injection g1 with g1 g1';subst g1;subst g1';rw[h2] at g2;injection g2 with g2;injection g2 with g2 g2';subst g2';have ht:xs.take (k+1)=xs.take k++[y]:=by rw[List.take_add_one,hy];rfl
   rw[ht];by_cases hk0:k=0
   ·subst hk0;exact⟨l',by simpa using g3,by simpa using Cells.single g4⟩
   ·obtain⟨ds,d1,d2⟩:=ih zo zo;exact⟨ds++l',by rw[Nat.add_mul,Nat.one_mul];exact partL_app d1 g3,d2.append (Cells.single g4)⟩
 obtain⟨ds,d1,d2⟩:=main n zo hn;rw[hl,List.take_length] at d2;exact⟨b,off,ro,cs,ds,h1,h2,d1,d2⟩
theorem news_part{C:Ctx}{T:RT}{F:Frz}{own:Own}(hT:rowsOk C T=true){h:Heap}(s:St F own h){b off:Nat}{ro:Bool}{cs ds:List Value}{e sz len c t e':Nat}{r:Row}(hb:F b=some (.cells ro cs))(hr:rowOf T t=some r)(hd:r.d=.slice e')
  (hp:partL cs off (len*sz)=some ds):newsA C h e sz (some t) (.slice (some ⟨b,off,none⟩) len c)=some (len,ds):=by
 have hb:=s.frz _ _ hb;by_cases hz:len=0
 ·subst hz;have:=(partL_ok hp).1;rw[Nat.zero_mul,List.take_zero] at this;subst this;simp[newsA,und_slice hT hr hd,plainNewsA,lenOfA,firstA]
 ·simp only[newsA,und_slice hT hr hd,plainNewsA,lenOfA,firstA,cellsAt,hb,hp,show (len==0)=false by simpa using hz];rfl
theorem arr_one{F:Frz}{b:Nat}{ro:Bool}{x:Nat}(h:F b=some (.cells ro [.int .i64 x])):Arr tNat F (some ⟨b,0,none⟩) 1 1 [x]:=by
 refine⟨rfl,.inr rfl,fun h=>(by cases h),fun h=>(by cases h),?_,?_⟩
 ·intro p hp;injection hp with hp;subst hp;rfl
 ·intro j y hj;have h0:j=0:=by have:=(gS hj).1;simp at this;omega
  subst h0;obtain rfl:x=y:=by simpa using hj
  exact⟨b,0,ro,_,_,rfl,h,rfl,rfl⟩
theorem word_one{w:List Nat}{i x:Nat}(h:w[i]?=some x):(w.take (i+1)).drop i=[x]:=by
 rw[List.take_add_one,h];have:=(gS h).1;rw[List.drop_append_of_le_length (by simp;omega),List.drop_of_length_le (by simp;omega)];rfl
theorem word_app{w:List Nat}{i m j:Nat}(h1:i≤m)(h2:m≤j)(h3:m≤w.length):(w.take j).drop i=(w.take m).drop i++(w.take j).drop m:=by
 have:w.take j=w.take m++(w.take j).drop m:=by
  have:=(List.take_append_drop m (w.take j)).symm;rw[List.take_take,Nat.min_eq_left h2] at this;exact this
 conv=>lhs;rw[this]
 rw[List.drop_append_of_le_length (by simp;omega)]
structure RS where
 xs:List Nat
 a:Option Addr
 c:Nat
 B:List (Nat×Blk)
theorem reads_spec(g:Gram)(hg:Valid g){a:Option Addr}{m c:Nat}(w:List Nat)(hw:w.length≤12):∀(d:Nat) (F:Frz) (hr:Arr tRule F a m c g.rules) (cs:List Value) (t:Tree) (s:Sym) (i j:Nat),(tTreeN d).rel F cs t→TreeOf g w s t i j→i≤w.length→
  Abs.Spec CC 40 [.agg ⟨gramCells g a m c⟩,.agg ⟨[.bool s.term,.int .i64 s.n]⟩,.agg ⟨cs⟩] F [] fun F' v o=>o=[]∧∃a n c,v=.tuple ⟨[.slice a n c,.bool true]⟩∧Arr tNat F' a n c ((w.take j).drop i)∧(n=0→a=none)
 | 0,_,_,_,_,_,_,_,h,_,_=>h.elim
 | d+1,F,hr,cs,t,s,i,j,h,ht,hi=>by
  obtain⟨tr,tt,ks,ta,tn,tc,rfl,rfl,hk,hkb⟩:=h;have hkl:=hk.len;have hrl:=hr.len;have hgr:=hg.range.rules;unfold gramCells;refine Abs.Spec.fn (n:=107) Tryd.func40 rfl rfl fun own=>?_;refine AW.seq (AW.reg ?_);refine WT.boxT Z Z Z Z Z Z (fun i3 hi3=>?_);refine WT.boxT Z Z Z Z Z Z (fun i4 hi4=>?_);refine WT.boxT Z Z Z Z Z Z (fun i5 hi5=>?_);refine zB4 ?_;cases ht with
  | leaf hw1=>
   obtain rfl:tn=0:=hkl;refine AW.cond Z (fun _=>?_) (fun h=>(by cases h));refine AW.seq (AW.draw (ps:=[(4,2),(5,2),(8,2),(10,2),(11,2),(15,2),(16,2),(17,2)]) Z Z ?_);refine zB4 ?_;refine WT.buildT hT Z Z Z Z Z Z Z Z Z Z Z Z Z Z (fun i17 hi17=>?_);refine zB4 ?_;refine WT.split 21 Z (fun _=>?_) (fun h=>(by simp at h));refine WT.split 28 Z (fun _=>?_) (fun h=>(by simp at h));refine zB4 ?_;refine⟨zrC,?_⟩;refine AW.freezeAll 0 Z Z (fun F2 hF2 hB2=>?_);have hi17:=hB2 i17 _ me
   exact AW.ret ⟨_,[],⟨_,_,rfl,⟨_,_,rfl,rfl,rfl⟩,rfl⟩,zsb,rfl,_,1,1,rfl,(by rw[word_one hw1];exact arr_one hi17),fun h=>(by cases h)⟩
  | node hrk hts=>
   rename_i k r;have hkn:=(gS hrk).1;have hle:=hts.len;refine AW.cond Z (fun h=>(by cases h)) (fun _=>?_);refine zB4 ?_;refine WT.split 37 Z (fun h=>(by simp at h;omega)) (fun _=>?_);refine WT.split 45 Z (fun h=>(by simp at h;omega)) (fun _=>?_);refine zB4 ?_;refine WT.split 50 Z (fun h=>(by simp at h)) (fun _=>?_);refine WT.idxL hT hr Z Z Z Z Z Z Z Z Z hkn (fun r1 hr1 b1 off ro1 cs lx hb hp1 hrel=>?_);obtain rfl:r1=r:=by rw[hrk] at hr1;exact(Option.some.inj hr1).symm
   obtain⟨b2,n2,d2,rfl,hr4⟩:=hrel;have hr4l:=hr4.len;refine zB4 ?_;refine WT.split 62 Z (fun h=>(by simp at h)) (fun _=>?_);refine zB4 ?_;refine WT.idxL hT hr Z Z Z Z Z Z Z Z Z hkn (fun r2 hr2 b1' off' ro1' cs' lx' hb' hp1' hrel'=>?_);obtain rfl:r2=r1:=by rw[hrk] at hr2;exact(Option.some.inj hr2).symm
   obtain⟨b2',n2',d2',rfl,hr4'⟩:=hrel';have hr4l':=hr4'.len;refine zB4 ?_;refine AW.cond Z (fun h=>(by simp at h;omega)) (fun _=>?_);refine zB4 ?_;refine AW.range (S:=RS) (fun s=>[(8,.slice s.a s.xs.length s.c)]) (fun s=>s.B::[(i5,.cells false [.int .i64 k,.int .i64 (0:Nat),.slice ta tn tc])]::[(i4,.cells false [.bool false,.int .i64 r2.left])]::[(i3,.cells false [.int .i64 g.terms,.int .i64 g.nons,.int .i64 g.start,.slice a m c])]::own)
    (fun q s G=>Bld tNat G s.a s.xs.length s.c s.B s.xs∧∃mm,s.xs=(w.take mm).drop i∧i≤mm∧mm≤w.length∧TreesOf g w (r2.right.drop q) (ks.drop q) mm j∧(s.xs.length=0→s.a=none)) tn ⟨[],none,0,[]⟩
    Z Z Z Z Z Z Z Z Z zo rfl rfl (fun _=>rfl) (fun _=>rfl) sM (OwnLe.flat (List.Perm.refl _)) ⟨Bld.nil_ _ _,i,by rw[List.drop_of_length_le (by simp;omega)],Nat.le_refl _,hi,hts,fun _=>rfl⟩ ?_ ?_
   ·intro q s F1 hF1 hq hP;obtain⟨hb,mm,hxs,h1,h2,hts2,hnil⟩:=hP;have hk1:=hk.mono hF1;have hrA:=hr.mono hF1;refine zB6 ?_;refine WT.idxL hT hk1 Z Z Z Z Z Z Z Z (by rw[tTreeN_size];rfl) zo (fun x hx b off ro cs lx hb1 hp1 hrel=>?_);rw[tTreeN_size] at hp1;obtain⟨xr,xt,xk,xa,xn,xc,rfl,rfl,hxa,hxb⟩:∃xr xt xk xa xn xc,x=Tree.mk xr xt xk∧lx=[.int .i64 xr,.int .i64 (xt:Nat),.slice xa xn xc]∧Arr tTree F1 xa xn xc xk∧xk.length≤1000000:=by
     cases x with
     | mk xr xt xk=>
      obtain⟨xa,xn,xc,h1,h2,h3⟩:=tTree_cases ⟨d,hrel⟩;exact⟨xr,xt,xk,xa,xn,xc,rfl,h1,h2,h3⟩
    refine zB6 ?_;refine WT.allocT hT Z Z Z Z Z Z (fun i10 hi10=>?_);refine zB6 ?_;refine WT.idxL hT hrA Z Z Z Z Z Z Z Z Z hkn (fun r3 hr3 b3 off3 ro3 cs3 lx3 hb3 hp3 hrel3=>?_);obtain rfl:r3=r2:=by rw[hrk] at hr3;exact(Option.some.inj hr3).symm
    obtain⟨b4,n4,d4,rfl,hr5⟩:=hrel3;have hr5l:=hr5.len;refine zB6 ?_;refine WT.idxL hT hr5 Z Z Z Z Z Z Z Z Z zo (fun y hy b6 off6 ro6 cs6 lx6 hb6 hp6 hrel6=>?_);obtain rfl:lx6=_:=hrel6;obtain⟨hq1,hy1⟩:=gS hy;obtain⟨hq2,hx1⟩:=gS hx;rw[List.drop_eq_getElem_cons hq1,List.drop_eq_getElem_cons hq2,hy1,hx1] at hts2;obtain⟨m2,hto,hts3⟩:∃m2,TreeOf g w y (Tree.mk xr xt xk) mm m2∧TreesOf g w (r3.right.drop (q+1)) (ks.drop (q+1)) m2 j:=by
     cases hts2 with
     | cons h h2=>exact⟨_,h,h2⟩
    have hm2:=hto.le;have hm2w:=hm2.2 h2;refine zB6 ?_;refine WT.callF0 Tryd.func40 Z Z Z Z Z Z (reads_spec g hg w hw d _ hrA _ _ y mm m2 hrel hto h2) (fun F2 v hF2 hv=>?_);obtain⟨ya,yn,yc,rfl,hya,hyz⟩:=hv;have hb:=hb.mono hF2;have hyl:=hya.len;have hyl2:yn≤12:=by rw[hyl];simp;omega
    have hsl:s.xs.length≤12:=by rw[hxs];simp;omega
    refine zB6 ?_;refine AW.cond Z (fun h=>(by cases h)) (fun _=>?_);refine zB6 ?_;rcases Nat.eq_zero_or_pos yn with hz | hz
    ·subst hz;have hm0:(w.take m2).drop mm=[]:=List.length_eq_zero_iff.1 hyl.symm;obtain rfl:=hyz rfl;refine WT.append0 hT Z Z Z Z Z Z Z Z Z Z Z Z Z (fun h0 s0=>rfl) (by decide) zom ?_;refine zB6 ?_;exact⟨⟨s.xs,s.a,s.c,s.B⟩,sM,OwnLe.skip _ oR,hb,m2,by rw[hxs,word_app h1 hm2.1 h2,hm0,List.append_nil],by omega,hm2w,hts3,hnil⟩
    ·obtain⟨b7,off7,ro7,cs7,ds7,rfl,hb7,hp7,hc7⟩:=arr_part hya hz;refine WT.appendT (ys:=(w.take m2).drop mm) hT 1 hb Z (fun _=>rfl) Z Z Z Z Z Z Z Z Z Z Z (fun h0 s0=>news_part hT s0 hb7 Z Z hp7) hc7 hyl ⟨hz,by decide,by decide⟩ zom (fun a3 c3 B3 hB3=>?_);have hl2:(s.xs++(w.take m2).drop mm).length=s.xs.length+yn:=by rw[List.length_append,←hyl]
     rw[←hl2] at hB3 ⊢;refine zB6 ?_;exact⟨⟨s.xs++(w.take m2).drop mm,a3,c3,B3⟩,sM,OwnLe.skip _ oR,hB3,m2,by rw[hxs,←word_app h1 hm2.1 h2],by omega,hm2w,hts3,fun h=>absurd h (by rw[hl2];omega)⟩
   ·intro s F1 hF1 hP;obtain⟨hb,mm,hxs,h1,h2,hts2,hnil⟩:=hP;rw[List.drop_of_length_le zo,List.drop_of_length_le zo] at hts2;have:mm=j:=by cases hts2;rfl
    subst this;refine AW.freezeAll 0 Z Z (fun F2 hF2 hB2=>?_);have hx:=hb.frozen hF2 hB2;refine zB4 ?_;exact AW.ret ⟨_,[],⟨_,_,rfl,⟨_,_,rfl,rfl,rfl⟩,rfl⟩,zsb,rfl,_,_,_,rfl,hxs▸hx,hnil⟩
theorem isTree_spec(g:Gram)(hg:Valid g)(F:Frz){a:Option Addr}{m c:Nat}(hr:Arr tRule F a m c g.rules)(w:List Nat)(hw:w.length≤12){cs:List Value}{t:Tree}{j:Nat}(ht:tTree.rel F cs t)(hto:TreeOf g w ⟨false,g.start⟩ t 0 j)
  {b:Option Addr} {n d:Nat} (hb:Arr tNat F b n d (w.take j)) :
  Abs.Spec CC 14 [.agg ⟨gramCells g a m c⟩,.slice b n d,.agg ⟨cs⟩] F [] fun _ v o=>o=[]∧v=.bool true:=by
 obtain⟨dd,hdd⟩:=id ht;obtain⟨tr,tt,tk⟩:=t;obtain⟨ta,tn,tc,rfl,hta,htb⟩:=tTree_cases ht;unfold gramCells;refine Abs.Spec.fn (n:=24) Tryd.func14 rfl rfl fun own=>?_;refine AW.seq (AW.reg ?_);refine WT.boxT Z Z Z Z Z Z (fun i3 hi3=>?_);refine WT.boxT Z Z Z Z Z Z (fun i5 hi5=>?_);refine zB4 ?_;refine WT.callF0 Tryd.func40 Z Z Z Z Z Z (reads_spec g hg w hw dd _ hr _ _ ⟨false,g.start⟩ 0 j hdd hto (Nat.zero_le _)) (fun F1 v hF1 hv=>?_);obtain⟨ya,yn,yc,rfl,hya,_⟩:=hv;rw[List.drop_zero] at hya;have hyl:=hya.len;have hyn:yn≤1000000:=by rw[hyl];simp;omega
 refine zB4 ?_;refine WT.callV Tryd.func20 Z Z Z Z Z Z (equal_spec _ hya (hb.mono hF1) hyn) (fun v hv=>?_);rw[decide_eq_true rfl] at hv;subst hv;refine zB4 ?_;exact AW.ret ⟨_,[],⟨_,_,rfl,rfl,rfl⟩,zsb,rfl,rfl⟩
mutual
theorem TreeOf.ends{g:Gram}{w:List Nat}:∀{t:Tree} {s s':Sym} {i j j':Nat},TreeOf g w s t i j→TreeOf g w s' t i j'→j=j'
 | .mk _ _ _,_,_,_,_,_,.leaf _,h=>by
  generalize hr:(-1:Int)=r at h;cases h with
  | leaf _=>rfl
  | node _ _=>omega
 | .mk _ _ ks,_,_,_,_,_,.node (k:=k) h h2,h'=>by
  generalize hr:(k:Int)=r at h';cases h' with
  | leaf _=>omega
  | node _ h3=>exact TreesOf.ends h2 h3
theorem TreesOf.ends{g:Gram}{w:List Nat}:∀{ts:List Tree} {l l':List Sym} {i j j':Nat},TreesOf g w l ts i j→TreesOf g w l' ts i j'→j=j'
 | [],_,_,_,_,_,.nil,h=>by cases h;rfl
 | t::ts,_,_,_,_,_,.cons h1 h2,h=>by
  cases h with
  | cons h3 h4=>
   obtain rfl:=TreeOf.ends h1 h3;exact TreesOf.ends h2 h4
end
mutual
theorem TreeOf.toDer{g:Gram}{w:List Nat}:∀{t:Tree} {s:Sym} {i j:Nat},TreeOf g w s t i j→Der g w s i j
 | .mk _ _ _,_,_,_,.leaf h=>.term h
 | .mk _ _ ks,_,_,_,.node h h2=>.non (gM h) (TreesOf.toDer h2)
theorem TreesOf.toDer{g:Gram}{w:List Nat}:∀{ts:List Tree} {l:List Sym} {i j:Nat},TreesOf g w l ts i j→Ders g w l i j
 | [],_,_,_,.nil=>.nil
 | t::ts,_,_,_,.cons h1 h2=>.cons (TreeOf.toDer h1) (TreesOf.toDer h2)
end
theorem two_sum:∀{l:List Nat},2≤l.sum→(∃(a:Nat) (x:Nat),l[a]?=some x∧2≤x)∨∃(a b x y:Nat),a<b∧l[a]?=some x∧l[b]?=some y∧1≤x∧1≤y
 | [],h=>by simp at h
 | z::l,h=>by
  rw[List.sum_cons] at h;by_cases h2:2≤z
  ·exact .inl ⟨0,z,rfl,h2⟩
  ·by_cases h0:z=0
   ·rcases two_sum (l:=l) zo with ⟨a,x,h3,h4⟩ | ⟨a,b,x,y,h3,h4,h5,h6,h7⟩
    ·exact .inl ⟨a+1,x,h3,h4⟩
    ·exact .inr ⟨a+1,b+1,x,y,by omega,h4,h5,h6,h7⟩
   ·obtain⟨y,hy,h3⟩:=sum_pos (l:=l) zo;obtain⟨b,hb,hb2⟩:=List.getElem_of_mem hy;exact .inr ⟨0,b+1,z,y,by omega,rfl,by rw[List.getElem?_cons_succ,gE hb,hb2],by omega,h3⟩
theorem mul_pos'{a b:Nat}(h:1≤a*b):1≤a∧1≤b:=by
 constructor
 ·rcases Nat.eq_zero_or_pos a with e | e
  ·rw[e,Nat.zero_mul] at h;omega
  ·exact e
 ·rcases Nat.eq_zero_or_pos b with e | e
  ·rw[e,Nat.mul_zero] at h;omega
  ·exact e
theorem mul_two{a b:Nat}(h:2≤a*b):(2≤a∧1≤b)∨(1≤a∧2≤b):=by
 obtain⟨h1,h2⟩:=mul_pos' (a:=a) (b:=b) zo;by_cases e:2≤a
 ·exact .inl ⟨e,h2⟩
 ·obtain rfl:a=1:=by omega
  exact .inr ⟨Nat.le_refl _,by omega⟩
section
variable {g:Gram}{w:List Nat}
theorem listT_trees{f:Sym→Nat→Nat→Nat}(h1:∀s i j,1≤f s i j→∃T,TreeOf g w s T i j)(h2:∀s i j,2≤f s i j→∃T T',T≠T'∧TreeOf g w s T i j∧TreeOf g w s T' i j) :
  ∀(l:List Sym) (i j:Nat),(1≤listT f l i j→∃ts,TreesOf g w l ts i j)∧(2≤listT f l i j→∃ts ts',ts≠ts'∧TreesOf g w l ts i j∧TreesOf g w l ts' i j)
 | [],i,j=>by
  unfold listT;split
  ·rename_i e;subst e;exact⟨fun _=>⟨[],.nil⟩,fun h=>by omega⟩
  ·exact⟨fun h=>by omega,fun h=>by omega⟩
 | s::l,i,j=>by
  have ih:=listT_trees h1 h2 l;unfold listT;have hat:∀{a x:Nat},((List.range (j+1)).map fun m=>f s i m*listT f l m j)[a]?=some x→x=f s i a*listT f l a j:=fun {a x} h=>by
   rw[List.getElem?_map] at h;cases hm:(List.range (j+1))[a]? with
   | none=>rw[hm] at h;cases h
   | some m=>
    rw[hm] at h;have h3:=gS hm;obtain⟨h3,h4⟩:=h3;rw[List.getElem_range] at h4;subst h4;exact(Option.some.inj h).symm
  constructor
  ·intro h;obtain⟨x,hx,h3⟩:=sum_pos h;obtain⟨m,_,rfl⟩:=List.mem_map.1 hx;obtain⟨h4,h5⟩:=mul_pos' h3;obtain⟨T,hT⟩:=h1 _ _ _ h4;obtain⟨ts,hts⟩:=(ih m j).1 h5;exact⟨T::ts,.cons hT hts⟩
  ·intro h;rcases two_sum h with ⟨a,x,h3,h4⟩ | ⟨a,b,x,y,h3,h4,h5,h6,h7⟩
   ·rw[hat h3] at h4;rcases mul_two h4 with ⟨h5,h6⟩ | ⟨h5,h6⟩
    ·obtain⟨T,T',hne,hT,hT'⟩:=h2 _ _ _ h5;obtain⟨ts,hts⟩:=(ih a j).1 h6;exact⟨T::ts,T'::ts,fun e=>hne (List.head_eq_of_cons_eq e),.cons hT hts,.cons hT' hts⟩
    ·obtain⟨T,hT⟩:=h1 _ _ _ h5;obtain⟨ts,ts',hne,hts,hts'⟩:=(ih a j).2 h6;exact⟨T::ts,T::ts',fun e=>hne (List.tail_eq_of_cons_eq e),.cons hT hts,.cons hT hts'⟩
   ·rw[hat h4] at h6;rw[hat h5] at h7;obtain⟨a1,a2⟩:=mul_pos' h6;obtain⟨b1,b2⟩:=mul_pos' h7;obtain⟨T,hT⟩:=h1 _ _ _ a1;obtain⟨ts,hts⟩:=(ih a j).1 a2;obtain⟨T',hT'⟩:=h1 _ _ _ b1;obtain⟨ts',hts'⟩:=(ih b j).1 b2;refine⟨T::ts,T'::ts',fun e=>?_,.cons hT hts,.cons hT' hts'⟩;have e:=List.head_eq_of_cons_eq e;subst e;have:=hT.ends hT';omega
theorem symT_trees:∀(d:Nat) (s:Sym) (i j:Nat),(1≤symT g w d s i j→∃T,TreeOf g w s T i j)∧(2≤symT g w d s i j→∃T T',T≠T'∧TreeOf g w s T i j∧TreeOf g w s T' i j)
 | 0,s,i,j=>⟨fun h=>absurd h (by show ¬1≤0;omega),fun h=>absurd h (by show ¬2≤0;omega)⟩
 | d+1,⟨b,n⟩,i,j=>by
  have ih:=listT_trees (g:=g) (w:=w) (f:=symT g w d) (fun s i j=>(symT_trees d s i j).1) (fun s i j=>(symT_trees d s i j).2);unfold symT;cases b with
  | true=>
   rw[if_pos rfl];split
   ·rename_i h;obtain⟨h,rfl⟩:=h;exact⟨fun _=>⟨_,.leaf h⟩,fun h=>by omega⟩
   ·exact⟨fun h=>by omega,fun h=>by omega⟩
  | false=>
   rw[if_neg (by simp)];have hat:∀{a x:Nat},(g.rules.map fun r=>if r.left=n then listT (symT g w d) r.right i j else 0)[a]?=some x→1≤x→∃r,g.rules[a]?=some r∧r.left=n∧x=listT (symT g w d) r.right i j:=fun {a x} h hx=>by
    rw[List.getElem?_map] at h;cases hm:g.rules[a]? with
    | none=>rw[hm] at h;cases h
    | some r=>
     rw[hm] at h;have h:=Option.some.inj h;dsimp only at h;split at h
     ·rename_i hl;exact⟨r,rfl,hl,h.symm⟩
     ·omega
   constructor
   ·intro h;obtain⟨x,hx,h3⟩:=sum_pos h;obtain⟨a,ha,ha2⟩:=List.getElem_of_mem hx;obtain⟨r,hr,rfl,rfl⟩:=hat (by rw[gE ha,ha2]) h3;obtain⟨ts,hts⟩:=(ih r.right i j).1 h3;exact⟨_,.node hr hts⟩
   ·intro h;rcases two_sum h with ⟨a,x,h3,h4⟩ | ⟨a,b,x,y,h3,h4,h5,h6,h7⟩
    ·obtain⟨r,hr,rfl,rfl⟩:=hat h3 zo;obtain⟨ts,ts',hne,hts,hts'⟩:=(ih r.right i j).2 h4;exact⟨_,_,fun e=>hne (by simpa using e),.node hr hts,.node hr hts'⟩
    ·obtain⟨r,hr,hl,rfl⟩:=hat h4 h6;obtain⟨r',hr',hl',rfl⟩:=hat h5 h7;obtain⟨ts,hts⟩:=(ih r.right i j).1 h6;obtain⟨ts',hts'⟩:=(ih r'.right i j).1 h7;have t1:=TreeOf.node hr hts;have t2:=TreeOf.node hr' hts';rw[hl] at t1;rw[hl'] at t2;refine⟨_,_,fun e=>?_,t1,t2⟩;simp only[Tree.mk.injEq] at e;omega
theorem count_only{c:Int}(hc:CountVal (fun d=>symT g w d ⟨false,g.start⟩ 0 w.length) c)(hu:∀T T',TreeOf g w ⟨false,g.start⟩ T 0 w.length→TreeOf g w ⟨false,g.start⟩ T' 0 w.length→T=T') :
  ((∃T,TreeOf g w ⟨false,g.start⟩ T 0 w.length)→c=1)∧((¬∃T,TreeOf g w ⟨false,g.start⟩ T 0 w.length)→c=0):=by
 have hle:∀d,symT g w d ⟨false,g.start⟩ 0 w.length≤1:=fun d=>by
  rcases Nat.lt_or_ge 1 (symT g w d ⟨false,g.start⟩ 0 w.length) with h | h
  ·obtain⟨T,T',hne,h1,h2⟩:=(symT_trees d _ _ _).2 h;exact absurd (hu T T' h1 h2) hne
  ·exact h
 have hM:MAXC=1000000000:=rfl;rcases hc with ⟨n,⟨D,hD⟩,rfl⟩ | ⟨hU,_⟩
 ·have hn:=hD D (Nat.le_refl _);dsimp only at hn;have hn1:=hle D;constructor
  ·rintro⟨T,hT⟩;obtain⟨d,hd⟩:=der_symT hT.toDer;have h1:=hD (max D d) zo;dsimp only at h1;have h2:=symT_le g w (show d≤max D d by omega) ⟨false,g.start⟩ 0 w.length;have:n=1:=by omega
   subst this;rw[hM];decide
  ·intro hno;have:n=0:=by
    rcases Nat.eq_zero_or_pos n with e | e
    ·exact e
    ·exact absurd ((symT_trees (g:=g) (w:=w) D _ _ _).1 zo) hno
   subst this;rw[hM];decide
 ·obtain⟨d,hd⟩:=hU 2;have:=hle d;dsimp only at hd;omega
end
theorem few_of{g:Gram}{P P':List (List Bool)}(hP:∀i r,g.rules[i]?=some r→RowP g r (P.getD i []))(hP':∀i r,g.rules[i]?=some r→RowP g r (P'.getD i [])){n t:Nat}(h:fewC g P n t):fewC g P' n t:=by
 have:candsF g P' n t g.rules.length=candsF g P n t g.rules.length:=by
  unfold candsF;refine List.filter_congr fun i hi=>?_;have hr:=gE (List.mem_range.1 hi);unfold candB;rw[hr];congr 1;rw[Bool.eq_iff_iff,(hP _ _ hr).2,(hP' _ _ hr).2]
 unfold fewC at h ⊢;rw[this];exact h
theorem predictOnly_law(F:Frz)(hLd:Laid F){a b:Option Addr}{m n c d:Nat}{l w0:List Int}(hl:Arr tInt F a m c l)(hw0:Arr tInt F b n d w0)(hm:n≤9223372036854775807) :
  Abs.Spec CC 4 [.slice a m c,.slice b n d] F [] fun _ v o=>o=[]∧v=.bool true:=by
 refine Abs.Spec.fn (n:=78) Tryd.func4 rfl rfl fun own=>?_;refine zB4 ?_;refine WT.callF0 Tryd.func5 Z Z Z Z Z Z (made_spec _ hl hw0 hm 8 (by decide)) (fun F1 v hF1 hv=>?_);obtain⟨g,ga,gm,gc,wa,wn,wc,w,rfl,hg,hr,hw,hw1,hw2⟩:=hv;have hL1:=hLd.mono hF1;have hgv:=hg.valid;have hgt:=hg.terms;have hwl:=hw.len;unfold gramCells;refine zC4 ?_;refine WT.allocT hT Z Z Z Z Z Z (fun i5 hi5=>?_);refine zC4 ?_;have hof:=predictOf_spec F1 g hgv hr;unfold gramCells at hof;refine WT.callF0 Tryd.func6 Z Z Z Z Z Z hof (fun F2 v hF2 hv=>?_);obtain⟨ra,rn,rc,R,ca,cn,cc,P,rfl,_,_,_,hcn,hcf,hPr⟩:=hv
 have hL2:=hL1.mono hF2;have hr2:=hr.mono hF2;have hw3:=hw.mono hF2;refine zC4 ?_;refine WT.allocT hT Z Z Z Z Z Z (fun i6 hi6=>?_);refine zC4 ?_;refine WT.callV Tryd.func8 Z Z Z Z Z Z (Abs.Spec.fact Z hL2) (fun v hv=>?_);subst hv;refine zC4 ?_;by_cases e:cn=0
 ·have hno:=hcn.1 e;subst e;have hnoA:∀P',(∀i r,g.rules[i]?=some r→RowP g r (P'.getD i []))→∀n t,n<g.nons→t≤g.terms→fewC g P' n t:=fun P' hP' n t h1 h2=>few_of hPr hP' (hno n t h1 h2);have ok:=llok_of hgv hPr hno;refine AW.cond Z (fun h=>(by cases h)) (fun _=>?_);refine zC4 ?_;have hpp:=predParse_spec F2 g hgv hr2 hw3 zo hw2 hnoA;unfold gramCells at hpp;refine WT.callF0 Tryd.func10 Z Z Z Z Z Z hpp (fun F4 v hF4 hv=>?_);have hL5:=hL2.mono hF4;have hr5:=hr2.mono hF4;have hw5:=hw3.mono hF4
  have huni:∀T T',TreeOf g w ⟨false,g.start⟩ T 0 w.length→TreeOf g w ⟨false,g.start⟩ T' 0 w.length→T=T':=fun T T' h h'=>ll_one ok h h';obtain⟨lr,lt,la3,ln3,lc3,at1,e1,rfl,hcase⟩:∃r t a n c at1 e1,v=.tuple ⟨[.agg ⟨[.int .i64 r,.int .i64 t,.slice a n c]⟩,.int .i64 at1,.int .i64 e1]⟩∧
    ((e1=0∧∃X,TreeOf g w ⟨false,g.start⟩ X 0 w.length∧tTree.rel F4 [.int .i64 r,.int .i64 t,.slice a n c] X)∨(e1=10∧¬∃X,TreeOf g w ⟨false,g.start⟩ X 0 w.length)):=by
   rcases hv with ⟨T,cs,rfl,hrel,hT0⟩ | ⟨j,rfl,hno⟩
   ·obtain⟨r,u,ks⟩:=T;obtain⟨za,zn,zc,rfl,_,_⟩:=tTree_cases hrel;exact⟨_,_,_,_,_,_,_,rfl,.inl ⟨rfl,_,hT0,hrel⟩⟩
   ·exact⟨_,_,_,_,_,_,_,rfl,.inr ⟨rfl,hno⟩⟩
  refine zC4 ?_;refine WT.allocT hT Z Z Z Z Z Z (fun i8 hi8=>?_);refine zC4 ?_;have hmc:=mcount_spec F4 hL5 g hgv hr5 hw5 zo hw2;unfold gramCells at hmc;refine WT.callF0 Tryd.func13 Z Z Z Z Z Z hmc (fun F5 v hF5 hv=>?_);obtain⟨c9,rfl,hcv⟩:=hv;obtain⟨hc1,hc0⟩:=count_only hcv huni;rcases hcase with ⟨rfl,X,hX,hrel⟩ | ⟨rfl,hno⟩
  ·obtain rfl:=hc1 ⟨X,hX⟩;refine zC4 ?_;refine AW.cond Z (fun h=>(by cases h)) (fun _=>?_);refine zC4 ?_;have hit:=isTree_spec g hgv F5 (hr5.mono hF5) w zo (tTree.mono _ _ _ _ hF5 hrel) hX (b:=wa) (n:=wn) (d:=wc) (by rw[List.take_length];exact hw5.mono hF5);unfold gramCells at hit;refine WT.callV Tryd.func14 Z Z Z Z Z Z hit (fun v hv=>?_);subst hv;refine zC4 ?_;exact AW.ret ⟨_,[],⟨_,_,rfl,rfl,rfl⟩,zsb,rfl,rfl⟩
  ·obtain rfl:=hc0 hno;refine zC4 ?_;refine AW.cond Z (fun _=>?_) (fun h=>(by cases h));refine zC4 ?_;exact AW.ret ⟨_,[],⟨_,_,rfl,rfl,rfl⟩,zsb,rfl,rfl⟩
 ·skip
  refine AW.cond Z (fun _=>?_) (fun h=>(by simp at h;omega));refine zC4 ?_;refine WT.callV Tryd.func8 Z Z Z Z Z Z (Abs.Spec.fact Z hL2) (fun v hv=>?_);subst hv;refine zC4 ?_;exact AW.ret ⟨_,[],⟨_,_,rfl,rfl,rfl⟩,zsb,rfl,rfl⟩
end Go.Proofs.D