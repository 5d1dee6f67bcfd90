/-
  Walks: what functions of the program do, over the abstract machine.
-/
import Derived.Test.YtpoochgjdeefdaaGreatDoorWk1
set_option linter.unusedVariables false
set_option maxRecDepth 20000
set_option maxHeartbeats 0
open Go Go.Abs Go.Proofs Go.Proofs.D
namespace Go.Proofs.D
def leafO(x:Node):Option Nat:=if x.key.sym.term=true then some 0 else none
def stepO(cost:List Nat)(Ns:List Node)(vs:List (Option Nat))(i:Nat):List (Option Nat):=match Ns[i]? with
 | some x=>if x.key.sym.term=true then vs else vs.set i (nodeO cost vs x)
 | none=>vs
def roundToO(cost:List Nat)(Ns:List Node)(vs:List (Option Nat)):Nat→List (Option Nat)
 | 0=>vs
 | i+1=>stepO cost Ns (roundToO cost Ns vs i) i
def startO(Ns:List Node):List (Option Nat):=Ns.map leafO
def valsO(cost:List Nat)(Ns:List Node):Nat→List (Option Nat)
 | 0=>startO Ns
 | k+1=>roundToO cost Ns (valsO cost Ns k) Ns.length
theorem stepO_len{cost:List Nat}{Ns:List Node}{vs:List (Option Nat)}{i:Nat}:(stepO cost Ns vs i).length=vs.length:=by
 unfold stepO
 split
 ·split<;>simp
 ·rfl
theorem roundToO_len{cost:List Nat}{Ns:List Node}{vs:List (Option Nat)}:∀(i:Nat),(roundToO cost Ns vs i).length=vs.length
 | 0=>rfl
 | i+1=>by show (stepO cost Ns _ i).length=_;rw[stepO_len,roundToO_len i]
theorem valsO_len{cost:List Nat}{Ns:List Node}:∀(k:Nat),(valsO cost Ns k).length=Ns.length
 | 0=>by simp[valsO,startO]
 | k+1=>by show (roundToO cost Ns _ _).length=_;rw[roundToO_len,valsO_len k]
structure RoundO(cost:List Nat)(Ns:List Node)(vs:List (Option Nat))(i:Nat)(cur:List (Option Nat))(ch:Bool):Prop where
 is:cur=roundToO cost Ns vs i
 same:ch=false→cur=vs
 diff:ch=true→∃j,j<i∧cur[j]?≠vs[j]?
theorem RoundO.stay{cost:List Nat}{Ns:List Node}{vs cur:List (Option Nat)}{i:Nat}{ch:Bool}(h:RoundO cost Ns vs i cur ch){x:Node}(hx:Ns[i]?=some x)(ht:x.key.sym.term=true):RoundO cost Ns vs (i+1) cur ch where
 is:=by show cur=stepO cost Ns _ i;unfold stepO;rw[hx];simp only;rw[if_pos ht];exact h.is
 same:=h.same
 diff:=fun e=>by obtain⟨j,h1,h2⟩:=h.diff e;exact⟨j,by omega,h2⟩
theorem RoundO.put{cost:List Nat}{Ns:List Node}{vs cur:List (Option Nat)}{i:Nat}{ch:Bool}(h:RoundO cost Ns vs i cur ch){x:Node}(hx:Ns[i]?=some x)(ht:x.key.sym.term=false){z:Option Nat}(hz:cur[i]?=some z):RoundO cost Ns vs (i+1) (cur.set i (nodeO cost cur x)) (ch||!decide (nodeO cost cur x=z)) where
 is:=by show _=stepO cost Ns _ i;unfold stepO;rw[hx];simp only;rw[if_neg (by simp[ht]),←h.is]
 same:=fun e=>by
  simp only[Bool.or_eq_false_iff,Bool.not_eq_false',decide_eq_true_eq] at e
  rw[←h.same e.1,e.2]
  refine List.ext_getElem? fun j=>?_
  by_cases hj:j=i
  ·subst hj;rw[List.getElem?_set_self (gS hz).1,hz]
  ·rw[List.getElem?_set_ne (Ne.symm hj)]
 diff:=fun e=>by
  have hlt:=(gS hz).1
  cases ch with
  | true=>
   obtain⟨j,h1,h2⟩:=h.diff rfl
   exact⟨j,by omega,by rw[List.getElem?_set_ne zo];exact h2⟩
  | false=>
   simp only[Bool.false_or,Bool.not_eq_true',decide_eq_false_iff_not] at e
   refine⟨i,by omega,?_⟩
   rw[List.getElem?_set_self hlt,←h.same rfl,hz]
   intro h3;exact e (Option.some.inj h3)
structure OutC(F:Frz)(cs:List Value)(vs:List (Option Nat)):Prop where
 len:cs.length=vs.length
 at_:∀(j:Nat) (u:Option Nat),vs[j]?=some u→∃a n c,cs[j]?=some (.slice a n c)∧Arr tNat F a n c (optL u)
theorem OutC.mono{F G:Frz}{cs:List Value}{vs:List (Option Nat)}(h:OutC F cs vs)(hF:Frz.le F G):OutC G cs vs:=
 ⟨h.len,fun j u hu=>by obtain⟨a,n,c,h1,h2⟩:=h.at_ j u hu;exact⟨a,n,c,h1,h2.mono hF⟩⟩
theorem OutC.set{F:Frz}{cs:List Value}{vs:List (Option Nat)}(h:OutC F cs vs){i:Nat}{u:Option Nat}{a:Option Addr}{n c:Nat}(hu:Arr tNat F a n c (optL u)):OutC F (cs.set i (.slice a n c)) (vs.set i u) where
 len:=by simp[h.len]
 at_:=fun j y hy=>by
  by_cases e:j=i
  ·subst e
   have hl:j<vs.length:=by have:=(gS hy).1;simpa using this
   rw[List.getElem?_set_self hl] at hy
   cases hy
   exact⟨a,n,c,by rw[List.getElem?_set_self (by rw[h.len];exact hl)],hu⟩
  ·rw[List.getElem?_set_ne (Ne.symm e)] at hy ⊢
   exact h.at_ j y hy
theorem OutC.arr{F:Frz}{cs:List Value}{vs:List (Option Nat)}(h:OutC F cs vs){i n c:Nat}(hi:F i=some (.cells false cs))(hn:vs.length=n)(hc:c=if n=0 then 0 else 1):Arr (tList tNat) F (some ⟨i,0,none⟩) n c (vs.map optL) where
 len:=by simp[hn]
 cap:=by rw[hc];split;exact .inl rfl;exact .inr rfl
 zero:=fun e=>by rw[hc] at e;split at e<;>omega
 nil:=fun e=>(by cases e)
 spot:=fun p e=>(by cases e;rfl)
 el:=fun j x hx=>by
  rw[List.getElem?_map] at hx
  cases hu:vs[j]? with
  | none=>rw[hu] at hx;cases hx
  | some u=>
   rw[hu] at hx
   obtain rfl:=Option.some.inj hx
   obtain⟨a,m,d,h1,h2⟩:=h.at_ j u hu
   refine⟨i,0,false,cs,[.slice a m d],rfl,hi,partL_of ?_ rfl,a,m,d,rfl,h2⟩
   obtain⟨h3,h4⟩:=gS h1
   show [_]=(cs.drop (0+j*1)).take 1
   rw[Nat.zero_add,Nat.mul_one,List.drop_eq_getElem_cons h3,h4];rfl
def ValueResO(cost:List Nat)(Ns:List Node)(root:Nat)(F:Frz)(v:Value):Prop:=
 (∃k y a n c,k<200∧valsO cost Ns (k+1)=valsO cost Ns k∧(valsO cost Ns k)[root]?=some y∧v=.tuple ⟨[.slice a n c,.int .i64 0]⟩∧Arr tNat F a n c (optL y))∨
 ((∀k,k<200→valsO cost Ns (k+1)≠valsO cost Ns k)∧v=.tuple ⟨[.slice none 0 0,.int .i64 9]⟩)
structure VaO where
 k:Nat
 vs:List (Option Nat)
 cs:List Value
 ch:Bool
theorem arr_back{F' F2:Frz}{iv:Nat}{cs:List Value}{vs:List (Option Nat)}{G:Frz}(hO:OutC G cs vs)(hF:∀i b,F' i=some b→F2 i=some b∨(i,b)∈[(iv,Blk.cells false cs)]){a:Option Addr}{n c:Nat}{l:List Nat}(h:Arr tNat F' a n c l):Arr tNat F2 a n c l:=
 ⟨h.len,h.cap,h.zero,h.nil,h.spot,fun j x hj=>by
  obtain⟨b,off,ro,ds,q,h1,h2,h3,h4⟩:=h.el j x hj
  have h4:q=[.int .i64 x]:=h4
  rcases hF b _ h2 with h5 | h5
  ·exact⟨b,off,ro,ds,q,h1,h5,h3,h4⟩
  ·exfalso
   simp only[List.mem_cons,List.not_mem_nil,or_false,Prod.mk.injEq,Blk.cells.injEq] at h5
   obtain⟨_,_,rfl⟩:=h5
   obtain⟨e1,e2⟩:=partL_eq h3
   have hm:Value.int .i64 (x:Int)∈ds:=by
    have:Value.int .i64 (x:Int)∈(ds.drop (off+j*tNat.size)).take tNat.size:=by rw[←e1,h4];exact List.mem_cons_self ..
    exact List.mem_of_mem_drop (List.mem_of_mem_take this)
   obtain⟨m,hm1,hm2⟩:=List.getElem_of_mem hm
   obtain⟨u,hu⟩:∃u,vs[m]?=some u:=⟨_,gE (by rw[←hO.len];exact hm1)⟩
   obtain⟨a',n',c',h6,_⟩:=hO.at_ m u hu
   rw[gE hm1,hm2] at h6
   cases h6⟩
theorem value3_spec(F:Frz)(hL:Laid F)(g:Gram)(hg:Valid g){ga:Option Addr}{gm gc:Nat}(hr:Arr tRule F ga gm gc g.rules){w:List Nat}(hw12:w.length≤12)(hw2:∀t∈w,t<g.terms)
  {fa:Option Addr} {fn fc:Nat} {fr:Int} (hf:FV g w F fa fn fc fr) {ik ic:Nat} {ca:Option Addr} {cn cc:Nat} {cost:List Nat} (hC:LeastC F ik ic ca cn cc cost) (hcm:∀y∈cost,y≤1000) (hcl:cost.length=g.rules.length) {oa:Option Addr} {on oc:Nat} (hone:Arr tNat F oa on oc [0])
  (hsm:∀E S,EndsOf g w E→Keys g w E (rootKey g w) S→∀k i y,some y∈roundToO cost (S.map (mkNode g w E S)) (valsO cost (S.map (mkNode g w E S)) k) i→y≤1000000) :
  Abs.Spec CC 87 [.agg ⟨gramCells g ga gm gc⟩,.agg ⟨[.slice fa fn fc,.int .i64 fr]⟩,.agg ⟨ringL ik oa on oc⟩,.func (.func 88) ⟨[]⟩ ⟨[.pointer (some ⟨ic,0,none⟩)]⟩] F [] fun F' v o=>o=[]∧∃E,EndsOf g w E∧
   ((stepB w E ⟨false,g.start⟩ 0 w.length=false∧v=.tuple ⟨[.slice none 0 0,.int .i64 0]⟩)∨
    (stepB w E ⟨false,g.start⟩ 0 w.length=true∧∃S,Keys g w E (rootKey g w) S∧ValueResO cost (S.map (mkNode g w E S)) (place S (rootKey g w)) F' v)):=by
 obtain⟨E,hE,hV⟩:=hf.cases
 have hcs:=fcount_spec F hL g hg hr hw12 hw2 hf
 unfold gramCells at hcs ⊢
 unfold ringL
 refine Abs.Spec.fn (n:=106) Tryz.func87 rfl rfl fun own=>?_
 refine AW.seq (AW.reg ?_)
 refine WT.boxT Z Z Z Z Z Z (fun i4 hi4=>?_)
 refine WT.boxT Z Z Z Z Z Z (fun i5 hi5=>?_)
 refine WT.boxT Z Z Z Z Z Z (fun i6 hi6=>?_)
 refine zB7 ?_
 refine WT.callV Tryz.func16 Z Z Z Z Z Z hcs (fun v hv=>?_)
 obtain⟨c,rfl,hc⟩:=hv
 refine zB7 ?_
 refine AW.cond Z (fun h=>(by cases h)) (fun _=>?_)
 rcases hV with ⟨hst,hv⟩ | ⟨hst,S,sa,sn,sc,hv,hK,hN⟩
 ·cases hv
  refine zB7 ?_
  refine AW.cond Z (fun _=>?_) (fun h=>(by cases h))
  refine zB7 ?_
  exact AW.ret ⟨_,[],⟨_,_,rfl,⟨_,_,rfl,rfl,rfl⟩,rfl⟩,zsb,rfl,E,hE,.inl ⟨hst,rfl⟩⟩
 ·cases hv
  have hok:=nodes_ok hg hw12 hK (root_good hg w)
  have hNl:=hN.len
  have hfew:=hok.few
  have hpk:∀x∈S.map (mkNode g w E S),∀p∈x.packs,p.rule<cost.length∧p.kids.length≤1000:=by
   intro x hx p hp
   obtain⟨k,hk,rfl⟩:=List.mem_map.1 hx
   obtain⟨kp,hkp,rfl⟩:=List.mem_map.1 hp
   obtain⟨q,h1,h2,h3,h4⟩:=mem_packsOf.1 hkp
   have h5:=splits_kids h4
   have h6:=(hg.right q (gM h1)).2.1
   exact⟨by rw[hcl];exact(gS h1).1,by show (kp.kids.map _).length≤1000;rw[List.length_map];omega⟩
  have hsm:=hsm E S hE hK
  generalize hNs:S.map (mkNode g w E S)=Ns at *
  refine zB7 ?_
  refine AW.cond Z (fun h=>(by simp at h;omega)) (fun _=>?_)
  refine zB7 ?_
  refine WT.makeT (l:=fn) hT Z Z Z Z Z Z Z Z Z Z Z Z zom (fun iv hiv=>?_)
  rw[cap_eq]
  refine zB7 ?_
  refine AW.range (S:=VaO) (fun _=>[]) (fun s=>[(iv,.cells false s.cs)]::[(i6,.cells false (ringL ik oa on oc))]::[(i5,.cells false [.slice fa fn fc,.int .i64 (place S (rootKey g w):Nat)])]::[(i4,.cells false [.int .i64 g.terms,.int .i64 g.nons,.int .i64 g.start,.slice ga gm gc])]::own)
   (fun j s G=>OutC G s.cs s.vs∧s.vs.length=fn∧∀i x,i<j→Ns[i]?=some x→s.vs[i]?=some (leafO x)) fn ⟨0,List.replicate fn none,List.replicate fn (.slice none 0 0),false⟩
   Z Z Z Z Z Z Z Z Z zo rfl rfl (fun _=>rfl) (fun _=>rfl) sM oR ⟨⟨by simp,fun j u hu=>?_⟩,by simp,fun i x h=>by omega⟩ ?_ ?_
  ·have h1:=List.eq_of_mem_replicate (gM hu)
   have h2:j<fn:=by have:=(gS hu).1;simpa using this
   subst h1
   exact⟨none,0,0,by rw[List.getElem?_replicate,if_pos h2],Arr.nil_ _ _⟩
  ·intro j s F1 hF1 hj hP
   obtain⟨sk,vs,cs,sch⟩:=s
   have hP:OutC F1 cs vs∧vs.length=fn∧∀i x,i<j→Ns[i]?=some x→vs[i]?=some (leafO x):=hP
   obtain⟨hO,hvl,hvs⟩:=hP
   have hol:=hO.len
   have hN1:=hN.mono hF1
   have hone1:=hone.mono hF1
   unfold ringL
   refine zB7 ?_
   refine WT.idxL hT hN1 Z Z Z Z Z Z Z Z Z zo (fun x hxj b5 off5 ro5 cs5 lx5 hb5 hp5 hrel5=>?_)
   obtain⟨pa,pn,pc,rfl,hpa⟩:=hrel5
   refine zB7 ?_
   refine WT.allocT hT Z Z Z Z Z Z (fun i15 hi15=>?_)
   refine zB7 ?_
   refine WT.idxA (j:=j) (s:=1) hT Z Z Z Z Z Z Z Z Z zo ?_
   refine WT.storeAt hT 1 0 Z Z Z Z Z Z Z Z Z Z (by show 0+j*1<cs.length;omega) Z Z ?_
   rw[show 0+j*1=j by omega]
   refine zB7 ?_
   refine AW.cond Z (fun ht=>?_) (fun ht=>?_)
   ·refine zB7 ?_
    refine WT.idxA (j:=j) (s:=1) hT Z Z Z Z Z Z Z Z Z zo ?_
    refine WT.storeAt hT 1 0 Z Z Z Z Z Z Z Z Z Z (by simp;omega) Z Z ?_
    rw[show 0+j*1=j by omega]
    refine zB7 ?_
    refine⟨⟨0,(vs.set j none).set j (some 0),(cs.set j (.slice none 0 0)).set j (.slice oa on oc),false⟩,sM,zow,(hO.set (Arr.nil_ _ _)).set hone1,by simp[hvl],fun i y h hy=>?_⟩
    by_cases e:i=j
    ·subst e
     obtain rfl:x=y:=by rw[hxj] at hy;exact Option.some.inj hy
     show ((vs.set i none).set i (some 0))[i]?=_
     rw[List.getElem?_set_self (by simp;omega)]
     unfold leafO
     rw[if_pos ht]
    ·show ((vs.set j none).set j (some 0))[i]?=_
     rw[List.getElem?_set_ne (Ne.symm e),List.getElem?_set_ne (Ne.symm e)]
     exact hvs i y zo hy
   ·refine zB7 ?_
    refine⟨⟨0,vs.set j none,cs.set j (.slice none 0 0),false⟩,sM,zow,hO.set (Arr.nil_ _ _),by simp[hvl],fun i y h hy=>?_⟩
    by_cases e:i=j
    ·subst e
     obtain rfl:x=y:=by rw[hxj] at hy;exact Option.some.inj hy
     show (vs.set i none)[i]?=_
     rw[List.getElem?_set_self zo]
     unfold leafO
     rw[if_neg (by simpa using ht)]
    ·show (vs.set j none)[i]?=_
     rw[List.getElem?_set_ne (Ne.symm e)]
     exact hvs i y zo hy
  ·intro s F1 hF1 hP
   obtain⟨sk,vs,cs,sch⟩:=s
   have hP:OutC F1 cs vs∧vs.length=fn∧∀i x,i<fn→Ns[i]?=some x→vs[i]?=some (leafO x):=hP
   obtain⟨hO,hvl,hvs⟩:=hP
   have hN1:=hN.mono hF1
   obtain rfl:vs=startO Ns:=by
    refine List.ext_getElem? fun i=>?_
    rcases Nat.lt_or_ge i fn with h | h
    ·obtain⟨x,hx⟩:∃x,Ns[i]?=some x:=⟨_,gE zo⟩
     rw[hvs i x h hx]
     unfold startO
     rw[List.getElem?_map,hx];rfl
    ·rw[List.getElem?_eq_none_iff.2 zo,List.getElem?_eq_none_iff.2 (by unfold startO;simp;omega)]
   refine zB7 ?_
   refine AW.block ?_
   refine AW.loopR (S:=VaO) (fun s=>[(61,ci s.k)]) (fun s=>[(iv,.cells false s.cs)]::[(i6,.cells false (ringL ik oa on oc))]::[(i5,.cells false [.slice fa fn fc,.int .i64 (place S (rootKey g w):Nat)])]::[(i4,.cells false [.int .i64 g.terms,.int .i64 g.nons,.int .i64 g.start,.slice ga gm gc])]::own)
    (fun s G=>OutC G s.cs s.vs∧s.vs=valsO cost Ns s.k∧s.k≤200∧∀k,k<s.k→valsO cost Ns (k+1)≠valsO cost Ns k) (fun s=>200-s.k) ⟨0,startO Ns,cs,false⟩ sM oR ⟨hO,rfl,by show 0≤200;omega,fun k h=>absurd h (Nat.not_lt_zero k)⟩ ?_
   intro s F2 hF2 hP2
   obtain⟨sk,vs,cs,sch⟩:=s
   have hP2:OutC F2 cs vs∧vs=valsO cost Ns sk∧sk≤200∧∀k,k<sk→valsO cost Ns (k+1)≠valsO cost Ns k:=hP2
   obtain⟨hO2,hsv,hsk,hsd⟩:=hP2
   have hsl:vs.length=fn:=by rw[hsv,valsO_len];omega
   have hN2:=hN1.mono hF2
   have hF02:=hF1.trans hF2
   unfold ringL
   refine zB7 ?_
   refine AW.cond Z (fun hk=>?_) (fun hk=>?_)
   ·have hk:sk<200:=by simp at hk;omega
    refine zB7 ?_
    refine AW.block ?_
    refine zB7 ?_
    refine AW.range (S:=VaO) (fun t=>[(16,.bool t.ch)]) (fun t=>[(iv,.cells false t.cs)]::[(i6,.cells false (ringL ik oa on oc))]::[(i5,.cells false [.slice fa fn fc,.int .i64 (place S (rootKey g w):Nat)])]::[(i4,.cells false [.int .i64 g.terms,.int .i64 g.nons,.int .i64 g.start,.slice ga gm gc])]::own)
     (fun j t G=>OutC G t.cs t.vs∧RoundO cost Ns vs j t.vs t.ch) fn ⟨0,vs,cs,false⟩
     Z Z Z Z Z Z Z Z Z zo rfl rfl (fun _=>rfl) (fun _=>rfl) sM oR ⟨hO2,rfl,fun _=>rfl,fun h=>(by cases h)⟩ ?_ ?_
    ·intro j t F3 hF3 hj hP3
     obtain⟨tk,us,ds,ch⟩:=t
     have hP3:OutC F3 ds us∧RoundO cost Ns vs j us ch:=hP3
     obtain⟨hO3,hRS⟩:=hP3
     have hul:us.length=fn:=by rw[hRS.is,roundToO_len,hsl]
     have hdl:=hO3.len
     have hN3:=hN2.mono hF3
     have hF03:=hF02.trans hF3
     have husm:∀y,some y∈us→y≤1000000:=fun y hy=>hsm sk j y (by rw[←hsv,←hRS.is];exact hy)
     unfold ringL
     refine zB7 ?_
     refine WT.idxL hT hN3 Z Z Z Z Z Z Z Z Z zo (fun x hxj b5 off5 ro5 cs5 lx5 hb5 hp5 hrel5=>?_)
     obtain⟨pa,pn,pc,rfl,hpa⟩:=hrel5
     have hpal:=hpa.len
     have hpk':=hok.packs x (gM hxj)
     obtain⟨z,hz⟩:∃z,us[j]?=some z:=⟨_,gE zo⟩
     refine zB7 ?_
     refine WT.allocT hT Z Z Z Z Z Z (fun i18 hi18=>?_)
     refine zB7 ?_
     refine AW.cond Z (fun ht=>?_) (fun ht=>?_)
     ·refine AW.exit ?_
      skip
      exact⟨⟨tk,us,ds,ch⟩,sM,zow,hO3,hRS.stay hxj ht⟩
     ·have ht:x.key.sym.term=false:=by simpa using ht
      refine zB7 ?_
      have nspec:=Spec.lendBF (B:=[(iv,Blk.cells false ds)]) fun G hG hBG=>
       node3_spec G (hC.mono (hF03.trans hG)) hcm (oa:=oa) (on:=on) (oc:=oc) (hpa.mono hG) zo ((hO3.mono hG).arr (hBG iv _ me) hul rfl) husm (fun p hp=>⟨(hpk x (gM hxj) p hp).1,(hpk x (gM hxj) p hp).2,fun k hk=>by rw[hul,hNl];exact hok.kid k j ⟨x,p,hxj,hp,hk⟩⟩)
      unfold nodeCells ringL at nspec
      refine WT.call1F 1 Tryz.func115 Z Z Z Z Z Z Z (fun _=>rfl) nspec (fun F4 v B4 hF4 hv=>?_)
      obtain⟨rfl,F',⟨ra,rn,rc,rfl,hr⟩,hback⟩:=hv
      have hres:=arr_back (hO3) hback hr
      have hO4:=hO3.mono hF4
      cases ch with
      | true=>
       refine zB7 ?_
       refine WT.idxA (j:=j) (s:=1) hT Z Z Z Z Z Z Z Z Z zo ?_
       refine WT.storeAt hT 1 0 Z Z Z Z Z Z Z Z Z Z (by show 0+j*1<ds.length;omega) Z Z ?_
       rw[show 0+j*1=j by omega]
       refine zB7 ?_
       exact⟨⟨tk,us.set j (nodeO cost us x),ds.set j (.slice ra rn rc),true⟩,sM,zow,hO4.set hres,hRS.put hxj ht hz⟩
      | false=>
       obtain⟨za,zn,zc,hzc,hza⟩:=hO4.at_ j z hz
       refine zB7 ?_
       refine WT.idxA (j:=j) (s:=1) hT Z Z Z Z Z Z Z Z Z zo ?_
       refine WT.loadAt hT 1 Z Z Z Z Z Z me Z Z (by rw[show 0+j*1=j by omega];exact hzc) ?_
       skip
       refine WT.callC Tryz.func82 Z Z Z Z Z Z Z Z (lsame_spec _ hres hza) (fun v hv=>?_)
       subst hv
       refine zB7 ?_
       refine WT.idxA (j:=j) (s:=1) hT Z Z Z Z Z Z Z Z Z zo ?_
       refine WT.storeAt hT 1 0 Z Z Z Z Z Z Z Z Z Z (by show 0+j*1<ds.length;omega) Z Z ?_
       rw[show 0+j*1=j by omega]
       refine zB7 ?_
       exact⟨⟨tk,us.set j (nodeO cost us x),ds.set j (.slice ra rn rc),!decide (nodeO cost us x=z)⟩,sM,zow,hO4.set hres,by have:=hRS.put hxj ht hz;rwa [Bool.false_or] at this⟩
    ·intro t F3 hF3 hP3
     obtain⟨tk,us,ds,ch⟩:=t
     have hP3:OutC F3 ds us∧RoundO cost Ns vs fn us ch:=hP3
     obtain⟨hO3,hRS⟩:=hP3
     have hul:us.length=fn:=by rw[hRS.is,roundToO_len,hsl]
     have hnext:us=valsO cost Ns (sk+1):=by rw[hRS.is,hsv,hNl];rfl
     unfold ringL
     cases ch with
     | false=>
      have hsame:=hRS.same rfl
      refine zB7 ?_
      refine AW.cond Z (fun _=>?_) (fun h=>(by cases h))
      have hpl:place S (rootKey g w)<fn:=by
       have:=(gS (place_at hK.first)).1
       have e:Ns.length=S.length:=by rw[←hNs,List.length_map]
       omega
      obtain⟨y,hy⟩:∃y,us[place S (rootKey g w)]?=some y:=⟨_,gE zo⟩
      obtain⟨ya,yn,yc,hyc,hya⟩:=hO3.at_ _ y hy
      refine zB7 ?_
      refine WT.idxA (j:=place S (rootKey g w)) (s:=1) hT Z Z Z Z Z Z Z Z Z zo ?_
      refine WT.loadAt hT 0 Z Z Z Z Z Z me Z Z (by rw[Nat.zero_add,Nat.mul_one];exact hyc) ?_
      refine zB7 ?_
      refine AW.ret ⟨_,[],⟨_,_,rfl,⟨_,_,rfl,rfl,rfl⟩,rfl⟩,zsb,rfl,E,hE,.inr ⟨hst,S,hK,?_⟩⟩
      rw[hNs]
      exact .inl ⟨sk,y,_,_,_,hk,by rw[←hnext,←hsv];exact hsame,by rw[←hsv,←hsame];exact hy,rfl,hya⟩
     | true=>
      obtain⟨q,hq,hqd⟩:=hRS.diff rfl
      refine zB7 ?_
      refine AW.cond Z (fun h=>(by cases h)) (fun _=>?_)
      refine zB7 ?_
      refine⟨⟨sk+1,us,ds,false⟩,(by show 200-(sk+1)<200-sk;omega),sM,zow,hO3,hnext,hk,fun k h=>?_⟩
      rcases Nat.lt_or_ge k sk with h1 | h1
      ·exact hsd k h1
      ·obtain rfl:k=sk:=by have:k<sk+1:=h;omega
       rw[←hnext,←hsv]
       intro e;rw[e] at hqd;exact hqd rfl
   ·have hk:sk=200:=by simp at hk;omega
    skip
    refine AW.exit ?_
    refine zB7 ?_
    refine AW.ret ⟨_,[],⟨_,_,rfl,⟨_,_,rfl,rfl,rfl⟩,rfl⟩,zsb,rfl,E,hE,.inr ⟨hst,S,hK,?_⟩⟩
    rw[hNs]
    exact .inr ⟨fun k h=>hsd k zo,rfl⟩
theorem lbad_spec(F:Frz)(c:Nat)(hc:c≤1000):Abs.Spec CC 81 [ci c] F [] fun _ v o=>o=[]∧v=.bool ((fun c=>decide (1000<c)) c):=by
 refine Abs.Spec.fn (n:=9) Tryz.func81 rfl rfl fun own=>?_
 have h0:decide ((c:Int)<0)=false:=decide_eq_false zo
 refine zB4 ?_
 refine AW.ret ⟨_,[],⟨_,_,rfl,rfl,rfl⟩,zsb,rfl,?_⟩
 show Value.bool (decide ((c:Int) > 1000))=Value.bool (decide (1000<c))
 rw[decide_eq_false zo,decide_eq_false zo]
def BestRes(g:Gram)(w:List Nat)(cost:List Nat)(F:Frz)(v:Value):Prop:=∃E,EndsOf g w E∧
 ((stepB w E ⟨false,g.start⟩ 0 w.length=false∧∃a n c,v=.tuple ⟨[.slice a n c,.int .i64 0]⟩∧Arr tNat F a n c [])∨
  (stepB w E ⟨false,g.start⟩ 0 w.length=true∧∃S,Keys g w E (rootKey g w) S∧ValueResO cost (S.map (mkNode g w E S)) (place S (rootKey g w)) F v))
theorem best_spec(F:Frz)(hL:Laid F)(g:Gram)(hg:Valid g){ga:Option Addr}{gm gc:Nat}(hr:Arr tRule F ga gm gc g.rules){w:List Nat}(hw12:w.length≤12)(hw2:∀t∈w,t<g.terms)
  {fa:Option Addr} {fn fc:Nat} {fr:Int} (hf:FV g w F fa fn fc fr) {ca:Option Addr} {cn cc:Nat} {cost:List Nat} (hc:Arr tNat F ca cn cc cost) (hcm:∀y∈cost,y≤1000) (hcl:cost.length=g.rules.length)
  (hsm:∀E S,EndsOf g w E→Keys g w E (rootKey g w) S→∀k i y,some y∈roundToO cost (S.map (mkNode g w E S)) (valsO cost (S.map (mkNode g w E S)) k) i→y≤1000000) :
  Abs.Spec CC 60 [.agg ⟨gramCells g ga gm gc⟩,.agg ⟨[.slice fa fn fc,.int .i64 fr]⟩,.slice ca cn cc,.int .i64 1] F [] fun F' v o=>o=[]∧BestRes g w cost F' v:=by
 have hcs:=fcount_spec F hL g hg hr hw12 hw2 hf
 have hcln:=hc.len
 have hrl:=hr.len
 have hgr:=hg.range.rules
 unfold gramCells at hcs ⊢
 refine Abs.Spec.fn (n:=63) Tryz.func60 rfl rfl fun own=>?_
 refine AW.seq (AW.reg ?_)
 refine WT.boxT Z Z Z Z Z Z (fun i4 hi4=>?_)
 refine WT.boxT Z Z Z Z Z Z (fun i5 hi5=>?_)
 refine WT.boxT Z Z Z Z Z Z (fun i6 hi6=>?_)
 refine WT.boxT Z Z Z Z Z Z (fun i7 hi7=>?_)
 refine zB7 ?_
 refine WT.callV Tryz.func16 Z Z Z Z Z Z hcs (fun v hv=>?_)
 obtain⟨c,rfl,_⟩:=hv
 refine zB7 ?_
 refine AW.cond Z (fun h=>(by cases h)) (fun _=>?_)
 refine zB7 ?_
 refine WT.callV Tryz.func80 Z Z Z Z Z Z (numAny_spec _ hc zo (fun c=>decide (1000<c)) (first:=[]) (capt:=[]) Tryz.func81 Z (fun x hx=>lbad_spec _ x (hcm x hx))) (fun v hv=>?_)
 rw[show cost.any (fun c=>decide (1000<c))=false by simp only[List.any_eq_false,decide_eq_true_eq];exact fun x hx=>by have:=hcm x hx;omega] at hv
 subst hv
 obtain rfl:cn=gm:=by omega
 refine zB7 ?_
 refine WT.know (v':=.bool false) 33 Z (by congr 1;simp) ?_
 refine zB7 ?_
 refine AW.cond Z (fun h=>(by cases h)) (fun _=>?_)
 refine zB7 ?_
 refine WT.buildT hT Z Z Z Z Z Z Z Z Z Z Z Z Z Z (fun i44 hi44=>?_)
 refine WT.freezeAll 0 Z Z (fun F1 hF1 hB1=>?_)
 have h44:Arr tNat F1 (some ⟨i44,0,none⟩) 1 1 [0]:=arr_ci (hB1 i44 _ me) rfl rfl
 refine zB7 ?_
 refine WT.allocT hT Z Z Z Z Z Z (fun i13 hi13=>?_)
 refine zB7 ?_
 refine WT.freezeAll 2 Z Z (fun F2 hF2 hB2=>?_)
 refine WT.freezeAll 3 Z Z (fun F3 hF3 hB3=>?_)
 have hF13:=(hF1.trans hF2).trans hF3
 have hC:LeastC F3 i7 i6 ca cn cc cost:=⟨hF3 _ _ (hB2 i7 _ me),hB3 i6 _ me,hc.mono hF13⟩
 have hvs:=value3_spec F3 (hL.mono hF13) g hg (hr.mono hF13) hw12 hw2 (hf.mono hF13) hC hcm hcl ((h44.mono hF2).mono hF3) hsm
 unfold gramCells ringL at hvs
 refine WT.callF0 Tryz.func87 Z Z Z Z Z Z hvs (fun F4 v hF4 hv=>?_)
 obtain⟨E,hE,hv⟩:=hv
 rcases hv with ⟨hst,rfl⟩ | ⟨hst,S,hK,⟨k,y,ya,yn,yc,h1,h2,h3,rfl,hy⟩ | ⟨h1,rfl⟩⟩
 ·refine zB7 ?_
  refine AW.cond Z (fun h=>(by cases h)) (fun _=>?_)
  refine zB7 ?_
  refine WT.callN Tryz.func89 Z Z Z Z Z Z (numClone_spec F4 (Arr.nil_ _ _) (by decide)) (fun F5 v B5 hF5 hv=>?_)
  obtain⟨da,dc,rfl,hd⟩:=hv
  refine WT.freezeAll 0 Z Z (fun F6 hF6 hB6=>?_)
  have harr:=hd.arr hF6 hB6
  refine zB7 ?_
  exact AW.ret ⟨_,[],⟨_,_,rfl,⟨_,_,rfl,rfl,rfl⟩,rfl⟩,zsb,rfl,E,hE,.inl ⟨hst,_,_,_,rfl,harr⟩⟩
 ·refine zB7 ?_
  refine AW.cond Z (fun h=>(by cases h)) (fun _=>?_)
  refine zB7 ?_
  have hyl:=hy.len
  have hy1:=optL_len y
  refine WT.callN Tryz.func89 Z Z Z Z Z Z (numClone_spec F4 hy zo) (fun F5 v B5 hF5 hv=>?_)
  obtain⟨da,dc,rfl,hd⟩:=hv
  refine WT.freezeAll 0 Z Z (fun F6 hF6 hB6=>?_)
  have harr:=hd.arr hF6 hB6
  refine zB7 ?_
  exact AW.ret ⟨_,[],⟨_,_,rfl,⟨_,_,rfl,rfl,rfl⟩,rfl⟩,zsb,rfl,E,hE,.inr ⟨hst,S,hK,.inl ⟨k,y,_,_,_,h1,h2,h3,rfl,harr⟩⟩⟩
 ·refine zB7 ?_
  refine AW.cond Z (fun _=>?_) (fun h=>(by cases h))
  refine zB7 ?_
  refine AW.ret ⟨_,[],⟨_,_,rfl,⟨_,_,rfl,rfl,rfl⟩,rfl⟩,zsb,rfl,E,hE,.inr ⟨hst,S,hK,.inr ⟨h1,rfl⟩⟩⟩
def LeastRes(g:Gram)(w:List Nat)(cost:List Nat)(v:Value):Prop:=∃E,EndsOf g w E∧
 ((stepB w E ⟨false,g.start⟩ 0 w.length=false∧v=.tuple ⟨[ci 0,.int .i64 5]⟩)∨
  (stepB w E ⟨false,g.start⟩ 0 w.length=true∧∃S,Keys g w E (rootKey g w) S∧
    ((∃k y,k<200∧valsO cost (S.map (mkNode g w E S)) (k+1)=valsO cost (S.map (mkNode g w E S)) k∧(valsO cost (S.map (mkNode g w E S)) k)[place S (rootKey g w)]?=some y∧v=(match y with | some z=>.tuple ⟨[ci z,.int .i64 0]⟩ | none=>.tuple ⟨[ci 0,.int .i64 5]⟩))∨
     ((∀k,k<200→valsO cost (S.map (mkNode g w E S)) (k+1)≠valsO cost (S.map (mkNode g w E S)) k)∧v=.tuple ⟨[ci 0,.int .i64 9]⟩))))
theorem least_spec(F:Frz)(hL:Laid F)(g:Gram)(hg:Valid g){ga:Option Addr}{gm gc:Nat}(hr:Arr tRule F ga gm gc g.rules){w:List Nat}(hw12:w.length≤12)(hw2:∀t∈w,t<g.terms)
  {fa:Option Addr} {fn fc:Nat} {fr:Int} (hf:FV g w F fa fn fc fr) {ca:Option Addr} {cn cc:Nat} {cost:List Nat} (hc:Arr tNat F ca cn cc cost) (hcm:∀y∈cost,y≤1000) (hcl:cost.length=g.rules.length)
  (hsm:∀E S,EndsOf g w E→Keys g w E (rootKey g w) S→∀k i y,some y∈roundToO cost (S.map (mkNode g w E S)) (valsO cost (S.map (mkNode g w E S)) k) i→y≤1000000) :
  Abs.Spec CC 33 [.agg ⟨gramCells g ga gm gc⟩,.agg ⟨[.slice fa fn fc,.int .i64 fr]⟩,.slice ca cn cc] F [] fun _ v o=>o=[]∧LeastRes g w cost v:=by
 have hbs:=best_spec F hL g hg hr hw12 hw2 hf hc hcm hcl hsm
 unfold gramCells at hbs ⊢
 refine Abs.Spec.fn (n:=26) Tryz.func33 rfl rfl fun own=>?_
 refine AW.seq (AW.reg ?_)
 refine WT.boxT Z Z Z Z Z Z (fun i3 hi3=>?_)
 refine WT.boxT Z Z Z Z Z Z (fun i4 hi4=>?_)
 refine zB7 ?_
 refine WT.callF0 Tryz.func60 Z Z Z Z Z Z hbs (fun F4 v hF4 hv=>?_)
 obtain⟨E,hE,hv⟩:=hv
 rcases hv with ⟨hst,a,n,c,rfl,hn⟩ | ⟨hst,S,hK,⟨k,y,ya,yn,yc,h1,h2,h3,rfl,hy⟩ | ⟨h1,rfl⟩⟩
 ·obtain rfl:n=0:=hn.len
  refine zB7 ?_
  refine AW.cond Z (fun h=>(by cases h)) (fun _=>?_)
  refine zB7 ?_
  refine AW.cond Z (fun _=>?_) (fun h=>(by cases h))
  refine zB7 ?_
  exact AW.ret ⟨_,[],⟨_,_,rfl,⟨_,_,rfl,rfl,rfl⟩,rfl⟩,zsb,rfl,E,hE,.inl ⟨hst,rfl⟩⟩
 ·have hyl:=hy.len
  cases y with
  | none=>
   obtain rfl:yn=0:=hyl
   refine zB7 ?_
   refine AW.cond Z (fun h=>(by cases h)) (fun _=>?_)
   refine zB7 ?_
   refine AW.cond Z (fun _=>?_) (fun h=>(by cases h))
   refine zB7 ?_
   exact AW.ret ⟨_,[],⟨_,_,rfl,⟨_,_,rfl,rfl,rfl⟩,rfl⟩,zsb,rfl,E,hE,.inr ⟨hst,S,hK,.inl ⟨k,none,h1,h2,h3,rfl⟩⟩⟩
  | some z=>
   obtain rfl:yn=1:=hyl
   refine zB7 ?_
   refine AW.cond Z (fun h=>(by cases h)) (fun _=>?_)
   refine zB7 ?_
   refine AW.cond Z (fun h=>(by cases h)) (fun _=>?_)
   refine zB7 ?_
   refine WT.idxL (j:=0) hT hy Z Z Z Z Z Z Z Z Z (by show 0<1;decide) (fun q hq b3 off3 ro3 cs3 lx3 hb3 hp3 hrel3=>?_)
   obtain rfl:lx3=_:=hrel3
   obtain rfl:z=q:=Option.some.inj hq
   refine zB7 ?_
   exact AW.ret ⟨_,[],⟨_,_,rfl,⟨_,_,rfl,rfl,rfl⟩,rfl⟩,zsb,rfl,E,hE,.inr ⟨hst,S,hK,.inl ⟨k,some z,h1,h2,h3,rfl⟩⟩⟩
 ·refine zB7 ?_
  refine AW.cond Z (fun _=>?_) (fun h=>(by cases h))
  refine zB7 ?_
  exact AW.ret ⟨_,[],⟨_,_,rfl,⟨_,_,rfl,rfl,rfl⟩,rfl⟩,zsb,rfl,E,hE,.inr ⟨hst,S,hK,.inr ⟨h1,rfl⟩⟩⟩
def dblG:Gram:=⟨1,1,0,[⟨0,[⟨false,0⟩,⟨false,0⟩]⟩,⟨0,[⟨true,0⟩]⟩]⟩
def dblW:List Nat:=[0,0]
def dblE:List (List Nat):=[[6,4,0]]
def dblS:List Key:=[⟨⟨true,0⟩,0,1⟩,⟨⟨false,0⟩,0,1⟩,⟨⟨false,0⟩,0,2⟩,⟨⟨true,0⟩,1,2⟩,⟨⟨false,0⟩,1,2⟩]
theorem dbl_small:Small dblG where
 terms:=by decide
 nons:=by decide
 start:=by decide
 rules:=by decide
 nodup:=by decide
 ok:=by
  intro r hr
  simp only[dblG,List.mem_cons,List.not_mem_nil,or_false] at hr
  rcases hr with rfl | rfl
  ·refine⟨by decide,by decide,fun y hy=>?_⟩
   simp only[List.mem_cons,List.not_mem_nil,or_false] at hy
   rcases hy with rfl | rfl<;>simp[SymOk,dblG]
  ·refine⟨by decide,by decide,fun y hy=>?_⟩
   simp only[List.mem_cons,List.not_mem_nil,or_false] at hy
   subst hy;simp[SymOk,dblG]
theorem dbl_one{i:Nat}(h:i<2):Der dblG dblW ⟨false,0⟩ i (i+1):=
 .non (r:=⟨0,[⟨true,0⟩]⟩) (by simp[dblG]) (.cons (.term (by match i,h with | 0,_=>rfl | 1,_=>rfl)) .nil)
theorem dbl_two:Der dblG dblW ⟨false,0⟩ 0 2:=
 .non (r:=⟨0,[⟨false,0⟩,⟨false,0⟩]⟩) (by simp[dblG]) (.cons (dbl_one (by decide)) (.cons (dbl_one (i:=1) (by decide)) .nil))
theorem dbl_der{s:Sym}{i j:Nat}(h:Der dblG dblW s i j):i<j∧j≤2∧(s.term=false→s.n=0):=by
 refine Der.rec (motive_1:=fun s i j _=>i<j∧j≤2∧(s.term=false→s.n=0)) (motive_2:=fun l i j _=>(l=[]→i=j)∧(l≠[]→i<j∧j≤2)∧i≤j) ?_ ?_ ?_ ?_ h
 ·intro t i h
  have:=(gS h).1
  have:dblW.length=2:=rfl
  exact⟨by omega,by omega,fun h=>(by cases h)⟩
 ·intro r i j hr _ ih
  simp only[dblG,List.mem_cons,List.not_mem_nil,or_false] at hr
  rcases hr with rfl | rfl
  ·have:=ih.2.1 (by simp);exact⟨this.1,this.2,fun _=>rfl⟩
  ·have:=ih.2.1 (by simp);exact⟨this.1,this.2,fun _=>rfl⟩
 ·intro i;exact⟨fun _=>rfl,fun h=>absurd rfl h,Nat.le_refl _⟩
 ·intro s l i m j _ _ ih1 ih2
  refine⟨fun h=>(by cases h),fun _=>?_,by have:=ih2.2.2;omega⟩
  by_cases hl:l=[]
  ·have:=ih2.1 hl;omega
  ·have:=ih2.2.1 hl;omega
theorem dbl_ends:EndsOf dblG dblW dblE where
 ok:=⟨rfl,by decide,by decide⟩
 iff:=by
  intro n i j hi
  have hi:i≤2:=hi
  constructor
  ·rintro⟨row,x,h1,h2,h3⟩
   have hn:n=0:=by have:=(gS h1).1;have:dblE.length=1:=rfl;omega
   subst hn
   obtain rfl:row=[6,4,0]:=(Option.some.inj h1).symm
   have hj:j<3:=by
    refine testBit_lt (x:=x) ?_ h3
    have:x∈([6,4,0]:List Nat):=gM h2
    simp only[List.mem_cons,List.not_mem_nil,or_false] at this
    rcases this with rfl | rfl | rfl<;>decide
   match i,hi,j,hj with
   | 0,_,0,_=>cases h2;exact absurd h3 (by decide)
   | 0,_,1,_=>exact dbl_one (by decide)
   | 0,_,2,_=>exact dbl_two
   | 1,_,0,_=>cases h2;exact absurd h3 (by decide)
   | 1,_,1,_=>cases h2;exact absurd h3 (by decide)
   | 1,_,2,_=>exact dbl_one (by decide)
   | 2,_,0,_=>cases h2;exact absurd h3 (by decide)
   | 2,_,1,_=>cases h2;exact absurd h3 (by decide)
   | 2,_,2,_=>cases h2;exact absurd h3 (by decide)
  ·intro h
   obtain⟨h1,h2,h3⟩:=dbl_der h
   obtain rfl:n=0:=h3 rfl
   have:(i=0∧j=1)∨(i=0∧j=2)∨(i=1∧j=2):=by omega
   rcases this with ⟨rfl,rfl⟩ | ⟨rfl,rfl⟩ | ⟨rfl,rfl⟩
   ·exact⟨_,_,rfl,rfl,by decide⟩
   ·exact⟨_,_,rfl,rfl,by decide⟩
   ·exact⟨_,_,rfl,rfl,by decide⟩
theorem dbl_sorted:dblS.Pairwise (fun x y=>ltKey x y=true):=by decide
theorem dbl_keys:Keys dblG dblW dblE (rootKey dblG dblW) dblS where
 sorted:=dbl_sorted
 first:=by decide
 closed:=by
  have h:∀k∈dblS,∀p∈packsOf dblG dblW dblE k,∀q∈p.kids,q∈dblS:=by decide
  exact h
 reach:=by
  have r2:Reachable dblG dblW dblE (rootKey dblG dblW) ⟨⟨false,0⟩,0,2⟩:=.root
  have p2:(⟨0,[⟨⟨false,0⟩,0,1⟩,⟨⟨false,0⟩,1,2⟩]⟩:KPack)∈packsOf dblG dblW dblE ⟨⟨false,0⟩,0,2⟩:=by decide
  have r01:=r2.kid p2 (q:=⟨⟨false,0⟩,0,1⟩) (by decide)
  have r12:=r2.kid p2 (q:=⟨⟨false,0⟩,1,2⟩) (by decide)
  have p01:(⟨1,[⟨⟨true,0⟩,0,1⟩]⟩:KPack)∈packsOf dblG dblW dblE ⟨⟨false,0⟩,0,1⟩:=by decide
  have p12:(⟨1,[⟨⟨true,0⟩,1,2⟩]⟩:KPack)∈packsOf dblG dblW dblE ⟨⟨false,0⟩,1,2⟩:=by decide
  have t01:=r01.kid p01 (q:=⟨⟨true,0⟩,0,1⟩) (by decide)
  have t12:=r12.kid p12 (q:=⟨⟨true,0⟩,1,2⟩) (by decide)
  intro k hk
  simp only[dblS,List.mem_cons,List.not_mem_nil,or_false] at hk
  rcases hk with rfl | rfl | rfl | rfl | rfl<;>assumption
def dblN:List Node:=dblS.map (mkNode dblG dblW dblE dblS)
theorem dbl_only{E:List (List Nat)}(hE:EndsOf dblG dblW E){S:List Key}(hK:Keys dblG dblW E (rootKey dblG dblW) S):E=dblE∧S=dblS:=by
 obtain rfl:=ends_uniqT hE dbl_ends
 exact⟨rfl,keys_uniq hK dbl_keys⟩
def dblR(u:Nat):Nat:=[0,1,2,0,1].getD u 0
theorem dbl_kids:∀v:Fin 5,∀p∈(dblN[v.1]?).elim [] (fun x=>x.packs),∀u∈p.kids,dblR u<dblR v.1:=by decide
theorem dbl_kid{u v:Nat}(h:Kid dblN u v):dblR u<dblR v:=by
 obtain⟨x,p,h1,h2,h3⟩:=h
 have hv:v<5:=(gS h1).1
 have h4:=dbl_kids ⟨v,hv⟩ p (by show p∈(dblN[v]?).elim [] _;rw[h1];exact h2) u h3
 exact h4
theorem dbl_path{v u:Nat}(h:Path dblN v u):dblR u<dblR v:=by
 induction h with
 | one k=>exact dbl_kid k
 | step _ k ih=>have:=dbl_kid k;omega
theorem dbl_count:nodeT dblN dblN.length 2=1:=by decide
theorem dbl_root:place dblS (rootKey dblG dblW)=2:=by decide
def dblC:List Nat:=[1,3]
theorem dbl_v01:valsO dblC dblN 1≠valsO dblC dblN 0:=by decide
theorem dbl_v12:valsO dblC dblN 2≠valsO dblC dblN 1:=by decide
theorem dbl_v23:valsO dblC dblN 3=valsO dblC dblN 2:=by decide
theorem dbl_v2:(valsO dblC dblN 2)[2]?=some (some 7):=by decide
theorem dbl_still:∀e,valsO dblC dblN (2+e)=valsO dblC dblN 2
 | 0=>rfl
 | e+1=>by
  show roundToO dblC dblN (valsO dblC dblN (2+e)) dblN.length=_
  rw[dbl_still e]
  exact dbl_v23
theorem dbl_all(k:Nat):∃q:Fin 3,valsO dblC dblN k=valsO dblC dblN q.1:=by
 match k with
 | 0=>exact⟨0,rfl⟩
 | 1=>exact⟨1,rfl⟩
 | e+2=>exact⟨2,by rw[Nat.add_comm];exact dbl_still e⟩
theorem dbl_over(vs:List (Option Nat)):∀e,roundToO dblC dblN vs (5+e)=roundToO dblC dblN vs 5
 | 0=>rfl
 | e+1=>by
  show stepO dblC dblN (roundToO dblC dblN vs (5+e)) (5+e)=_
  rw[dbl_over vs e]
  unfold stepO
  rw[List.getElem?_eq_none_iff.2 (show dblN.length≤5+e by have:dblN.length=5:=rfl;omega)]
theorem dbl_small0:∀q:Fin 3,∀i:Fin 6,∀y∈roundToO dblC dblN (valsO dblC dblN q.1) i.1,y.getD 0≤1000000:=by decide
theorem dbl_sm(k i y:Nat)(h:some y∈roundToO dblC dblN (valsO dblC dblN k) i):y≤1000000:=by
 obtain⟨q,hq⟩:=dbl_all k
 rw[hq] at h
 rcases Nat.lt_or_ge i 6 with hi | hi
 ·exact dbl_small0 q ⟨i,hi⟩ _ h
 ·rw[show i=5+(i-5) by omega,dbl_over] at h
  exact dbl_small0 q ⟨5,by decide⟩ _ h
theorem dbl_least{v:Value}(h:LeastRes dblG dblW dblC v):v=.tuple ⟨[ci 7,.int .i64 0]⟩:=by
 obtain⟨E,hE,h⟩:=h
 obtain rfl:=ends_uniqT hE dbl_ends
 rcases h with ⟨hst,_⟩ | ⟨_,S,hK,h⟩
 ·exact absurd hst (by decide)
 ·obtain rfl:=keys_uniq hK dbl_keys
  rw[dbl_root] at h
  rcases h with ⟨k,y,hk,h1,h2,rfl⟩ | ⟨hno,_⟩
  ·have h1:valsO dblC dblN (k+1)=valsO dblC dblN k:=h1
   have h2:(valsO dblC dblN k)[2]?=some y:=h2
   match k,h1,h2 with
   | 0,h1,_=>exact absurd h1 dbl_v01
   | 1,h1,_=>exact absurd h1 dbl_v12
   | e+2,_,h2=>
    rw[Nat.add_comm,dbl_still e,dbl_v2] at h2
    obtain rfl:=Option.some.inj h2
    rfl
  ·exact absurd dbl_v23 (hno 2 (by decide))
section
variable {Ns:List Node}(hkid:∀u v,Kid Ns u v→u<Ns.length)(hac:∀u,u<Ns.length→¬Path Ns u u)
include hkid hac
theorem deep_chain:∀(d u:Nat),u<Ns.length→nodeT Ns (d+1) u≠nodeT Ns d u→∃l:List Nat,l.length=d+1∧l.Nodup∧∀x∈l,x<Ns.length∧(x=u∨Path Ns u x)
 | 0,u,hu,_=>⟨[u],rfl,by simp,fun x hx=>by simp only[List.mem_cons,List.not_mem_nil,or_false] at hx;subst hx;exact⟨hu,.inl rfl⟩⟩
 | d+1,u,hu,h=>by
  obtain⟨x,hx⟩:∃x,Ns[u]?=some x:=⟨_,gE hu⟩
  have hk:∃k,Kid Ns k u∧nodeT Ns (d+1) k≠nodeT Ns d k:=by
   refine Classical.byContradiction fun hno=>h ?_
   show nodeT Ns (d+1+1) u=nodeT Ns (d+1) u
   rw[nodeT,nodeT,hx]
   simp only
   congr 2
   apply List.map_congr_left
   intro p hp
   unfold packN
   congr 1
   apply List.map_congr_left
   intro k hk
   exact Classical.byContradiction fun h1=>hno ⟨k,⟨x,p,hx,hp,hk⟩,h1⟩
  obtain⟨k,hk,hd⟩:=hk
  obtain⟨l,h1,h2,h3⟩:=deep_chain d k (hkid k u hk) hd
  have hp:∀y∈l,Path Ns u y:=fun y hy=>by
   rcases (h3 y hy).2 with rfl | h4
   ·exact .one hk
   ·exact Path.trans (.one hk) h4
  refine⟨u::l,by simp[h1],?_,fun y hy=>?_⟩
  ·rw[List.nodup_cons]
   exact⟨fun hm=>hac u hu (hp u hm),h2⟩
  ·rcases List.mem_cons.1 hy with rfl | hy
   ·exact⟨hu,.inl rfl⟩
   ·exact⟨(h3 y hy).1,.inr (hp y hy)⟩
theorem deep_still{d u:Nat}(hd:Ns.length≤d)(hu:u<Ns.length):nodeT Ns (d+1) u=nodeT Ns d u:=
 Classical.byContradiction fun h=>by
  obtain⟨l,h1,h2,h3⟩:=deep_chain hkid hac d u hu h
  have:=nodup_lt Ns.length l h2 (fun x hx=>(h3 x hx).1)
  omega
theorem deep_same{u:Nat}(hu:u<Ns.length):∀(e:Nat),nodeT Ns (Ns.length+e) u=nodeT Ns Ns.length u
 | 0=>rfl
 | e+1=>by rw[←Nat.add_assoc,deep_still hkid hac zo hu,deep_same hu e]
end
theorem sat_mul(a b:Nat):min (min a MAXC*b) MAXC=min (a*b) MAXC:=by
 have h:=min_mul (min a MAXC) b
 rw[Nat.min_eq_left (Nat.min_le_right a MAXC),min_mul a b] at h
 exact h.symm
def cntP(a b:Nat):Nat:=min (a+b) MAXC
def cntT(a b:Nat):Nat:=min (a*b) MAXC
theorem fold_mul(f:Nat→Nat):∀(l:List Nat) (x:Nat),l.foldl (fun x k=>cntT x (f k)) (min x MAXC)=min (x*prodN (l.map f)) MAXC
 | [],x=>by simp[prodN]
 | k::l,x=>by
  rw[List.foldl_cons]
  show l.foldl _ (cntT (min x MAXC) (f k))=_
  unfold cntT
  rw[sat_mul]
  have:=fold_mul f l (x*f k)
  unfold cntT at this
  rw[this,Nat.mul_assoc]
  rfl
theorem fold_add(f:NPack→Nat):∀(l:List NPack) (x:Nat),l.foldl (fun s p=>cntP s (min (f p) MAXC)) (min x MAXC)=min (x+(l.map f).sum) MAXC
 | [],x=>by simp
 | p::l,x=>by
  rw[List.foldl_cons]
  show l.foldl _ (cntP (min x MAXC) (min (f p) MAXC))=_
  have e:cntP (min x MAXC) (min (f p) MAXC)=min (x+f p) MAXC:=min_add _ _
  rw[e,fold_add f l (x+f p),List.map_cons,List.sum_cons,Nat.add_assoc]
def overN(f:Nat→Nat)(x:Node):Nat:=(x.packs.map (packN f)).sum
structure IsCnt(r:RingI):Prop where
 P:r.P=cntP
 T:r.T=cntT
 R:r.R=fun _=>1
 M:r.M=MAXC
theorem nodeV_cnt{r:RingI}(hr:IsCnt r)(vs:List Nat)(x:Node):nodeV r vs x=min (overN (valAt vs) x) MAXC:=by
 have h1:∀p,packV r vs p=min (packN (valAt vs) p) MAXC:=fun p=>by
  unfold packV packN
  rw[hr.T,hr.R]
  have:=fold_mul (valAt vs) p.kids 1
  rw[Nat.one_mul] at this
  exact this
 unfold nodeV overN
 rw[hr.P,show (fun s p=>cntP s (packV r vs p))=fun s p=>cntP s (min (packN (valAt vs) p) MAXC) from funext fun s=>funext fun p=>by rw[h1 p]]
 have:=fold_add (packN (valAt vs)) x.packs 0
 rw[Nat.zero_add] at this
 exact this
theorem overN_le{f h:Nat→Nat}{x:Node}(hf:∀p∈x.packs,∀k∈p.kids,f k≤h k):overN f x≤overN h x:=by
 unfold overN
 refine sumN_le _ fun p hp=>?_
 unfold packN
 exact prodN_le _ fun k hk=>hf p hp k hk
theorem prodN_sat(f:Nat→Nat):∀(l:List Nat),min (prodN (l.map fun k=>min (f k) MAXC)) MAXC=min (prodN (l.map f)) MAXC
 | []=>rfl
 | k::l=>by
  show min (min (f k) MAXC*prodN (l.map fun k=>min (f k) MAXC)) MAXC=min (f k*prodN (l.map f)) MAXC
  rw[sat_mul,←min_mul,prodN_sat f l,min_mul]
theorem overN_sat(f:Nat→Nat)(x:Node):min (overN (fun k=>min (f k) MAXC) x) MAXC=min (overN f x) MAXC:=by
 unfold overN
 have:∀l:List NPack,min (l.map (packN fun k=>min (f k) MAXC)).sum MAXC=min (l.map (packN f)).sum MAXC:=fun l=>by
  induction l with
  | nil=>rfl
  | cons p l ih=>
   rw[List.map_cons,List.map_cons,List.sum_cons,List.sum_cons,←min_add,ih]
   have e:min (packN (fun k=>min (f k) MAXC) p) MAXC=min (packN f p) MAXC:=prodN_sat f p.kids
   rw[e,min_add]
 exact this _
structure Leafy(Ns:List Node):Prop where
 kid:∀u v,Kid Ns u v→u<Ns.length
 leaf:∀(u:Nat) (x:Node),Ns[u]?=some x→x.key.sym.term=true→x.packs=[]
structure Betw(Ns:List Node)(D k i:Nat)(cur:List Nat):Prop where
 len:cur.length=Ns.length
 low:∀u,u<Ns.length→min (nodeT Ns k u) MAXC≤valAt cur u
 low':∀u,u<i→u<Ns.length→min (nodeT Ns (k+1) u) MAXC≤valAt cur u
 up:∀u,valAt cur u≤min (nodeT Ns D u) MAXC
 leaf:∀(u:Nat) (x:Node),Ns[u]?=some x→x.key.sym.term=true→valAt cur u=1
theorem node_at{Ns:List Node}{u:Nat}{x:Node}(hx:Ns[u]?=some x)(d:Nat):nodeT Ns (d+1) u=leafN x+overN (nodeT Ns d) x:=by
 rw[nodeT,hx];rfl
theorem valAt_set_ne{vs:List Nat}{i u z:Nat}(h:u≠i):valAt (vs.set i z) u=valAt vs u:=by unfold valAt;rw[List.getElem?_set_ne (Ne.symm h)]
theorem valAt_set{vs:List Nat}{i z:Nat}(h:i<vs.length):valAt (vs.set i z) i=z:=by unfold valAt;rw[List.getElem?_set_self h];rfl
theorem Betw.step{Ns:List Node}(hl:Leafy Ns){r:RingI}(hr:IsCnt r){D k i:Nat}(hD:∀u,u<Ns.length→nodeT Ns (D+1) u=nodeT Ns D u)(hi:i<Ns.length){cur:List Nat}(h:Betw Ns D k i cur):Betw Ns D k (i+1) (stepV r Ns cur i):=by
 obtain⟨x,hx⟩:∃x,Ns[i]?=some x:=⟨_,gE hi⟩
 unfold stepV
 rw[hx]
 simp only
 by_cases ht:x.key.sym.term=true
 ·rw[if_pos ht]
  refine⟨h.len,h.low,fun u hu hun=>?_,h.up,h.leaf⟩
  by_cases e:u=i
  ·subst e
   rw[h.leaf u x hx ht,node_at hx]
   unfold leafN overN
   rw[if_pos ht,hl.leaf u x hx ht]
   exact Nat.min_le_left _ _
  ·exact h.low' u zo hun
 ·rw[if_neg ht]
  have hlen:i<cur.length:=by rw[h.len];exact hi
  have h0:leafN x=0:=by unfold leafN;rw[if_neg ht]
  have hk:∀p∈x.packs,∀k∈p.kids,k<Ns.length:=fun p hp k hk=>hl.kid k i ⟨x,p,hx,hp,hk⟩
  have hv:=nodeV_cnt hr cur x
  have hlow:min (nodeT Ns (k+1) i) MAXC≤nodeV r cur x:=by
   rw[hv,node_at hx,h0,Nat.zero_add,←overN_sat]
   have:=overN_le (f:=fun u=>min (nodeT Ns k u) MAXC) (h:=valAt cur) (x:=x) (fun p hp u hu=>h.low u (hk p hp u hu))
   omega
  have hup:nodeV r cur x≤min (nodeT Ns D i) MAXC:=by
   rw[hv,←hD i hi,node_at hx,h0,Nat.zero_add,←overN_sat (nodeT Ns D)]
   have:=overN_le (f:=valAt cur) (h:=fun u=>min (nodeT Ns D u) MAXC) (x:=x) (fun p hp u hu=>h.up u)
   omega
  refine⟨by simp[h.len],fun u hu=>?_,fun u hu hun=>?_,fun u=>?_,fun u y hy hty=>?_⟩
  ·by_cases e:u=i
   ·subst e
    rw[valAt_set hlen]
    have:=nodeT_mono Ns k u
    omega
   ·rw[valAt_set_ne e];exact h.low u hu
  ·by_cases e:u=i
   ·subst e;rw[valAt_set hlen];exact hlow
   ·rw[valAt_set_ne e];exact h.low' u zo hun
  ·by_cases e:u=i
   ·subst e;rw[valAt_set hlen];exact hup
   ·rw[valAt_set_ne e];exact h.up u
  ·have e:u≠i:=by rintro rfl;rw[hx] at hy;cases hy;exact ht hty
   rw[valAt_set_ne e];exact h.leaf u y hy hty
theorem Betw.round{Ns:List Node}(hl:Leafy Ns){r:RingI}(hr:IsCnt r){D k:Nat}(hD:∀u,u<Ns.length→nodeT Ns (D+1) u=nodeT Ns D u){vs:List Nat}(h:Betw Ns D k 0 vs):∀i,i≤Ns.length→Betw Ns D k i (roundTo r Ns vs i)
 | 0,_=>h
 | i+1,hi=>(Betw.round hl hr hD h i zo).step hl hr hD zo
theorem betw_at{Ns:List Node}(hl:Leafy Ns){r:RingI}(hr:IsCnt r){D:Nat}(hD1:1≤D)(hD:∀u,u<Ns.length→nodeT Ns (D+1) u=nodeT Ns D u):∀k,Betw Ns D k 0 (valsAt r Ns k)
 | 0=>by
  have at_:∀u x,Ns[u]?=some x→valAt (startV Ns) u=leafN x:=fun u x hx=>by unfold valAt startV;rw[List.getElem?_map,hx];rfl
  refine⟨by simp[valsAt,startV],fun u hu=>?_,fun u hu=>absurd hu (Nat.not_lt_zero _),fun u=>?_,fun u x hx ht=>?_⟩
  ·show min 0 MAXC≤_;omega
  ·show valAt (startV Ns) u≤_
   cases hx:Ns[u]? with
   | none=>unfold valAt startV;rw[List.getElem?_map,hx];exact Nat.zero_le _
   | some x=>
    rw[at_ u x hx]
    obtain⟨d,rfl⟩:∃d,D=d+1:=⟨D-1,by omega⟩
    rw[node_at hx]
    have:leafN x≤1:=by unfold leafN;split<;>omega
    have:MAXC=1000000000:=rfl
    omega
  ·show valAt (startV Ns) u=1
   rw[at_ u x hx];unfold leafN;rw[if_pos ht]
 | k+1=>by
  have h:=Betw.round hl hr hD (betw_at hl hr hD1 hD k) Ns.length (Nat.le_refl _)
  exact⟨h.len,fun u hu=>h.low' u hu hu,fun u hu=>absurd hu (Nat.not_lt_zero _),h.up,h.leaf⟩
theorem vals_lim{Ns:List Node}(hl:Leafy Ns){r:RingI}(hr:IsCnt r){D:Nat}(hD1:1≤D)(hD:∀u,u<Ns.length→nodeT Ns (D+1) u=nodeT Ns D u){u:Nat}(hu:u<Ns.length):valAt (valsAt r Ns D) u=min (nodeT Ns D u) MAXC:=by
 have h:=betw_at hl hr hD1 hD D
 have:=h.low u hu
 have:=h.up u
 omega
theorem vals_stop{Ns:List Node}(hl:Leafy Ns){r:RingI}(hr:IsCnt r){D:Nat}(hD1:1≤D)(hD:∀u,u<Ns.length→nodeT Ns (D+1) u=nodeT Ns D u):valsAt r Ns (D+1)=valsAt r Ns D:=by
 refine List.ext_getElem? fun u=>?_
 rcases Nat.lt_or_ge u Ns.length with hu | hu
 ·have h1:=vals_lim hl hr hD1 hD hu
  have h:=betw_at hl hr hD1 hD (D+1)
  have h2:=h.low u hu
  have h3:=h.up u
  rw[hD u hu] at h2
  have e:valAt (valsAt r Ns (D+1)) u=valAt (valsAt r Ns D) u:=by omega
  unfold valAt at e
  rw[gE (by rw[valsAt_len];exact hu),gE (by rw[valsAt_len];exact hu)] at e ⊢
  simpa using e
 ·rw[List.getElem?_eq_none_iff.2 (by rw[valsAt_len];exact hu),List.getElem?_eq_none_iff.2 (by rw[valsAt_len];exact hu)]
theorem vals_same{r:RingI}{Ns:List Node}{k:Nat}(h:valsAt r Ns (k+1)=valsAt r Ns k):∀e,valsAt r Ns (k+e)=valsAt r Ns k
 | 0=>rfl
 | e+1=>by
  have:=vals_same h e
  show roundV r Ns (valsAt r Ns (k+e))=_
  rw[this];exact h
theorem value_cnt{Ns:List Node}(hl:Leafy Ns){r:RingI}(hr:IsCnt r)(hac:∀u,u<Ns.length→¬Path Ns u u)(hfew:Ns.length≤150){root:Nat}(hroot:root<Ns.length){v:Value}(h:ValueRes r Ns root v) :
  v=.tuple ⟨[ci (min (nodeT Ns Ns.length root) MAXC),.int .i64 0]⟩:=by
 have hD:∀u,u<Ns.length→nodeT Ns (Ns.length+1) u=nodeT Ns Ns.length u:=fun u hu=>deep_still hl.kid hac (Nat.le_refl _) hu
 have hst:=vals_stop hl hr zo hD
 rcases h with ⟨k,y,hk,hs,hy,rfl⟩ | ⟨hno,_⟩
 ·have e:valsAt r Ns k=valsAt r Ns Ns.length:=by
   rcases Nat.le_total k Ns.length with h1 | h1
   ·have:=vals_same hs (Ns.length-k)
    rw[show k+(Ns.length-k)=Ns.length by omega] at this
    exact this.symm
   ·have:=vals_same hst (k-Ns.length)
    rw[show Ns.length+(k-Ns.length)=k by omega] at this
    exact this
  have h2:=vals_lim hl hr zo hD hroot
  rw[←e] at h2
  unfold valAt at h2
  rw[hy] at h2
  have h2:y=_:=h2
  rw[h2]
 ·exact absurd hst (hno _ zo)
section
variable {g:Gram}(hg:Valid g){w:List Nat}{E:List (List Nat)}(hE:EndsOf g w E){S:List Key}(hK:Keys g w E (rootKey g w) S)(hst:stepB w E ⟨false,g.start⟩ 0 w.length=true)
include hg hE hK hst
theorem own_leafy(hw:w.length≤12):Leafy (S.map (mkNode g w E S)) where
 kid:=(nodes_ok hg hw hK (root_good hg w)).kid
 leaf:=fun u x hx ht=>by
  rw[List.getElem?_map] at hx
  cases hk:S[u]? with
  | none=>rw[hk] at hx;cases hx
  | some k=>
   rw[hk] at hx
   obtain rfl:=Option.some.inj hx
   exact((node_shape hg hE hK (root_good hg w) hst (gM hk)).term ht).2.2.2
omit hg hE hst in
theorem reach_path{k:Key}(h:Reachable g w E (rootKey g w) k):place S k=place S (rootKey g w)∨Path (S.map (mkNode g w E S)) (place S (rootKey g w)) (place S k):=by
 induction h with
 | root=>exact .inl rfl
 | @kid k q p h hp hq ih=>
  have hkS:=hK.all h
  have hkid:Kid (S.map (mkNode g w E S)) (place S q) (place S k):=⟨mkNode g w E S k,numPack S p,by rw[List.getElem?_map,place_at hkS];rfl,List.mem_map.2 ⟨p,hp,rfl⟩,List.mem_map.2 ⟨q,hq,rfl⟩⟩
  rcases ih with e | h2
  ·rw[←e];exact .inr (.one hkid)
  ·exact .inr (.step h2 hkid)
theorem own_acyclic(hw:w.length≤12){n:Nat}(hs:Still (fun d=>nodeT (S.map (mkNode g w E S)) d (place S (rootKey g w))) n):∀u,u<(S.map (mkNode g w E S)).length→¬Path (S.map (mkNode g w E S)) u u:=fun u hu hp=>by
 have hok:=nodes_ok hg hw hK (root_good hg w)
 have hpr:=nodes_prod hg hE hK (root_good hg w) hst
 obtain⟨z,h1,h2⟩:=cycle_unbound hpr hok.kid hp
 rw[List.length_map] at hu
 obtain⟨k,hk⟩:∃k,S[u]?=some k:=⟨_,gE hu⟩
 have hpl:=place_of hK.nodup hk
 have hU:Unbound fun d=>nodeT (S.map (mkNode g w E S)) d (place S (rootKey g w)):=by
  rcases reach_path hK (hK.reach k (gM hk)) with e | h3
  ·rw[←e,hpl];exact path_unbound hpr hok.kid h1 h2
  ·rw[hpl] at h3;exact path_unbound hpr hok.kid (h3.trans h1) h2
 obtain⟨D,hD⟩:=hs
 obtain⟨d,hd⟩:=hU (n+1)
 have h3:=nodeT_le (S.map (mkNode g w E S)) (show d≤max d D by omega) (place S (rootKey g w))
 have h4:=hD (max d D) zo
 simp only at h4 hd
 omega
def spanN(i j:Nat):Nat:=[0,1,3,6,10,15,21].getD j 0+i
omit hg hE hK hst in
theorem spanN_inj0:∀j q i p:Fin 7,i.1≤j.1→p.1≤q.1→spanN i.1 j.1=spanN p.1 q.1→i.1=p.1∧j.1=q.1:=by decide
omit hg hE hK hst in
theorem spanN_inj:∀j,j<7→∀i,i<j+1→∀q,q<7→∀p,p<q+1→spanN i j=spanN p q→i=p∧j=q:=fun j hj i hi q hq p hp h=>spanN_inj0 ⟨j,hj⟩ ⟨q,hq⟩ ⟨i,by omega⟩ ⟨p,by omega⟩ (by show i≤j;omega) (by show p≤q;omega) h
omit hg hE hK hst in
theorem spanN_lt0:∀j i:Fin 7,i.1≤j.1→spanN i.1 j.1<28:=by decide
omit hg hE hK hst in
theorem spanN_lt:∀j,j<7→∀i,i<j+1→spanN i j<28:=fun j hj i hi=>spanN_lt0 ⟨j,hj⟩ ⟨i,by omega⟩ (by show i≤j;omega)
def keyN(k:Key):Nat:=if k.sym.term=true then 112+k.frm else k.sym.n*28+spanN k.frm k.to
theorem own_few(hn4:g.nons≤4)(hw:w.length≤6):(S.map (mkNode g w E S)).length≤150:=by
 rw[List.length_map]
 have info:∀k∈S,k.frm≤k.to∧k.to≤6∧(k.sym.term=true→k.to=k.frm+1∧w[k.frm]?=some k.sym.n)∧(k.sym.term=false→k.sym.n<4):=fun k hk=>by
  have hgood:=(hK.reach k hk).good hg (root_good hg w)
  have hd:=(step_der hE hgood.2.1).1 ((hK.reach k hk).step (root:=rootKey g w) hst)
  have hs:=node_shape hg hE hK (root_good hg w) hst hk
  refine⟨der_le hd,by have:=hgood.2.2;omega,fun ht=>⟨(hs.term ht).1,(hs.term ht).2.2.1⟩,fun ht=>?_⟩
  have:=hgood.1
  unfold SymOk at this
  rw[if_neg (by simp[ht])] at this
  omega
 have h:=nodup_lt 118 (S.map keyN) ?_ ?_
 ·rw[List.length_map] at h;omega
 ·rw[List.nodup_iff_pairwise_ne,List.pairwise_map]
  refine(List.nodup_iff_pairwise_ne.1 hK.nodup).imp_of_mem ?_
  intro a b ha hb hne he
  apply hne
  obtain⟨a1,a2,a3,a4⟩:=info a ha
  obtain⟨b1,b2,b3,b4⟩:=info b hb
  have la:=spanN_lt a.to zo a.frm zo
  have lb:=spanN_lt b.to zo b.frm zo
  have inj:=spanN_inj a.to zo a.frm zo b.to zo b.frm zo
  obtain⟨⟨ta,na⟩,fa,oa⟩:=a
  obtain⟨⟨tb,nb⟩,fb,ob⟩:=b
  unfold keyN at he
  simp only at *
  cases ta with
  | true=>
   obtain⟨a5,a6⟩:=a3 rfl
   cases tb with
   | true=>
    obtain⟨b5,b6⟩:=b3 rfl
    simp only[if_true] at he
    obtain rfl:fa=fb:=by omega
    obtain rfl:na=nb:=by rw[a6] at b6;exact Option.some.inj b6
    obtain rfl:oa=ob:=by omega
    rfl
   | false=>
    have:=b4 rfl
    simp only[if_true,Bool.false_eq_true,if_false] at he
    omega
  | false=>
   have:=a4 rfl
   cases tb with
   | true=>
    simp only[if_true,Bool.false_eq_true,if_false] at he
    omega
   | false=>
    have:=b4 rfl
    simp only[Bool.false_eq_true,if_false] at he
    obtain⟨rfl,rfl⟩:=inj zo
    obtain rfl:na=nb:=by omega
    rfl
 ·intro x hx
  obtain⟨k,hk,rfl⟩:=List.mem_map.1 hx
  obtain⟨a1,a2,a3,a4⟩:=info k hk
  have la:=spanN_lt k.to zo k.frm zo
  unfold keyN
  split
  ·rename_i h;have:=a3 h;omega
  ·rename_i h;have:=a4 (by simpa using h);omega
end
theorem doubling_spec(F:Frz):Abs.Spec CC 57 [] F [] fun F' v o=>o=[]∧∃a c,v=.agg ⟨gramCells dblG a 2 c⟩∧Arr tRule F' a 2 c dblG.rules:=by
 refine Abs.Spec.fn (n:=10) Tryz.func57 rfl rfl fun own=>?_
 refine AW.seq (AW.reg ?_)
 refine WT.allocT hT Z Z Z Z Z Z (fun i0 hi0=>?_)
 refine zB7 ?_
 refine WT.buildT hT Z Z Z Z Z Z Z Z Z Z Z Z Z Z (fun i5 hi5=>?_)
 refine zB7 ?_
 refine WT.buildT hT Z Z Z Z Z Z Z Z Z Z Z Z Z Z (fun i8 hi8=>?_)
 refine zB7 ?_
 refine WT.buildT hT Z Z Z Z Z Z Z Z Z Z Z Z Z Z (fun i10 hi10=>?_)
 refine WT.freezeAll 2 Z Z (fun F1 hF1 hB1=>?_)
 refine WT.freezeAll 1 Z Z (fun F2 hF2 hB2=>?_)
 refine WT.freezeAll 0 Z Z (fun F3 hF3 hB3=>?_)
 have h5:Arr tSym F3 (some ⟨i5,0,none⟩) 2 2 [⟨false,0⟩,⟨false,0⟩]:=(Bld.frozen (F:=F) (B:=[(i5,.cells false [.bool false,.int .i64 0,.bool false,.int .i64 0])]) ⟨rfl,.inr ⟨i5,_,rfl,rfl,rfl,Cells.cons (R:=tSym) (x:=⟨false,0⟩) (l:=[_,_]) rfl (Cells.single (R:=tSym) (x:=⟨false,0⟩) rfl),by decide⟩⟩ hF1 hB1).mono (hF2.trans hF3)
 have h8:Arr tSym F3 (some ⟨i8,0,none⟩) 1 2 [⟨true,0⟩]:=(Bld.frozen (F:=F1) (B:=[(i8,.cells false [.bool true,.int .i64 0])]) ⟨rfl,.inr ⟨i8,_,rfl,rfl,rfl,Cells.single (R:=tSym) (x:=⟨true,0⟩) rfl,by decide⟩⟩ hF2 hB2).mono hF3
 have h10:Arr tRule F3 (some ⟨i10,0,none⟩) 2 2 dblG.rules:=Bld.frozen (F:=F3) (B:=[(i10,.cells false [.int .i64 0,.slice (some ⟨i5,0,none⟩) 2 2,.int .i64 0,.slice (some ⟨i8,0,none⟩) 1 2])]) ⟨rfl,.inr ⟨i10,_,rfl,rfl,rfl,Cells.cons (R:=tRule) (x:=⟨0,[⟨false,0⟩,⟨false,0⟩]⟩) (l:=[_,_]) ⟨_,_,_,rfl,h5⟩ (Cells.single (R:=tRule) (x:=⟨0,[⟨true,0⟩]⟩) ⟨_,_,_,rfl,h8⟩),by decide⟩⟩ (Frz.le.refl _) hB3
 refine zB7 ?_
 exact AW.ret ⟨_,[],⟨_,_,⟨_,rfl,fun G h0 s0=>loadA_cells (s0.has (p:=3) rfl me) (readT_ok hT rfl)⟩,rfl,rfl⟩,zsb,rfl,_,_,rfl,h10⟩
theorem one_spec(F:Frz)(n:Nat):Abs.Spec CC 58 [ci n] F [] fun _ v o=>o=[]∧v=ci 1:=by
 refine Abs.Spec.fn (n:=3) Tryz.func58 rfl rfl fun own=>?_
 refine zB4 ?_
 exact AW.ret ⟨_,[],⟨_,_,rfl,rfl,rfl⟩,zsb,rfl,rfl⟩
def cntRf(gr:Nat):RingI:=⟨54,55,56,gr,[],[],[],[],cntP,cntT,fun _=>1,MAXC⟩
theorem cnt1_spec(F:Frz)(a b:Nat)(ha:a≤MAXC)(hb:b≤MAXC):Abs.Spec CC 54 [ci a,ci b] F [] fun _ v o=>o=[]∧v=ci (cntP a b):=by
 have:MAXC=1000000000:=rfl
 refine Abs.Spec.fn (n:=9) Tryz.func54 rfl rfl fun own=>?_
 refine zB4 ?_
 refine WT.know (v':=.int .i64 ((a+b:Nat):Int)) 7 Z (by congr 1) ?_
 refine WT.minT (x:=a+b) (y:=1000000000) Z Z Z Z Z Z ?_
 refine zB4 ?_
 exact AW.ret ⟨_,[],⟨_,_,rfl,rfl,rfl⟩,zsb,rfl,rfl⟩
theorem cnt2_spec(F:Frz)(a b:Nat)(ha:a≤MAXC)(hb:b≤MAXC):Abs.Spec CC 55 [ci a,ci b] F [] fun _ v o=>o=[]∧v=ci (cntT a b):=by
 have:MAXC=1000000000:=rfl
 have hmm:a*b≤1000000000*1000000000:=Nat.mul_le_mul zo zo
 refine Abs.Spec.fn (n:=9) Tryz.func55 rfl rfl fun own=>?_
 refine zB4 ?_
 refine WT.mulT Z Z Z Z Z Z (by rw[←Int.natCast_mul];omega) ?_
 refine WT.know (v':=.int .i64 ((a*b:Nat):Int)) 7 Z (by congr 1) ?_
 refine WT.minT (x:=a*b) (y:=1000000000) Z Z Z Z Z Z ?_
 refine zB4 ?_
 exact AW.ret ⟨_,[],⟨_,_,rfl,rfl,rfl⟩,zsb,rfl,rfl⟩
theorem cnt3_spec(F:Frz)(a b:Nat):Abs.Spec CC 56 [ci a,ci b] F [] fun _ v o=>o=[]∧v=.bool (decide (a=b)):=by
 refine Abs.Spec.fn (n:=8) Tryz.func56 rfl rfl fun own=>?_
 refine zB4 ?_
 refine AW.ret ⟨_,[],⟨_,_,rfl,rfl,rfl⟩,zsb,rfl,?_⟩
 show Value.bool ((a:Int)==(b:Int))=_
 congr 1
 by_cases h:a=b
 ·subst h;simp
 ·rw[decide_eq_false h]
  have:(a:Int)≠(b:Int):=by omega
  simpa using this
theorem counting_spec(F:Frz):Abs.Spec CC 18 [] F [] fun _ v o=>o=[]∧v=.agg ⟨(cntRf 0).ring⟩:=by
 refine Abs.Spec.fn (n:=2) Tryz.func18 rfl rfl fun own=>?_
 refine AW.seq (AW.reg ?_)
 refine WT.allocT hT Z Z Z Z Z Z (fun i0 hi0=>?_)
 refine zB4 ?_
 exact AW.ret ⟨_,[],⟨_,_,⟨_,rfl,fun G h0 s0=>loadA_cells (s0.has (p:=0) rfl me) (readT_ok hT rfl)⟩,rfl,rfl⟩,zsb,rfl,rfl⟩
theorem cntR_is(gr:Nat):IsCnt (cntRf gr):=⟨rfl,rfl,rfl,rfl⟩
theorem cntR_ok(F:Frz){gr:Nat}(h:HasF gr)(hs:∀n:Nat,Abs.Spec CC gr [ci n] F [] fun _ v o=>o=[]∧v=ci 1):RingOk F (cntRf gr) where
 hp:=⟨_,Tryz.func54,rfl⟩
 ht:=⟨_,Tryz.func55,rfl⟩
 hs:=⟨_,Tryz.func56,rfl⟩
 hr:=h
 P:=fun a b ha hb=>⟨Nat.min_le_right _ _,cnt1_spec F a b ha hb⟩
 T:=fun a b ha hb=>⟨Nat.min_le_right _ _,cnt2_spec F a b ha hb⟩
 S:=fun a b=>cnt3_spec F a b
 R:=fun n=>⟨by show 1≤MAXC;decide,hs n⟩
 one:=by show 1≤MAXC;decide
theorem values_spec(F:Frz)(hL:Laid F):Abs.Spec CC 20 [] F [] fun _ v o=>o=[]∧v=.bool true:=by
 refine Abs.Spec.fn (n:=45) Tryz.func20 rfl rfl fun own=>?_
 refine zB7 ?_
 refine WT.callF0 Tryz.func57 Z Z Z Z Z Z (doubling_spec _) (fun F1 v hF1 hv=>?_)
 obtain⟨ga,gc,rfl,hr⟩:=hv
 skip
 refine WT.buildT hT Z Z Z Z Z Z Z Z Z Z Z Z Z Z (fun i9 hi9=>?_)
 refine WT.freezeAll 0 Z Z (fun F2 hF2 hB2=>?_)
 have hw:Arr tNat F2 (some ⟨i9,0,none⟩) 2 1 dblW:=arr_ci (hB2 i9 _ me) rfl rfl
 have hgv:=dbl_small.valid
 have hw2:∀t∈dblW,t<dblG.terms:=by decide
 have hL2:=(hL.mono hF1).mono hF2
 refine WT.callF0 Tryz.func15 Z Z Z Z Z Z (forestOf_spec _ hL2 dblG hgv (hr.mono hF2) hw (by decide) hw2) (fun F3 v hF3 hv=>?_)
 obtain⟨E,hE,hv⟩:=hv
 obtain⟨fa,fn,fc,fr,rfl,hf⟩:∃fa fn fc fr,v=.tuple ⟨[.agg ⟨[.slice fa fn fc,.int .i64 fr]⟩,.int .i64 0]⟩∧FV dblG dblW F3 fa fn fc fr:=by
  have hv0:=hv
  rcases hv with ⟨s,xa,xn,xc,xr,rfl,rfl,h3,h4⟩ | ⟨_,_,L,h1,h2,h3⟩
  ·exact⟨_,_,_,_,rfl,E,hE,hv0⟩
  ·exfalso
   have:=packs_small dbl_small (by decide) (E:=E) h1 fun k hk=>(h2 k hk).good hgv (root_good hgv dblW)
   omega
 clear hv
 have hL3:=hL2.mono hF3
 refine zB7 ?_
 refine WT.allocT hT Z Z Z Z Z Z (fun i1 hi1=>?_)
 refine zB7 ?_
 refine AW.draw (ps:=[(1,0),(1,2)]) Z Z ?_
 skip
 refine WT.callF0 Tryz.func57 Z Z Z Z Z Z (doubling_spec _) (fun F4 v hF4 hv=>?_)
 obtain⟨ha,hc,rfl,hr4⟩:=hv
 refine zB7 ?_
 refine WT.callV Tryz.func18 Z Z Z Z Z Z (counting_spec _) (fun v hv=>?_)
 subst hv
 have hvs:=value_spec F4 (hL3.mono hF4) dblG hgv hr4 (by decide) hw2 (hf.mono hF4) (cntRf 58) (fun G _=>cntR_ok G ⟨_,Tryz.func58,rfl⟩ (one_spec G))
 skip
 refine WT.callV Tryz.func17 Z Z Z Z Z Z hvs (fun v hv=>?_)
 have hv1:v=.tuple ⟨[ci 1,.int .i64 0]⟩:=by
  obtain⟨E1,hE1,hv⟩:=hv
  obtain rfl:=ends_uniqT hE1 dbl_ends
  rcases hv with ⟨hst,_⟩ | ⟨hst,S,hK,hres⟩
  ·exact absurd hst (by decide)
  ·obtain rfl:=keys_uniq hK dbl_keys
   rw[dbl_root] at hres
   have h1:=value_cnt (own_leafy hgv dbl_ends dbl_keys hst (by decide)) (cntR_is _) (fun u _ hp=>Nat.lt_irrefl _ (dbl_path hp)) (show dblN.length≤150 by decide) (show 2<dblN.length by decide) hres
   have h2:min (nodeT dblN dblN.length 2) MAXC=1:=by rw[dbl_count];decide
   rw[show List.map (mkNode dblG dblW dblE dblS) dblS=dblN from rfl,h2] at h1
   exact h1
 clear hv
 subst hv1
 refine zB7 ?_
 refine⟨zrC,?_⟩
 refine zB7 ?_
 refine AW.draw (ps:=[(1,0),(1,2)]) Z Z ?_
 skip
 refine WT.callF0 Tryz.func57 Z Z Z Z Z Z (doubling_spec _) (fun F5 v hF5 hv=>?_)
 obtain⟨ka,kc,rfl,hr5⟩:=hv
 refine zB7 ?_
 refine WT.buildT hT Z Z Z Z Z Z Z Z Z Z Z Z Z Z (fun i23 hi23=>?_)
 refine WT.freezeAll 0 Z Z (fun F6 hF6 hB6=>?_)
 have hc6:Arr tNat F6 (some ⟨i23,0,none⟩) 2 1 dblC:=arr_ci (hB6 i23 _ me) rfl rfl
 have hF46:=(hF4.trans hF5).trans hF6
 have hls:=least_spec F6 (hL3.mono hF46) dblG hgv (hr5.mono hF6) (by decide) hw2 (hf.mono hF46) hc6 (by decide) rfl (fun E S hE hK k i y hy=>by
  obtain⟨rfl,rfl⟩:=dbl_only hE hK
  exact dbl_sm k i y hy)
 refine WT.callV Tryz.func33 Z Z Z Z Z Z hls (fun v hv=>?_)
 obtain rfl:=dbl_least hv
 refine zB7 ?_
 refine⟨zrC,?_⟩
 refine zB7 ?_
 exact AW.ret ⟨_,[],⟨_,_,rfl,rfl,rfl⟩,zsb,rfl,rfl⟩
theorem cnt4_spec(F:Frz)(n:Nat):Abs.Spec CC 19 [ci n] F [] fun _ v o=>o=[]∧v=ci 1:=by
 refine Abs.Spec.fn (n:=3) Tryz.func19 rfl rfl fun own=>?_
 refine zB4 ?_
 exact AW.ret ⟨_,[],⟨_,_,rfl,rfl,rfl⟩,zsb,rfl,rfl⟩
theorem semiCounts_law(F:Frz)(hL:Laid F){a b:Option Addr}{m n c d:Nat}{l w0:List Int}(hl:Arr tInt F a m c l)(hw0:Arr tInt F b n d w0)(hm:n≤9223372036854775807) :
  Abs.Spec CC 4 [.slice a m c,.slice b n d] F [] fun _ v o=>o=[]∧v=.bool true:=by
 refine Abs.Spec.fn (n:=59) Tryz.func4 rfl rfl fun own=>?_
 refine zB4 ?_
 refine WT.callF0 Tryz.func7 Z Z Z Z Z Z (made_spec _ hl hw0 hm 6 (by decide)) (fun F1 v hF1 hv=>?_)
 obtain⟨g,ga,gm,gc,wa,wn,wc,w,rfl,hg,hr,hw,hw1,hw2⟩:=hv
 have hL1:=hL.mono hF1
 have hgv:=hg.valid
 unfold gramCells
 refine zB4 ?_
 refine WT.allocT hT Z Z Z Z Z Z (fun i5 hi5=>?_)
 refine zB4 ?_
 refine WT.callF0 Tryz.func15 Z Z Z Z Z Z (forestOf_spec _ hL1 g hgv hr hw zo hw2) (fun F2 v hF2 hv=>?_)
 obtain⟨E,hE,hv⟩:=hv
 obtain⟨fa,fn,fc,fr,rfl,hf⟩:∃fa fn fc fr,v=.tuple ⟨[.agg ⟨[.slice fa fn fc,.int .i64 fr]⟩,.int .i64 0]⟩∧FV g w F2 fa fn fc fr:=by
  have hv0:=hv
  rcases hv with ⟨s,xa,xn,xc,xr,rfl,rfl,h3,h4⟩ | ⟨_,_,L,h1,h2,h3⟩
  ·exact⟨_,_,_,_,rfl,E,hE,hv0⟩
  ·exfalso
   have:=packs_small hg hw1 (E:=E) h1 fun k hk=>(h2 k hk).good hgv (root_good hgv w)
   omega
 clear hv
 have hL2:=hL1.mono hF2
 have hr2:=hr.mono hF2
 refine zB4 ?_
 refine WT.allocT hT Z Z Z Z Z Z (fun i6 hi6=>?_)
 refine zB4 ?_
 refine WT.callV Tryz.func16 Z Z Z Z Z Z (fcount_spec _ hL2 g hgv hr2 zo hw2 hf) (fun v hv=>?_)
 obtain⟨c1,rfl,hc1⟩:=hv
 refine zB4 ?_
 refine AW.draw (ps:=[(0,2),(1,2)]) Z Z ?_
 refine zB4 ?_
 refine WT.callV Tryz.func18 Z Z Z Z Z Z (counting_spec _) (fun v hv=>?_)
 subst hv
 have hvs:=value_spec F2 hL2 g hgv hr2 zo hw2 hf (cntRf 19) (fun G _=>cntR_ok G ⟨_,Tryz.func19,rfl⟩ (cnt4_spec G))
 unfold gramCells at hvs
 refine WT.callV Tryz.func17 Z Z Z Z Z Z hvs (fun v hv=>?_)
 obtain⟨E',hE',hv⟩:=hv
 obtain⟨y,e,rfl,hye⟩:∃(y:Nat) (e:Int),v=.tuple ⟨[ci y,.int .i64 e]⟩∧(c1≠-1→e=0∧c1=(y:Int)):=by
  rcases hv with ⟨hst,rfl⟩ | ⟨hst,S,hK,hres⟩
  ·refine⟨0,0,rfl,fun hc=>⟨rfl,?_⟩⟩
   rcases hc1 with ⟨n0,⟨D,hD⟩,h2⟩ | ⟨_,h2⟩
   ·have h3:=hD D (Nat.le_refl _)
    have h4:symT g w D ⟨false,g.start⟩ 0 w.length=0:=by
     rcases Nat.eq_zero_or_pos (symT g w D ⟨false,g.start⟩ 0 w.length) with h | h
     ·exact h
     ·have:=(step_der hE' (Nat.zero_le _)).2 (symT_der h)
      rw[hst] at this;cases this
    simp only at h3
    rw[h4] at h3
    subst h3
    rw[h2];rfl
   ·exact absurd h2 hc
  ·rcases hc1 with ⟨n0,hs,h2⟩ | ⟨_,h2⟩
   ·have hroot:=(gS (place_at hK.first)).1
    have hs':Still (fun d=>nodeT (S.map (mkNode g w E' S)) d (place S (rootKey g w))) n0:=by
     have e:(fun d=>nodeT (S.map (mkNode g w E' S)) d (place S (rootKey g w)))=fun d=>symT g w d ⟨false,g.start⟩ 0 w.length:=by
      funext d
      exact node_sym hgv hE' hK (root_good hgv w) hst d _ hK.first
     rw[e];exact hs
    have hac:=own_acyclic hgv hE' hK hst zo hs'
    have hlf:=own_leafy hgv hE' hK hst zo
    have hroot':place S (rootKey g w)<(S.map (mkNode g w E' S)).length:=by rw[List.length_map];exact hroot
    have hv:=value_cnt hlf (cntR_is _) hac (own_few hgv hE' hK hst hg.nons.2 hw1) hroot' hres
    have hn0:nodeT (S.map (mkNode g w E' S)) (S.map (mkNode g w E' S)).length (place S (rootKey g w))=n0:=by
     obtain⟨D,hD⟩:=hs'
     have h3:=deep_same hlf.kid hac hroot' D
     rw[←h3]
     exact hD _ zo
    rw[hn0] at hv
    exact⟨_,_,hv,fun _=>⟨rfl,h2⟩⟩
   ·rcases hres with ⟨k,y,_,_,_,rfl⟩ | ⟨_,rfl⟩
    ·exact⟨_,_,rfl,fun h=>absurd h2 h⟩
    ·exact⟨_,_,rfl,fun h=>absurd h2 h⟩
 refine zB4 ?_
 refine⟨zrC,?_⟩
 refine zB4 ?_
 refine WT.callV Tryz.func20 Z Z Z Z Z Z (values_spec _ hL2) (fun v hv=>?_)
 subst hv
 by_cases hc:c1=-1
 ·subst hc
  refine zB4 ?_
  exact AW.ret ⟨_,[],⟨_,_,rfl,rfl,rfl⟩,zsb,rfl,rfl⟩
 ·obtain⟨rfl,rfl⟩:=hye hc
  refine zB4 ?_
  refine AW.ret ⟨_,[],⟨_,_,rfl,rfl,rfl⟩,zsb,rfl,?_⟩
  show Value.bool ((y:Int)==(y:Int))=_
  simp
end Go.Proofs.D